/- Texts of the law RecordLivesCard, part 9. No conditions. -/
import Derived.Test.YtdcodicoclecnaaDoorPRecordLivesCard08
import Derived.Test.YtdcodicoclecnaaDoorRows
set_option linter.unusedSimpArgs false
set_option linter.unusedVariables false
/- record: what an event must be. No conditions. -/
namespace Go.Proofs.YtdcodicoclecnaaDoor
open Go Go.RowKit Lift

theorem in_cd (S : Nat → Prop) (c : Cd) : In S (.agg (cdC c)) := .agg _ (by intro d hd; simp [cdC] at hd; rcases hd with rfl | rfl | rfl <;> exact .val _)
def evD (cs : List Cd) (h : Int) : D := .agg [.list (cds cs), dI h]
theorem in_ev (S : Nat → Prop) (cs : List Cd) (h : Int) : In S (evD cs h) := .agg _ (by intro d hd; simp at hd; rcases hd with rfl | rfl; exact .list _; exact .val _)
def cdB (l : Lay) (c : Cd) : Bool := wI c.field 0 ((l.fl.length : Int) - 1) && wI c.lim (-1000000) 1000000
def evB (l : Lay) (cs : List Cd) (h : Int) : Bool := wI cs.length 1 4 && cs.all (cdB l) && wI h 1 100
set_option maxRecDepth 100000 in
set_option maxHeartbeats 2000000 in
theorem bad_ac (l : Lay) (frs : List (List Int)) (c : Cd) (hn : l.fl.length ≤ 1000) : AC Tryd.prog 52 [.agg (cdC c), .ptr 152 0] [(96, tpC l frs), (152, [.ptr 96 0])] [(96, some (tpC l frs)), (152, some [.ptr 96 0])] (dB (!cdB l c)) := by
  refine kprecord_tape_valid_S1.ac (n0 := 200) (by simp) ⟨in_cd _ _, .ptr _ _ (by omega), trivial⟩ ⟨⟨by omega, tpC_in _ _ _⟩, ⟨by omega, by intro d hd; simp at hd; subst hd; exact .ptr _ _ (by omega)⟩, trivial⟩ rfl ?_
  unfold cprecord_tape_valid_S1 cdC cdB
  have h1 := has_ac l frs c.field hn
  have h2 := within_ac c.lim (-1000000) 1000000
  cases q1 : wI c.field 0 ((l.fl.length : Int) - 1) <;> cases q2 : wI c.lim (-1000000) 1000000
  all_goals
    rw [q1] at h1
    rw [q2] at h2
    (repeat' (first | (with_reducible first | refine thenQ_n ?_ | refine blockQ_n ?_ | refine thenQ_e ?_ | refine blockQ_t ?_ | refine blockQ_f (by decide) ?_) | apply aw_seq | apply aw_skip | apply aw_exit | apply aw_ret | apply aw_block | apply aw_condT rfl | apply aw_condF rfl | ((first | refine aw_hide fun K hK => aw_region ?_ | refine acallB (h1) (by repeat' (first | exact trivial | exact rfl | refine And.intro ?_ ?_)) (by kernel_rfl) (by kernel_rfl) (by kernel_rfl) ?_ | refine acall0 (h2) ?_ | refine ago_if (by omega) ?_ | skip); simp (disch := first | exact okY | omega) only [ZU, Nat.reduceAdd, Nat.reduceMul, dI, dB, AOpRun, aexec, D.isBot, ↓eget_h, Nat.reduceBEq, or_self, ↓reduceIte, D.cells, Int.reduceNeg, run1, ↓hget_h, ARun_some, AG_tf, Bool.and_false, AG_ff]) | subst hK))
    all_goals (refine end_q [] [(96, 96), (152, 152)] ?_ ?_ <;> repeat' (first | exact trivial | exact vr_val _ | exact vr_list _ | exact vr_ptr _ _ _ rfl | refine And.intro ⟨_, rfl, _, rfl, by decide, ?_⟩ ?_ | apply And.intro))
    all_goals exact tpC_in _ _ _
set_option maxRecDepth 100000 in
set_option maxHeartbeats 4000000 in
theorem ibad_ac (l : Lay) (frs : List (List Int)) (cs : List Cd) (hl : cs.length ≤ 1000000) (hn : l.fl.length ≤ 1000) : AC Tryd.prog 78 [.list (cds cs), .fn 52 [] [.ptr 152 0]] [(96, tpC l frs), (152, [.ptr 96 0])] [(96, some (tpC l frs)), (152, some [.ptr 96 0])] (dI (match cs.findIdx? (fun x => !cdB l x) with
    | some k => (k : Int)
    | none => -1)) := by
  refine kslices_IndexFunc_L_L_Japi_Condition_Kapi_Condition_J.ac (n0 := 200) (by simp) ⟨.list _, .fn _ _ _ (by simp) (by intro d hd; simp at hd; subst hd; exact .ptr _ _ (by omega)), trivial⟩ ⟨⟨by omega, tpC_in _ _ _⟩, ⟨by omega, by intro d hd; simp at hd; subst hd; exact .ptr _ _ (by omega)⟩, trivial⟩ rfl ?_
  unfold cslices_IndexFunc_L_L_Japi_Condition_Kapi_Condition_J
  (repeat' (first | (with_reducible first | refine thenQ_n ?_ | refine blockQ_n ?_ | refine thenQ_e ?_ | refine blockQ_t ?_ | refine blockQ_f (by decide) ?_) | apply aw_seq | apply aw_skip | apply aw_exit | apply aw_ret | apply aw_block | apply aw_condT rfl | apply aw_condF rfl | ((first | refine aw_hide fun K hK => aw_region ?_ | refine ago_if (by omega) ?_ | skip); simp (disch := first | exact okY | omega) only [ZU, Nat.reduceMul, Nat.reduceAdd, AOpRun, aexec, Nat.reduceBEq, ↓eget_h, cds_len, Int.reduceNeg, dI]) | subst hK))
  refine aw_loop (fun k : Nat => ⟨[(0, .list (cds cs)), (1, .fn 52 [] [.ptr 152 0]), (7, dI cs.length), (8, dI k)], [(96, tpC l frs), (152, [.ptr 96 0])], 400⟩) (fun k => k ≤ cs.length ∧ ∀ j, j < k → cdB l (cs[j]?.getD cd0) = true) (fun k => cs.length - k) ⟨0, ⟨by omega, fun j hj => by omega⟩, ?_⟩ ?_
  · refine wk_q [] [(96, 96), (152, 152)] ?_ ?_ <;> repeat' (first | exact trivial | exact vr_val _ | exact vr_list _ | exact vr_ptr _ _ _ rfl | apply vr_fn | refine And.intro ⟨_, rfl, .inl ⟨_, rfl, by decide, ?_⟩⟩ ?_ | apply And.intro)
    all_goals exact tpC_in _ _ _
  rintro k ⟨hk, hin⟩
  by_cases hk2 : k < cs.length
  · have g1 := cds_gd cs k hk2
    have hb := bad_ac l frs (cs[k]?.getD cd0) hn
    unfold cdC at g1 hb
    cases he : cdB l (cs[k]?.getD cd0) with
    | false =>
      have q : cs.findIdx? (fun x => !cdB l x) = some k := by
        rw [List.findIdx?_eq_some_iff_getElem]
        refine ⟨hk2, by have := he; simp [hk2] at this; simp [this], fun j hj => ?_⟩
        have := hin j hj
        simpa [show j < cs.length by omega] using this
      rw [q]
      rw [he] at hb
      (have hg : (987654321 : Nat) - 987654321 = 0 := rfl; have hr := hg; repeat' (first | (with_reducible first | refine thenQ_n ?_ | refine blockQ_n ?_ | refine thenQ_e ?_ | refine blockQ_t ?_ | refine blockQ_f (by decide) ?_) | apply aw_seq | apply aw_skip | apply aw_exit | apply aw_ret | apply aw_block | apply aw_condT rfl | apply aw_condF rfl | (refine aw_cond rfl (fun hg => ?_) (fun hg => ?_) <;> (try (have hq := hg; simp only [Bool.not_eq_true', Bool.not_eq_false', Bool.and_eq_true, Bool.and_eq_false_iff, Bool.or_eq_true, Bool.or_eq_false_iff, decide_eq_true_eq, decide_eq_false_iff_not, bne_iff_ne, beq_iff_eq, beq_eq_false_iff_ne, bne_eq_false_iff_eq, ne_eq, Int.not_lt, Int.not_le, Decidable.not_not] at hq)) <;> (try (have hr := hg; simp only [decide_eq_true_eq, decide_eq_false_iff_not] at hr)) <;> (try (exfalso; omega))) | ((first | refine aw_hide fun K hK => aw_region ?_ | refine acallB (hb) (by repeat' (first | exact trivial | exact rfl | refine And.intro ?_ ?_)) (by kernel_rfl) (by kernel_rfl) (by kernel_rfl) ?_ | refine ago_if (by omega) ?_ | skip); simp (disch := first | exact okY | omega) only [ZU, Nat.reduceMul, Nat.reduceAdd, dI, AOpRun, aexec, Nat.reduceBEq, ↓eget_h, isSh, ↓reduceIte, abin, hr, cds_all, opt1, g1, dB, Nat.reduceLeDiff, List.take, blockQ]) | subst hK))
      all_goals (refine end_q [] [(96, 96), (152, 152)] ?_ ?_ <;> repeat' (first | exact trivial | exact vr_val _ | exact vr_list _ | exact vr_ptr _ _ _ rfl | refine And.intro ⟨_, rfl, _, rfl, by decide, ?_⟩ ?_ | apply And.intro))
      all_goals exact tpC_in _ _ _
    | true =>
      rw [he] at hb
      (have hg : (987654321 : Nat) - 987654321 = 0 := rfl; have hr := hg; repeat' (first | (with_reducible first | refine thenQ_n ?_ | refine blockQ_n ?_ | refine thenQ_e ?_ | refine blockQ_t ?_ | refine blockQ_f (by decide) ?_) | apply aw_seq | apply aw_skip | apply aw_exit | apply aw_ret | apply aw_block | apply aw_condT rfl | apply aw_condF rfl | (refine aw_cond rfl (fun hg => ?_) (fun hg => ?_) <;> (try (have hq := hg; simp only [Bool.not_eq_true', Bool.not_eq_false', Bool.and_eq_true, Bool.and_eq_false_iff, Bool.or_eq_true, Bool.or_eq_false_iff, decide_eq_true_eq, decide_eq_false_iff_not, bne_iff_ne, beq_iff_eq, beq_eq_false_iff_ne, bne_eq_false_iff_eq, ne_eq, Int.not_lt, Int.not_le, Decidable.not_not] at hq)) <;> (try (have hr := hg; simp only [decide_eq_true_eq, decide_eq_false_iff_not] at hr)) <;> (try (exfalso; omega))) | ((first | refine aw_hide fun K hK => aw_region ?_ | refine acallB (hb) (by repeat' (first | exact trivial | exact rfl | refine And.intro ?_ ?_)) (by kernel_rfl) (by kernel_rfl) (by kernel_rfl) ?_ | refine ago_if (by omega) ?_ | skip); simp (disch := first | exact okY | omega) only [ZU, Nat.reduceMul, Nat.reduceAdd, dI, AOpRun, aexec, Nat.reduceBEq, ↓eget_h, isSh, ↓reduceIte, abin, hr, cds_all, opt1, g1, dB, Nat.reduceLeDiff, List.take, fits]) | subst hK))
      refine ⟨k + 1, ⟨by omega, fun j hj => ?_⟩, by omega, ?_⟩
      · rcases (by omega : j < k ∨ j = k) with h | rfl
        · exact hin j h
        · exact he
      · refine wk_q [] [(96, 96), (152, 152)] ?_ ?_ <;> repeat' (first | exact trivial | exact vr_val _ | exact vr_list _ | exact vr_ptr _ _ _ rfl | apply vr_fn | refine And.intro ⟨_, rfl, .inl ⟨_, rfl, by decide, ?_⟩⟩ ?_ | apply And.intro)
        all_goals exact tpC_in _ _ _
  · obtain rfl : k = cs.length := by omega
    have q : cs.findIdx? (fun x => !cdB l x) = none := by
      rw [List.findIdx?_eq_none_iff]
      intro y hy
      obtain ⟨j, hj, rfl⟩ := List.getElem_of_mem hy
      have := hin j hj
      simp [hj] at this
      simp [this]
    rw [q]
    (have hg : (987654321 : Nat) - 987654321 = 0 := rfl; have hr := hg; repeat' (first | (with_reducible first | refine thenQ_n ?_ | refine blockQ_n ?_ | refine thenQ_e ?_ | refine blockQ_t ?_ | refine blockQ_f (by decide) ?_) | apply aw_seq | apply aw_skip | apply aw_exit | apply aw_ret | apply aw_block | apply aw_condT rfl | apply aw_condF rfl | (refine aw_cond rfl (fun hg => ?_) (fun hg => ?_) <;> (try (have hq := hg; simp only [Bool.not_eq_true', Bool.not_eq_false', Bool.and_eq_true, Bool.and_eq_false_iff, Bool.or_eq_true, Bool.or_eq_false_iff, decide_eq_true_eq, decide_eq_false_iff_not, bne_iff_ne, beq_iff_eq, beq_eq_false_iff_ne, bne_eq_false_iff_eq, ne_eq, Int.not_lt, Int.not_le, Decidable.not_not] at hq)) <;> (try (have hr := hg; simp only [decide_eq_true_eq, decide_eq_false_iff_not] at hr)) <;> (try (exfalso; omega))) | ((first | refine aw_hide fun K hK => aw_region ?_ | refine ago_if (by omega) ?_ | skip); simp (disch := first | exact okY | omega) only [ZU, Nat.reduceMul, Nat.reduceAdd, dI, AOpRun, aexec, Nat.reduceBEq, ↓eget_h, isSh, ↓reduceIte, abin, Int.reduceNeg, hr, decide_false]) | subst hK))
    all_goals (refine end_q [] [(96, 96), (152, 152)] ?_ ?_ <;> repeat' (first | exact trivial | exact vr_val _ | exact vr_list _ | exact vr_ptr _ _ _ rfl | refine And.intro ⟨_, rfl, _, rfl, by decide, ?_⟩ ?_ | apply And.intro))
    all_goals exact tpC_in _ _ _
set_option maxRecDepth 100000 in
set_option maxHeartbeats 2000000 in
theorem cbad_ac (l : Lay) (frs : List (List Int)) (cs : List Cd) (hl : cs.length ≤ 1000000) (hn : l.fl.length ≤ 1000) : AC Tryd.prog 53 [.list (cds cs), .fn 52 [] [.ptr 152 0]] [(96, tpC l frs), (152, [.ptr 96 0])] [(96, some (tpC l frs)), (152, some [.ptr 96 0])] (dB (!cs.all (cdB l))) := by
  refine kslices_ContainsFunc_L_L_Japi_Condition_Kapi_Condition_J.ac (n0 := 200) (by simp) ⟨.list _, .fn _ _ _ (by simp) (by intro d hd; simp at hd; subst hd; exact .ptr _ _ (by omega)), trivial⟩ ⟨⟨by omega, tpC_in _ _ _⟩, ⟨by omega, by intro d hd; simp at hd; subst hd; exact .ptr _ _ (by omega)⟩, trivial⟩ rfl ?_
  unfold cslices_ContainsFunc_L_L_Japi_Condition_Kapi_Condition_J
  have hf := ibad_ac l frs cs hl hn
  cases h : cs.findIdx? (fun x => !cdB l x) with
  | none =>
    have ha : cs.all (cdB l) = true := by
      rw [List.findIdx?_eq_none_iff] at h
      exact List.all_eq_true.2 fun x hx => by simpa using h x hx
    rw [h] at hf
    rw [ha]
    (repeat' (first | (with_reducible first | refine thenQ_n ?_ | refine blockQ_n ?_ | refine thenQ_e ?_ | refine blockQ_t ?_ | refine blockQ_f (by decide) ?_) | apply aw_seq | apply aw_skip | apply aw_exit | apply aw_ret | apply aw_block | apply aw_condT rfl | apply aw_condF rfl | ((first | refine aw_hide fun K hK => aw_region ?_ | refine acallB (hf) (by repeat' (first | exact trivial | exact rfl | refine And.intro ?_ ?_)) (by kernel_rfl) (by kernel_rfl) (by kernel_rfl) ?_ | refine ago_if (by omega) ?_ | skip); simp (disch := first | exact okY | omega) only [ZU, Nat.reduceMul, Nat.reduceAdd, AOpRun, aexec, Nat.reduceBEq, ↓eget_h, dI, Int.reduceNeg, isSh, ↓reduceIte, abin, dB]) | subst hK))
    all_goals (refine end_q [] [(96, 96), (152, 152)] ?_ ?_ <;> repeat' (first | exact trivial | exact vr_val _ | exact vr_list _ | exact vr_ptr _ _ _ rfl | refine And.intro ⟨_, rfl, _, rfl, by decide, ?_⟩ ?_ | apply And.intro))
    all_goals exact tpC_in _ _ _
  | some k =>
    have ha : cs.all (cdB l) = false := by
      rw [List.findIdx?_eq_some_iff_getElem] at h
      obtain ⟨hk, he, _⟩ := h
      exact List.all_eq_false.2 ⟨cs[k], List.getElem_mem hk, by simpa using he⟩
    rw [h] at hf
    rw [ha]
    have q : decide ((k : Int) ≥ 0) = true := decide_eq_true (by omega)
    (repeat' (first | (with_reducible first | refine thenQ_n ?_ | refine blockQ_n ?_ | refine thenQ_e ?_ | refine blockQ_t ?_ | refine blockQ_f (by decide) ?_) | apply aw_seq | apply aw_skip | apply aw_exit | apply aw_ret | apply aw_block | apply aw_condT rfl | apply aw_condF rfl | ((first | refine aw_hide fun K hK => aw_region ?_ | refine acallB (hf) (by repeat' (first | exact trivial | exact rfl | refine And.intro ?_ ?_)) (by kernel_rfl) (by kernel_rfl) (by kernel_rfl) ?_ | refine ago_if (by omega) ?_ | skip); simp (disch := first | exact okY | omega) only [ZU, Nat.reduceMul, Nat.reduceAdd, AOpRun, aexec, Nat.reduceBEq, ↓eget_h, dI, isSh, ↓reduceIte, abin, dB]) | subst hK))
    all_goals (refine end_q [] [(96, 96), (152, 152)] ?_ ?_ <;> repeat' (first | exact trivial | exact vr_val _ | exact vr_list _ | exact vr_ptr _ _ _ rfl | refine And.intro ⟨_, rfl, _, rfl, by decide, ?_⟩ ?_ | apply And.intro))
    all_goals exact tpC_in _ _ _
set_option maxRecDepth 100000 in
set_option maxHeartbeats 4000000 in
theorem evalid_ac (l : Lay) (frs : List (List Int)) (cs : List Cd) (h : Int) (hl : cs.length ≤ 1000000) (hn : l.fl.length ≤ 1000) : AC Tryd.prog 30 [.ptr 96 0, evD cs h] [(96, tpC l frs)] [(96, some (tpC l frs))] (dB (evB l cs h)) := by
  refine kprecord_tape_valid.ac (n0 := 200) (by simp) ⟨.ptr _ _ (by omega), in_ev _ _ _, trivial⟩ ⟨⟨by omega, tpC_in _ _ _⟩, trivial⟩ rfl ?_
  unfold cprecord_tape_valid evD evB
  refine aw_seq (aw_region ?_)
  simp (disch := first | exact okY | omega) only [ZU, dB, Nat.reduceAdd, Nat.reduceMul, dI, AOpRun, aexec, D.isBot, ↓eget_h, Nat.reduceBEq, or_self, ↓reduceIte, D.cells]
  refine aw_wk (s' := ⟨[(2, .ptr 152 0), (3, .ptr 160 0)], [(96, tpC l frs), (152, [.ptr 96 0]), (160, [.list (cds cs), dI h])], 400⟩) ?_ ?_
  · unfold dI
    refine wk_q [] [(96, 96), (152, 200), (160, 208)] ?_ ?_ <;> repeat' (first | exact trivial | exact vr_val _ | exact vr_list _ | exact vr_ptr _ _ _ rfl | refine And.intro ⟨_, rfl, .inl ⟨_, rfl, by decide, ?_⟩⟩ ?_ | apply And.intro)
    all_goals exact tpC_in _ _ _
  have h1 := within_ac cs.length 1 4
  have h2 := cbad_ac l frs cs hl hn
  have h3 := within_ac h 1 100
  cases q1 : wI cs.length 1 4 <;> cases q2 : cs.all (cdB l) <;> cases q3 : wI h 1 100
  all_goals
    rw [q1] at h1
    rw [q2] at h2
    rw [q3] at h3
    (repeat' (first | (with_reducible first | refine thenQ_n ?_ | refine blockQ_n ?_ | refine thenQ_e ?_ | refine blockQ_t ?_ | refine blockQ_f (by decide) ?_) | apply aw_seq | apply aw_skip | apply aw_exit | apply aw_ret | apply aw_block | apply aw_condT rfl | apply aw_condF rfl | ((first | refine aw_hide fun K hK => aw_region ?_ | refine acall0 (h1) ?_ | refine acallB (h2) (by repeat' (first | exact trivial | exact rfl | refine And.intro ?_ ?_)) (by kernel_rfl) (by kernel_rfl) (by kernel_rfl) ?_ | refine acall0 (h3) ?_ | refine ago_if (by omega) ?_ | skip); simp (disch := first | exact okY | omega) only [ZU, Nat.reduceAdd, Nat.reduceMul, dI, AOpRun, aexec, ↓eget_h, Nat.reduceBEq, run1, ↓hget_h, cds_len, dB, ARun_some, AG_ft, ↓reduceIte, Bool.and_false, AG_tt]) | subst hK))
    all_goals (refine end_q [] [(96, 96)] ?_ ?_ <;> repeat' (first | exact trivial | exact vr_val _ | exact vr_list _ | refine And.intro ⟨_, rfl, _, rfl, by decide, ?_⟩ ?_ | apply And.intro))
    all_goals exact tpC_in _ _ _
end Go.Proofs.YtdcodicoclecnaaDoor
/- record: in which frames a condition holds (a reference to a yield, .yref, lies in memory; views last). No conditions. -/
namespace Go.Proofs.YtdcodicoclecnaaDoor
open Go Go.RowKit Lift

set_option maxRecDepth 100000 in
set_option maxHeartbeats 2000000 in
theorem samples2_ac (l : Lay) (frs : List (List Int)) (k : Nat) (hk : k < l.fl.length) (hn : l.fl.length ≤ 1000) : AC Tryd.prog 25 [.ptr 96 0, dI k] [(96, tpC l frs)] [(96, some (tpC l frs)), (128, some [.ptr 96 0]), (129, some (flC (fAt l k)))] (.fn 38 [] [.ptr 128 0, .ptr 129 0]) := by
  refine kprecord_tape_samples.ac (n0 := 200) (by simp) ⟨.ptr _ _ (by omega), .val _, trivial⟩ ⟨⟨by omega, tpC_in _ _ _⟩, trivial⟩ rfl ?_
  unfold cprecord_tape_samples
  unfold tpC
  have g1 : (fls l.fl)[k]? = some (flC (fAt l k)) := fls_gd l.fl k hk
  unfold flC at g1 ⊢
  have ki : (k : Int) < (l.fl.length : Int) := by omega
  have fa := fls_all l.fl
  have fl := fls_len l.fl
  (repeat' (first | (with_reducible first | refine thenQ_n ?_ | refine blockQ_n ?_ | refine thenQ_e ?_ | refine blockQ_t ?_ | refine blockQ_f (by decide) ?_) | apply aw_seq | apply aw_skip | apply aw_exit | apply aw_ret | apply aw_block | apply aw_condT rfl | apply aw_condF rfl | ((first | refine aw_hide fun K hK => aw_region ?_ | refine ago_if (by omega) ?_ | skip); simp (disch := first | exact okY | omega) only [ZU, Nat.reduceAdd, Nat.reduceMul, dI, AOpRun, aexec, D.isBot, ↓eget_h, Nat.reduceBEq, or_self, ↓reduceIte, D.cells, run1, ↓hget_h, fa, opt1, g1, dB, Nat.reduceLeDiff, List.take, fillD, ne_eq, not_true_eq_false, Nat.reduceGT, splice, List.drop, List.all, D.leaf]) | subst hK))
  refine end_q [] [(96, 96), (128, 200), (129, 288)] ?_ ?_ <;> repeat' (first | exact trivial | exact vr_val _ | exact vr_list _ | exact vr_ptr _ _ _ rfl | apply vr_fn | refine And.intro ⟨_, rfl, _, rfl, by decide, ?_⟩ ?_ | apply And.intro)
  all_goals first | exact tpC_in _ _ _ | exact flC_in _ _
def hM (h : Nat → Bool) (n i j : Nat) (is : Bool) : List Bool := (List.range n).map fun m => if i ≤ m ∧ m < j then is else h m
theorem hM_len (h : Nat → Bool) (n i j : Nat) (is : Bool) : (hM h n i j is).length = n := by simp [hM]
theorem hM_zero (h : Nat → Bool) (n i : Nat) (is : Bool) : hM h n i i is = (List.range n).map h := by
  unfold hM
  refine List.map_congr_left fun m _ => if_neg (by omega)
theorem hM_succ (h : Nat → Bool) (n i j : Nat) (is : Bool) (hij : i ≤ j) (hj : j < n) : hM h n i (j + 1) is = (hM h n i j is).set j is := by
  unfold hM
  refine List.ext_getElem (by simp) fun m h1 h2 => ?_
  rw [List.getElem_set]
  simp only [List.getElem_map, List.getElem_range]
  by_cases e : j = m
  · subst e; rw [if_pos ⟨hij, by omega⟩, if_pos rfl]
  · rw [if_neg e]
    by_cases h3 : i ≤ m ∧ m < j
    · rw [if_pos ⟨h3.1, by omega⟩, if_pos h3]
    · rw [if_neg (by omega), if_neg h3]
theorem hL_some {l : Lay} {frs : List (List Int)} {c : Cd} {f : Fl} {n i m : Nat} {v : Int} (hs : smp l f (frm frs i) = some v) (hm : m ≤ n) (hm2 : ∀ j, j < n → ((j < m) ↔ (j : Int) < i + f.every)) : hM (hAt l frs c f i) n i m (cndV c f v) = hL l frs c f n (i + 1) := by
  unfold hM hL
  refine List.map_congr_left fun j hj => ?_
  have hj' := List.mem_range.1 hj
  simp only [hAt, hs]
  have := hm2 j hj'
  by_cases h : i ≤ j ∧ j < m
  · rw [if_pos h, if_pos ⟨h.1, this.1 h.2⟩]
  · rw [if_neg h, if_neg fun k => h ⟨k.1, this.2 k.2⟩]
theorem hL_none {l : Lay} {frs : List (List Int)} {c : Cd} {f : Fl} {n i : Nat} (hs : smp l f (frm frs i) = none) : hL l frs c f n (i + 1) = hL l frs c f n i := by
  unfold hL
  refine List.map_congr_left fun j _ => ?_
  simp only [hAt, hs]
theorem hL_zero (l : Lay) (frs : List (List Int)) (c : Cd) (f : Fl) (n : Nat) : hL l frs c f n 0 = List.replicate n false := by
  unfold hL
  refine List.ext_getElem (by simp) fun m h1 h2 => ?_
  simp [hAt]
theorem bV_low (n g v : Nat) (L : List Bool) (m : Nat) (hg : g < n) (hv : v < n) {h : Hp} (h1 : LowH n h) : LowH n ((g, [.vec v m 1]) :: (v, bcl L) :: h) :=
  .cons hg (by intro d hd; simp at hd; subst hd; exact .vec _ _ _ hv) rfl (.cons hv (fun d hd => (bcl_in L d hd).mono fun _ h => h.elim) (bc_noY _ _) h1)
set_option maxRecDepth 100000 in
set_option maxHeartbeats 16000000 in
theorem holdsT_ac (l : Lay) (frs : List (List Int)) (c : Cd) (h1 : LayOk l) (h2 : frs.length ≤ 200) (hf : FrIn frs) (hc : cdB l c = true) : AC Tryd.prog 54 [.ptr 96 0, .agg (cdC c)] [(96, tpC l frs)] [(96, some (tpC l frs))] (.list (bools (hL l frs c (fOf l c) frs.length frs.length))) := by
  refine kprecord_tape_holds.ac (n0 := 200) (by simp) ⟨.ptr _ _ (by omega), in_cd _ _, trivial⟩ ⟨⟨by omega, tpC_in _ _ _⟩, trivial⟩ rfl ?_
  unfold cprecord_tape_holds
  unfold cdB at hc
  rw [Bool.and_eq_true] at hc
  have c1 := wI_t hc.1
  have c2 := wI_t hc.2
  have nf := h1.nf
  obtain ⟨k, hk⟩ : ∃ k : Nat, c.field = k := ⟨c.field.toNat, by omega⟩
  have hkn : k < l.fl.length := by omega
  have hfo : fOf l c = fAt l k := by unfold fOf fAt; rw [hk, Int.toNat_natCast]
  rw [hfo]
  have g1 : (fls l.fl)[k]? = some (flC (fAt l k)) := fls_gd l.fl k hkn
  have ki : (k : Int) < (l.fl.length : Int) := by omega
  have fa := fls_all l.fl
  have fl := fls_len l.fl
  have sa := samples2_ac l frs k hkn (by omega)
  have hF := fAt_ok h1 hkn
  generalize fAt l k = f at *
  have hrep := rep_bc frs.length
  rw [← hL_zero l frs c f] at hrep
  have m1 : (0 : Int) ≤ (frs.length : Int) := by omega
  have m2 : (frs.length : Int) * 1 ≤ 2 ^ 48 := by omega
  have m3 : (frs.length : Int) < 2 ^ 62 := by omega
  refine aw_seq (aw_region ?_)
  unfold cdC
  rw [hk]
  simp (disch := first | exact okY | omega) only [ZU, Nat.reduceAdd, Nat.reduceMul, dI, dB, AOpRun, aexec, D.isBot, Nat.reduceBEq, ↓eget_h, or_self, ↓reduceIte, D.cells]
  unfold tpC flC at *
  refine aw_seq (aw_region ?_)
  simp (disch := first | exact okY | omega) only [ZU, dI, Nat.reduceAdd, Nat.reduceMul, AOpRun, aexec, ↓eget_h, Nat.reduceBEq, run1, ↓hget_h, fa, ↓reduceIte, opt1, g1, dB, Nat.reduceLeDiff, List.take, D.isBot, D.cells, List.all, D.leaf, splice, List.drop]
  refine aw_seq (aw_region ?_)
  simp (disch := first | exact okY | omega) only [ZU, Nat.reduceAdd, Nat.reduceMul, AOpRun, aexec, ↓eget_h, Nat.reduceBEq, run1, rows_len, m1, cast_lit, m2, m3, ↓reduceIte, hrep, ↓hget_h, D.isBot, D.cells, Nat.reduceLeDiff, List.all, D.leaf, splice, List.take, List.drop]
  refine aw_wk (s' := ⟨[(0, .ptr 96 0), (3, .ptr 8 0), (5, .ptr 16 0), (6, .ptr 24 0)], [(96, tpC l frs), (8, [dI k, dI c.lim, dB c.above]), (16, flC f), (24, [.vec 32 frs.length 1]), (32, bcl (hL l frs c f frs.length 0))], 104⟩) ?_ ?_
  · unfold tpC flC dI dB
    refine wk_q [] [(96, 96), (8, 200), (16, 288), (24, 352), (32, 344)] ?_ ?_ <;> repeat' (first | exact trivial | exact vr_val _ | exact vr_list _ | exact vr_vec _ _ _ _ rfl | exact vr_ptr _ _ _ rfl | refine And.intro ⟨_, rfl, .inl ⟨_, rfl, by decide, ?_⟩⟩ ?_ | apply And.intro)
    all_goals exact vrl_flat _ (bcl_in _)
  refine aw_seq (aw_seq (aw_region ?_))
  simp (disch := first | exact okY | omega) only [ZU, Nat.reduceAdd, Nat.reduceMul, dI, dB, AOpRun, aexec, ↓eget_h, Nat.reduceBEq, run1, ↓hget_h]
  refine acallB sa (by repeat' (first | exact trivial | exact rfl | refine And.intro ?_ ?_)) (by kernel_rfl) (by kernel_rfl) (by kernel_rfl) ?_
  simp (disch := first | exact okY | omega) only [ZU, Nat.reduceAdd, Nat.reduceBEq, dI, dB]
  refine aw_wk (s' := ⟨[(3, .ptr 8 0), (5, .ptr 16 0), (6, .ptr 24 0), (29, .fn 38 [] [.ptr 120 0, .ptr 121 0])], [(96, tpC l frs), (120, [.ptr 96 0]), (121, flC f), (8, [dI k, dI c.lim, dB c.above]), (16, flC f), (24, [.vec 32 frs.length 1]), (32, bcl (hL l frs c f frs.length 0))], 800⟩) ?_ ?_
  · unfold tpC flC dI dB
    refine wk_q [] [(96, 96), (8, 8), (16, 16), (24, 24), (32, 32), (120, 128), (121, 129)] ?_ ?_ <;> repeat' (first | exact trivial | exact vr_val _ | exact vr_list _ | exact vr_vec _ _ _ _ rfl | exact vr_ptr _ _ _ rfl | apply vr_fn | refine And.intro ⟨_, rfl, .inl ⟨_, rfl, by decide, ?_⟩⟩ ?_ | apply And.intro)
    all_goals exact vrl_flat _ (bcl_in _)
  refine aw_block (aw_range [8, 16, 24, 96, 120, 121] [(6, .ptr 24 0)] [.bot, .bot, .bot, .ptr 8 0, .bot, .ptr 16 0, .ptr 24 0] kprecord_tape_samples_S1 rfl (by simp) ⟨.inl rfl, .inl rfl, .inl rfl, .inr rfl, .inl rfl, .inr rfl, .inr rfl, trivial⟩ rfl rfl (by simp) ⟨.inr ⟨rfl, .ptr _ _ (by simp)⟩, trivial⟩ (fun r hr => ?_))
  refine samples_hit hr rfl l frs h2 h1 f hF hf [8, 16, 24, 96, 120, 121] (by decide) [.bot, .bot, .bot, .ptr 8 0, .bot, .ptr 16 0, .ptr 24 0] rfl (by intro d hd; simp at hd; rcases hd with rfl | rfl | rfl | rfl | rfl <;> first | exact .bot | exact .ptr _ _ (by simp)) (by simp) (by simp) (by simp) (fun i => [(8, [dI k, dI c.lim, dB c.above]), (16, flC f), (24, [.vec 32 frs.length 1]), (32, bcl (hL l frs c f frs.length i))])
    (fun i => .cons (by decide) (by intro d hd; simp at hd; rcases hd with rfl | rfl | rfl <;> exact .val _) rfl (.cons (by decide) (flC_in _ _) rfl (bV_low 800 24 32 _ _ (by decide) (by decide) .nil))) (fun i hi hs => ?_) (fun i v hi hs => ?_) ?_
  · simp only [hL_none hs]
  · have mb := mulB (a := c.lim) (b := f.den) (A := 1000000) (B := 1000) (by omega) (by omega) (by have := hF.d1; omega) hF.d2
    have e1 : IntKind.i64.wrap (c.lim * f.den) = c.lim * f.den := wrap_in (by omega) (by omega)
    have ev : f.every = 1 ∨ f.every = 2 ∨ f.every = 4 := hF.ev
    have e2 : IntKind.i64.wrap ((i : Int) + f.every) = (i : Int) + f.every := wrap_in (by omega) (by omega)
    obtain ⟨m, hm1, hm2, hm3⟩ : ∃ m : Nat, m ≤ frs.length ∧ mn2 ((i : Int) + f.every) (frs.length : Int) = (m : Int) ∧ ∀ j, j < frs.length → ((j < m) ↔ (j : Int) < i + f.every) := by
      by_cases hlt : (frs.length : Int) < (i : Int) + f.every
      · exact ⟨frs.length, Nat.le_refl _, by unfold mn2; rw [if_pos hlt], fun j hj => by omega⟩
      · exact ⟨((i : Int) + f.every).toNat, by omega, by unfold mn2; rw [if_neg hlt]; omega, fun j hj => by omega⟩
    have him : i ≤ m := by have := (hm3 i hi).2 (by omega); omega
    have hls := hL_some (c := c) (n := frs.length) hs hm1 hm3
    have hz : hM (hAt l frs c f i) frs.length i i (cndV c f v) = hL l frs c f frs.length i := hM_zero _ _ _ _
    rw [← hls, ← hz]
    unfold mn2 at hm2
    have hcd : cndV c f v = if c.above = true then decide (v ≥ c.lim * f.den) else decide (v ≤ c.lim * f.den) := rfl
    generalize cndV c f v = is at *
    unfold cprecord_tape_holds_B30 smH flC tpC
    refine aw_block ?_
    refine aw_cut ⟨[(3, .ptr 8 0), (5, .ptr 16 0), (6, .ptr 24 0), (7, dI i), (8, dI v), (9, dB (decide (v ≤ c.lim * f.den)))], [(96, tpC l frs), (120, [.ptr 96 0]), (121, flC f), (808, [.yref 800]), (8, [dI k, dI c.lim, dB c.above]), (16, flC f), (24, [.vec 32 frs.length 1]), (32, bcl (hM (hAt l frs c f i) frs.length i i is))], 1700⟩ ?_ ?_
    · refine aw_region ?_
      simp (disch := first | exact okY | omega) only [ZU, Nat.reduceAdd, Nat.reduceMul, dI, dB, bodyE, asgE, parE, Nat.reduceBEq, ↓eget_h, AOpRun, aexec, run1, ↓hget_h, isSh, ↓reduceIte, abin, e1]
      unfold flC tpC
      refine wk_q [] [(8, 8), (16, 16), (24, 24), (32, 32), (96, 96), (120, 120), (121, 121), (800, 800), (808, 808), (1000, 1000)] ?_ ?_ <;> repeat' (first | exact trivial | exact vr_val _ | exact vr_list _ | exact vr_vec _ _ _ _ rfl | exact vr_ptr _ _ _ rfl | refine And.intro ⟨_, rfl, .inl ⟨_, rfl, by decide, ?_⟩⟩ ?_ | apply And.intro | exact vr_yrefs _ _ rfl)
      all_goals exact vrl_flat _ (bcl_in _)
    refine aw_cut ⟨[(5, .ptr 16 0), (6, .ptr 24 0), (7, dI i), (9, dB is)], [(96, tpC l frs), (120, [.ptr 96 0]), (121, flC f), (808, [.yref 800]), (8, [dI k, dI c.lim, dB c.above]), (16, flC f), (24, [.vec 32 frs.length 1]), (32, bcl (hM (hAt l frs c f i) frs.length i i is))], 1900⟩ ?_ ?_
    · unfold flC tpC
      cases ha : c.above with
      | true =>
        rw [ha, if_pos rfl] at hcd
        rw [hcd]
        refine aw_seq (aw_region ?_)
        simp (disch := first | exact okY | omega) only [ZU, dI, dB, Nat.reduceAdd, Nat.reduceMul, AOpRun, aexec, ↓eget_h, Nat.reduceBEq, run1, ↓hget_h]
        refine aw_condT rfl (aw_region ?_)
        simp (disch := first | exact okY | omega) only [ZU, Nat.reduceAdd, Nat.reduceMul, AOpRun, aexec, Nat.reduceBEq, ↓eget_h, run1, ↓hget_h, isSh, ↓reduceIte, abin, e1]
        refine wk_q [] [(8, 8), (16, 16), (24, 24), (32, 32), (96, 96), (120, 120), (121, 121), (800, 800), (808, 808), (1000, 1000)] ?_ ?_ <;> repeat' (first | exact trivial | exact vr_val _ | exact vr_list _ | exact vr_vec _ _ _ _ rfl | exact vr_ptr _ _ _ rfl | refine And.intro ⟨_, rfl, .inl ⟨_, rfl, by decide, ?_⟩⟩ ?_ | apply And.intro | exact vr_yrefs _ _ rfl)
        all_goals exact vrl_flat _ (bcl_in _)
      | false =>
        rw [ha, if_neg (by simp)] at hcd
        rw [hcd]
        refine aw_seq (aw_region ?_)
        simp (disch := first | exact okY | omega) only [ZU, dI, dB, Nat.reduceAdd, Nat.reduceMul, AOpRun, aexec, ↓eget_h, Nat.reduceBEq, run1, ↓hget_h]
        refine aw_condF rfl (aw_skip ?_)
        refine wk_q [] [(8, 8), (16, 16), (24, 24), (32, 32), (96, 96), (120, 120), (121, 121), (800, 800), (808, 808), (1000, 1000)] ?_ ?_ <;> repeat' (first | exact trivial | exact vr_val _ | exact vr_list _ | exact vr_vec _ _ _ _ rfl | exact vr_ptr _ _ _ rfl | refine And.intro ⟨_, rfl, .inl ⟨_, rfl, by decide, ?_⟩⟩ ?_ | apply And.intro | exact vr_yrefs _ _ rfl)
        all_goals exact vrl_flat _ (bcl_in _)
    clear hcd
    unfold flC tpC
    refine aw_seq (aw_region ?_)
    simp (disch := first | exact okY | omega) only [ZU, dI, dB, Nat.reduceAdd, Nat.reduceMul, AOpRun, aexec, Nat.reduceBEq, ↓eget_h]
    refine aw_block (aw_loop (fun j : Nat => ⟨[(5, .ptr 16 0), (6, .ptr 24 0), (7, dI i), (9, dB is), (10, dI j)], [(96, tpC l frs), (120, [.ptr 96 0]), (121, flC f), (808, [.yref 800]), (8, [dI k, dI c.lim, dB c.above]), (16, flC f), (24, [.vec 32 frs.length 1]), (32, bcl (hM (hAt l frs c f i) frs.length i j is))], 2000⟩) (fun j => i ≤ j ∧ j ≤ m) (fun j => m - j) ⟨i, ⟨by omega, him⟩, ?_⟩ ?_)
    · unfold flC tpC dI dB
      refine wk_q [] [(8, 8), (16, 16), (24, 24), (32, 32), (96, 96), (120, 120), (121, 121), (800, 800), (808, 808), (1000, 1000)] ?_ ?_ <;> repeat' (first | exact trivial | exact vr_val _ | exact vr_list _ | exact vr_vec _ _ _ _ rfl | exact vr_ptr _ _ _ rfl | refine And.intro ⟨_, rfl, .inl ⟨_, rfl, by decide, ?_⟩⟩ ?_ | apply And.intro | exact vr_yrefs _ _ rfl)
      all_goals exact vrl_flat _ (bcl_in _)
    rintro j ⟨hj1, hj2⟩
    unfold flC tpC
    by_cases hjm : j < m
    case neg =>
      obtain rfl : j = m := by omega
      have q : decide ((j : Int) < (j : Int)) = false := decide_eq_false (by omega)
      refine aw_seq (aw_seq (aw_region ?_))
      simp (disch := first | exact okY | omega) only [ZU, dI, dB, Nat.reduceAdd, Nat.reduceMul, AOpRun, aexec, Nat.reduceBEq, ↓eget_h, run1, ↓hget_h, isSh, ↓reduceIte, abin, e2, foldI, mn2, hm2, q]
      refine aw_condF rfl (aw_exit ?_)
      simp only [thenQ, blockQ, if_true, if_false, Nat.reduceEqDiff, reduceCtorEq]
      first | refine ⟨rfl, ?_⟩ | refine ⟨trivial, ?_⟩ | skip
      refine wk_q [] [(8, 8), (16, 16), (24, 24), (32, 32), (96, 96), (120, 120), (121, 121), (800, 800), (808, 808), (1000, 1000)] ?_ ?_ <;> repeat' (first | exact trivial | exact vr_val _ | exact vr_list _ | exact vr_vec _ _ _ _ rfl | exact vr_ptr _ _ _ rfl | refine And.intro ⟨_, rfl, .inl ⟨_, rfl, by decide, ?_⟩⟩ ?_ | apply And.intro | exact vr_yrefs _ _ rfl)
      all_goals exact vrl_flat _ (bcl_in _)
    have q : decide ((j : Int) < (m : Int)) = true := decide_eq_true (by omega)
    have hl1 := hM_len (hAt l frs c f i) frs.length i j is
    have hsu := hM_succ (hAt l frs c f i) frs.length i j is hj1 (by omega)
    generalize hM (hAt l frs c f i) frs.length i j is = L at *
    have htk := bc_t L j is (by omega)
    rw [← hsu] at htk
    have hbl := bcl_len L
    rw [hl1] at hbl
    have j0 : (0 : Int) ≤ (j : Int) := by omega
    have j1 : (j : Int) < (frs.length : Int) := by omega
    have j2 : j + 1 ≤ frs.length := by omega
    refine aw_seq (aw_seq (aw_region ?_))
    simp (disch := first | exact okY | omega) only [ZU, dI, dB, Nat.reduceAdd, Nat.reduceMul, AOpRun, aexec, Nat.reduceBEq, ↓eget_h, run1, ↓hget_h, isSh, ↓reduceIte, abin, e2, foldI, mn2, hm2, q]
    refine aw_condT rfl (aw_skip ?_)
    refine aw_seq (aw_block (aw_region ?_))
    simp (disch := first | exact okY | omega) only [ZU, blockQ, Nat.reduceAdd, Nat.reduceMul, AOpRun, aexec, run1, Nat.reduceBEq, ↓eget_h, ↓hget_h, Nat.add_zero, j0, j1, ↓reduceIte, Nat.mul_one, D.isBot, D.cells, hbl, j2, List.all, D.leaf, splice, htk]
    refine aw_region ?_
    simp (disch := first | exact okY | omega) only [ZU, Nat.reduceAdd, Nat.reduceMul, AOpRun, aexec, Nat.reduceBEq, ↓eget_h, isSh, ↓reduceIte, abin, fits]
    refine ⟨j + 1, ⟨by omega, by omega⟩, by omega, ?_⟩
    refine wk_q [] [(8, 8), (16, 16), (24, 24), (32, 32), (96, 96), (120, 120), (121, 121), (800, 800), (808, 808), (1000, 1000)] ?_ ?_ <;> repeat' (first | exact trivial | exact vr_val _ | exact vr_list _ | exact vr_vec _ _ _ _ rfl | exact vr_ptr _ _ _ rfl | refine And.intro ⟨_, rfl, .inl ⟨_, rfl, by decide, ?_⟩⟩ ?_ | apply And.intro | exact vr_yrefs _ _ rfl)
    all_goals exact vrl_flat _ (bcl_in _)
  · have hll := hL_len (l := l) (frs := frs) (c := c) (f := f) frs.length frs.length
    generalize hL l frs c f frs.length frs.length = L at *
    unfold smH
    simp only [blockQ, thenQ]
    (repeat' (first | (with_reducible first | refine thenQ_n ?_ | refine blockQ_n ?_ | refine thenQ_e ?_ | refine blockQ_t ?_ | refine blockQ_f (by decide) ?_) | apply aw_seq | apply aw_skip | apply aw_exit | apply aw_ret | apply aw_block | apply aw_condT rfl | apply aw_condF rfl | ((first | refine aw_hide fun K hK => aw_region ?_ | refine ago_if (by omega) ?_ | skip); simp (disch := first | exact okY | omega) only [ZU, Nat.reduceAdd, Nat.reduceMul, dI, dB, AOpRun, aexec, run1, ↓eget_h, Nat.reduceBEq, ↓hget_h]) | subst hK))
    refine end_q [32] [(96, 96)] ?_ ?_ <;> repeat' (first | exact trivial | exact vr_val _ | exact vr_list _ | refine vr_fl _ _ _ _ _ (by decide) rfl ?_ ?_ ?_ ?_ | refine And.intro ⟨_, rfl, _, rfl, by decide, ?_⟩ ?_ | apply And.intro)
    all_goals first | exact tpC_in _ _ _ | exact bools_one _ | exact (bools_len _).trans hll | exact bools_flat _ | exact bcl_in _
end Go.Proofs.YtdcodicoclecnaaDoor
/- The functions' bodies, translated. Written by a program; no conditions. -/
namespace Go.Proofs.YtdcodicoclecnaaDoor
open Go.RowKit Lift

def crecord_Peak_B26 : ACode :=
 (.block 1
 (.seq
 (.region false [oo 28 (.load1 (.tmp 6)),
 oo 29 (.bin .lss (.tmp 28) (kI 0)),
 oo 30 (.mv (.tmp 29)),
 og 31 30 false (.mv (.tmp 11)) [],
 og 32 30 false (.load1 (.tmp 7)) [],
 og 33 30 false (.bin .gtr (.tmp 31) (.tmp 32)) [],
 oo 34 (.pick (.tmp 30) (.const (.bool true)) (.tmp 33))] [28,29,30,31,32,33])
 (.cond (.tmp 34)
 (.region false [oo 35 (.mv (.tmp 10)),
 oo 36 (.mv (.tmp 11)),
 on (.store 1 (.tmp 6) (.tmp 35)),
 on (.store 1 (.tmp 7) (.tmp 36))] [35,36])
 .skip)))
def crecord_Peak : ACode :=
 (.seq
 (.region false [oo 3 (.box (.tmp 0)),
 oo 6 (.mem [(.val (.int .i64 0))]),
 oo 7 (.mem [(.val (.int .i64 0))]),
 oo 8 (.mv (kI 0))] [])
 (.seq
 (.region false [oo 13 (.loadN 6 (.tmp 3)),
 oo 14 (.mv (.tmp 1)),
 oo 15 (.mv (.tmp 2)),
 oo 16 (.buildSl 1 1 [(.val (.int .i64 0))] [(0,1, (.tmp 15))]),
 oo 17 (.call (.func 24) [(.tmp 13), (.tmp 14), (.tmp 16)]),
 oo 12 (.mv (.tmp 17)),
 oo 18 (.ext (.tmp 12) 0),
 oo 19 (.ext (.tmp 12) 1),
 oo 9 (.mv (.tmp 18)),
 oo 8 (.mv (.tmp 19))] [13,14,15,16,17,12,18,19])
 (.seq
 (.seq
 (.region false [oo 20 (.mv (.tmp 8)),
 oo 21 (.bin .neq (.tmp 20) (kI 0))] [20])
 (.cond (.tmp 21)
 (.seq
 (.region false [oo 22 (.mv (.tmp 8)),
 on (.store 1 (.tmp 6) (kI 0)),
 on (.store 1 (.tmp 7) (kI 0)),
 oo 8 (.mv (.tmp 22))] [22])
 .ret)
 .skip))
 (.seq
 (.region false [on (.store 1 (.tmp 6) (kI (-1)))] [])
 (.seq
 (.seq
 (.region false [oo 23 (.mv (.tmp 9)),
 oo 24 (.mv (.tmp 2)),
 oo 25 (.call (.func 25) [(.tmp 23), (.tmp 24)])] [23,24])
 (.block 0
 (.rangeFunc (.tmp 25) [26,27] [(10,26), (11,27)] crecord_Peak_B26)))
 (.seq
 (.seq
 (.region false [oo 37 (.load1 (.tmp 6)),
 oo 38 (.bin .lss (.tmp 37) (kI 0))] [37])
 (.cond (.tmp 38)
 (.seq
 (.region false [on (.store 1 (.tmp 6) (kI 0)),
 on (.store 1 (.tmp 7) (kI 0)),
 oo 8 (.mv (kI 3))] [])
 .ret)
 .skip))
 (.seq
 (.region true [oo 39 (.load1 (.tmp 6)),
 oo 40 (.load1 (.tmp 7)),
 ⟨none, .store 1 (.tmp 6) (.tmp 39), none, [0]⟩,
 ⟨none, .store 1 (.tmp 7) (.tmp 40), none, [1,2,0]⟩,
 oa 8 (.mv (kI 0)) [3,1,2,0]] [39,40])
 .ret)))))))
set_option maxRecDepth 100000 in
theorem krecord_Peak : IsCode Tryd.prog 14 41 crecord_Peak [.cell1 6, .cell1 7, .tmp 8] :=
 ⟨Tryd.f14, _, [38,34,26,27,25,21,0,3,1,2,8,6,7,9,11,10], Tryd.func14, rfl, by decide, rfl, by kernel_rfl, by kernel_rfl⟩
def cref12_CopyLayout : ACode :=
 (.seq
 (.region false [oo 1 (.box (.tmp 0)),
 oo 2 (.mem [(.val (.int .i64 0)), (.val (.int .i64 0)), (.val (.int .i64 0)), (.val (.int .i64 0)), (.val (.int .i64 0)), (.val (.slice none 0 0))])] [])
 (.seq
 (.region false [oo 4 (.loadN 6 (.tmp 1)),
 oo 3 (.mem [(.val (.int .i64 0)), (.val (.int .i64 0)), (.val (.int .i64 0)), (.val (.int .i64 0)), (.val (.int .i64 0)), (.val (.slice none 0 0))]),
 on (.store 6 (.tmp 3) (.tmp 4))] [4])
 (.seq
 (.region false [oo 5 (.buildSl 9 0 [] []),
 oo 6 (.fad 5 (.tmp 1)),
 oo 7 (.load1 (.tmp 6)),
 oo 8 (.app 9 72 (.tmp 5) (.tmp 7)),
 oo 9 (.fad 5 (.tmp 3)),
 on (.store 1 (.tmp 9) (.tmp 8))] [5,6,7,8,9])
 (.seq
 (.region false [oo 10 (.loadN 6 (.tmp 3)),
 on (.store 6 (.tmp 2) (.tmp 10))] [10])
 .ret))))
set_option maxRecDepth 100000 in
theorem kref12_CopyLayout : IsCode Tryd.prog 16 11 cref12_CopyLayout [.cellN 2 6] :=
 ⟨Tryd.f16, _, [0,1,3,2], Tryd.func16, rfl, by decide, rfl, by kernel_rfl, by kernel_rfl⟩
def cref12_CopyFrames : ACode :=
 (.seq
 (.region false [oo 2 (.mv (.const (.slice none 0 0)))] [])
 (.seq
 (.region false [oo 3 (.mv (.const (.slice none 0 0)))] [])
 (.seq
 (.seq
 (.region false [oo 4 (.mv (kI 0))] [])
 (.block 0
 (.loop
 (.seq
 (.seq
 (.region false [oo 5 (.mv (.tmp 4)),
 oo 6 (.mv (.tmp 0)),
 oo 7 (.len_ (.tmp 6)),
 oo 8 (.bin .lss (.tmp 5) (.tmp 7))] [5,6,7])
 (.cond (.tmp 8)
 .skip
 (.exit 0)))
 (.seq
 (.block 1
 (.region false [oo 11 (.mv (.tmp 3)),
 oo 12 (.buildSl 1 0 [] []),
 oo 13 (.mv (.tmp 0)),
 oo 14 (.mv (.tmp 4)),
 oo 15 (.iadS 1 (.tmp 13) (.tmp 14)),
 oo 16 (.load1 (.tmp 15)),
 oo 17 (.app 1 8 (.tmp 12) (.tmp 16)),
 oo 18 (.buildSl 1 1 [(.val (.slice none 0 0))] [(0,1, (.tmp 17))]),
 oo 19 (.app 1 24 (.tmp 11) (.tmp 18)),
 oo 3 (.mv (.tmp 19))] [11,12,13,14,15,16,17,18,19]))
 (.region false [oo 9 (.mv (.tmp 4)),
 oo 10 (.bin .add (.tmp 9) (kI 1)),
 oo 4 (.mv (.tmp 10))] [9,10]))))))
 (.seq
 (.region false [oo 20 (.mv (.tmp 3)),
 oo 2 (.mv (.tmp 20))] [20])
 .ret))))
set_option maxRecDepth 100000 in
theorem kref12_CopyFrames : IsCode Tryd.prog 17 21 cref12_CopyFrames [.tmp 2] :=
 ⟨Tryd.f17, _, [8,4,0,3,2], Tryd.func17, rfl, by decide, rfl, by kernel_rfl, by kernel_rfl⟩
def claw12_own : ACode :=
 (.seq
 (.region false [oo 1 (.box (.tmp 0)),
 oo 2 (.mem [(.val (.int .i64 0)), (.val (.int .i64 0)), (.val (.int .i64 0)), (.val (.int .i64 0)), (.val (.int .i64 0)), (.val (.slice none 0 0)), (.val (.slice none 0 0))])] [])
 (.seq
 (.region true [oo 3 (.fad 0 (.tmp 1)),
 oa 4 (.loadN 6 (.tmp 3)) [0],
 oa 5 (.call (.func 16) [(.tmp 4)]) [1,0],
 oo 6 (.fad 6 (.tmp 1)),
 oa 7 (.load1 (.tmp 6)) [3],
 oa 8 (.call (.func 17) [(.tmp 7)]) [4,3,2,1,0],
 oa 9 (.build [(.val (.int .i64 0)), (.val (.int .i64 0)), (.val (.int .i64 0)), (.val (.int .i64 0)), (.val (.int .i64 0)), (.val (.slice none 0 0)), (.val (.slice none 0 0))] [(0,6, (.tmp 5)), (6,1, (.tmp 8))]) [2,1,0,5,4,3],
 ⟨none, .store 7 (.tmp 2) (.tmp 9), none, [6,2,1,0,5,4,3]⟩] [3,4,5,6,7,8,9])
 .ret))
set_option maxRecDepth 100000 in
theorem klaw12_own : IsCode Tryd.prog 7 10 claw12_own [.cellN 2 7] :=
 ⟨Tryd.f7, _, [0,1,2], Tryd.func7, rfl, by decide, rfl, by kernel_rfl, by kernel_rfl⟩
def claw12_Far : ACode :=
 (.seq
 (.region false [oo 1 (.box (.tmp 0)),
 oo 2 (.mv (.const (.bool false)))] [])
 (.seq
 (.seq
 (.region false [oo 4 (.fad 0 (.tmp 1)),
 oo 5 (.fad 5 (.tmp 4)),
 oo 6 (.load1 (.tmp 5)),
 oo 7 (.len_ (.tmp 6)),
 oo 8 (.bin .gtr (.tmp 7) (kI 20)),
 oo 9 (.mv (.tmp 8)),
 og 10 9 false (.fad 6 (.tmp 1)) [],
 og 11 9 false (.load1 (.tmp 10)) [],
 og 12 9 false (.len_ (.tmp 11)) [],
 og 13 9 false (.bin .gtr (.tmp 12) (kI 220)) [],
 oo 14 (.pick (.tmp 9) (.const (.bool true)) (.tmp 13))] [4,5,6,7,8,9,10,11,12,13])
 (.cond (.tmp 14)
 (.seq
 (.region false [oo 2 (.mv (.const (.bool true)))] [])
 .ret)
 .skip))
 (.seq
 (.seq
 (.region false [oo 3 (.mv (kI 0))] [])
 (.block 0
 (.loop
 (.seq
 (.seq
 (.region false [oo 15 (.mv (.tmp 3)),
 oo 16 (.fad 6 (.tmp 1)),
 oo 17 (.load1 (.tmp 16)),
 oo 18 (.len_ (.tmp 17)),
 oo 19 (.bin .lss (.tmp 15) (.tmp 18))] [15,16,17,18])
 (.cond (.tmp 19)
 .skip
 (.exit 0)))
 (.seq
 (.block 1
 (.seq
 (.region false [oo 22 (.fad 6 (.tmp 1)),
 oo 23 (.load1 (.tmp 22)),
 oo 24 (.mv (.tmp 3)),
 oo 25 (.iadS 1 (.tmp 23) (.tmp 24)),
 oo 26 (.load1 (.tmp 25)),
 oo 27 (.len_ (.tmp 26)),
 oo 28 (.bin .gtr (.tmp 27) (kI 50))] [22,23,24,25,26,27])
 (.cond (.tmp 28)
 (.seq
 (.region false [oo 2 (.mv (.const (.bool true)))] [])
 .ret)
 .skip)))
 (.region false [oo 20 (.mv (.tmp 3)),
 oo 21 (.bin .add (.tmp 20) (kI 1)),
 oo 3 (.mv (.tmp 21))] [20,21]))))))
 (.seq
 (.region false [oo 2 (.mv (.const (.bool false)))] [])
 .ret))))
set_option maxRecDepth 100000 in
theorem klaw12_Far : IsCode Tryd.prog 4 29 claw12_Far [.tmp 2] :=
 ⟨Tryd.f4, _, [28,19,14,0,1,3,2], Tryd.func4, rfl, by decide, rfl, by kernel_rfl, by kernel_rfl⟩
end Go.Proofs.YtdcodicoclecnaaDoor
/- record: Read, Peak (a reference to a yield, .yref, lies in memory). No conditions. -/
namespace Go.Proofs.YtdcodicoclecnaaDoor
open Go.RowKit Lift

def pkS (l : Lay) (f : Fl) (frs : List (List Int)) : Nat → Int × Int
  | 0 => (-1, 0)
  | i + 1 => match smp l f (frm frs i) with
    | some v => if (pkS l f frs i).1 < 0 ∨ v > (pkS l f frs i).2 then ((i : Int), v) else pkS l f frs i
    | none => pkS l f frs i
theorem sc_snoc (L : List (Int × Int)) (x : Int × Int) : scells L ++ [.val (.int .i64 x.1), .val (.int .i64 x.2)] = scells (L ++ [x]) := by
  rw [← sps_flat, ← sps_flat]; simp [sps]
theorem sc_all (L : List (Int × Int)) : (scells L).take (L.length * 2) = scells L := List.take_of_length_le (by rw [scells_len]; omega)
theorem hasA_one (l : Lay) (x : Int) : hasA l [x] = wI x 0 ((l.fl.length : Int) - 1) := by simp [hasA]
theorem wfE_ok {l : Lay} {frs : List (List Int)} {x : Int} (h : wfE l frs [x] = 0) : LayOk l ∧ frs.length ≤ 200 ∧ hasA l [x] = true ∧ ∃ k : Nat, x = k ∧ k < l.fl.length := by
  unfold wfE at h
  rcases tpE_cases l frs with ⟨h0, h1, h2⟩ | ⟨h0, _⟩
  · rw [if_pos h0] at h
    cases hh : hasA l [x] with
    | false => rw [hh] at h; cases h
    | true =>
      refine ⟨h1, h2, rfl, x.toNat, ?_⟩
      rw [hasA_one] at hh
      have := wI_t hh
      omega
  · rw [if_neg h0] at h; exact absurd h h0
set_option maxRecDepth 100000 in
set_option maxHeartbeats 4000000 in
theorem peak_ok (l : Lay) (frs : List (List Int)) (k : Nat) (hl : LayIn l) (h1 : LayOk l) (h2 : frs.length ≤ 200) (hf : FrIn frs) (hk : k < l.fl.length) : AC Tryd.prog 14 [layD l, .list (rows frs), dI k] [] [] (if (pkS l (fAt l k) frs frs.length).1 < 0 then .tup [dI 0, dI 0, dI 3] else .tup [dI (pkS l (fAt l k) frs frs.length).1, dI (pkS l (fAt l k) frs frs.length).2, dI 0]) := by
  have hin : In (fun _ => False) (if (pkS l (fAt l k) frs frs.length).1 < 0 then D.tup [dI 0, dI 0, dI 3] else .tup [dI (pkS l (fAt l k) frs frs.length).1, dI (pkS l (fAt l k) frs frs.length).2, dI 0]) := by
    split <;> exact .tup _ (by intro d hd; simp at hd; rcases hd with rfl | rfl | rfl <;> exact .val _)
  refine krecord_Peak.ac (n0 := 0) (by simp) ⟨in_layD _ _, .list _, .val _, trivial⟩ trivial rfl ?_
  unfold crecord_Peak layD layC
  have hh : hasA l [(k : Int)] = true := by rw [hasA_one]; exact wI_y (by omega) (by omega)
  have nt := withField_ok l frs [(k : Int)] hl h1 h2 hf (Nat.le_of_ble_eq_true rfl) hh
  have sa := samples_ac l frs k hk (by have := h1.nf; omega)
  have hfo := fAt_ok h1 hk
  generalize fAt l k = f at *
  refine aw_seq (aw_region ?_)
  simp (disch := first | exact okY | omega) only [ZU, Int.reduceNeg, dI, Nat.reduceAdd, Nat.reduceMul, AOpRun, aexec, D.isBot, ↓eget_h, or_self, ↓reduceIte, D.cells, Nat.reduceBEq]
  refine aw_wk (s' := ⟨[(1, .list (rows frs)), (2, dI k), (3, .ptr 0 0), (6, .ptr 8 0), (7, .ptr 16 0)], [(0, [dI l.words, dI l.s0, dI l.s1, dI l.s2, dI l.s3, .list (fls l.fl)]), (8, [dI 0]), (16, [dI 0])], 40⟩) ?_ ?_
  · unfold dI
    refine wk_q [] [(0, 0), (8, 8), (16, 16)] ?_ ?_ <;> repeat' (first | exact trivial | exact vr_val _ | exact vr_list _ | exact vr_ptr _ _ _ rfl | refine And.intro ⟨_, rfl, .inl ⟨_, rfl, by decide, ?_⟩⟩ ?_ | apply And.intro)
  refine aw_seq (aw_region_cut [⟨some 13, .loadN 6 (.tmp 3), none, []⟩,
     ⟨some 14, .mv (.tmp 1), none, []⟩,
     ⟨some 15, .mv (.tmp 2), none, []⟩,
     ⟨some 16, .buildSl 1 1 [(.val (.int .i64 0))] [(0, 1, (.tmp 15))], none, []⟩]
     [⟨some 17, .call (.func 24) [(.tmp 13), (.tmp 14), (.tmp 16)], none, []⟩,
     ⟨some 12, .mv (.tmp 17), none, []⟩,
     ⟨some 18, .ext (.tmp 12) 0, none, []⟩,
     ⟨some 19, .ext (.tmp 12) 1, none, []⟩,
     ⟨some 9, .mv (.tmp 18), none, []⟩,
     ⟨some 8, .mv (.tmp 19), none, []⟩] ?_)
  simp (disch := first | exact okY | omega) only [ZU, Nat.reduceAdd, Nat.reduceMul, Int.reduceNeg, AOpRun, dI, aexec, Nat.reduceBEq, ↓eget_h, Nat.reduceLeDiff, ↓reduceIte, List.drop, List.take, fillD, D.isBot, D.cells, ne_eq, not_true_eq_false, Nat.reduceGT, or_self, splice]
  refine ⟨⟨[(2, dI k), (6, .ptr 8 0), (7, .ptr 16 0), (13, layD l), (14, .list (rows frs)), (16, .list (ints [(k : Int)]))], [(8, [dI 0]), (16, [dI 0])], 96⟩, ?_, of_decide_eq_true (by kernel_rfl), ?_⟩
  · unfold layD layC dI
    refine wk_q [64] [(8, 8), (16, 16)] ?_ ?_ <;> repeat' (first | exact trivial | exact vr_val _ | exact vr_list _ | exact vr_ptr _ _ _ rfl | apply vr_agg | refine vr_fl _ _ _ _ _ (by decide) rfl ?_ ?_ ?_ ?_ | refine And.intro ⟨_, rfl, .inl ⟨_, rfl, by decide, ?_⟩⟩ ?_ | apply And.intro)
    all_goals first | exact ints_one _ | exact ints_len _ | exact ints_flat _ | exact icells_in _ | exact icells_in [(k : Int)]
  simp (disch := first | exact okY | omega) only [ZU, Nat.reduceSub, Int.reduceNeg, Nat.reduceAdd, Nat.reduceBEq, ↓eget_h]
  refine acallB nt (by repeat' (first | exact trivial | exact rfl | refine And.intro ?_ ?_)) (by kernel_rfl) (by kernel_rfl) (by kernel_rfl) ?_
  simp (disch := first | exact okY | omega) only [ZU, Int.reduceNeg, Nat.reduceAdd, dI, Nat.reduceBEq, AOpRun, aexec, ↓eget_h, opt1]
  refine aw_seq (aw_seq (aw_region ?_))
  simp (disch := first | exact okY | omega) only [ZU, Int.reduceNeg, Nat.reduceAdd, Nat.reduceMul, AOpRun, aexec, Nat.reduceBEq, ↓eget_h, isSh, ↓reduceIte, abin, bne_self_eq_false]
  refine aw_condF rfl (aw_skip ?_)
  refine aw_seq (aw_region ?_)
  simp (disch := first | exact okY | omega) only [ZU, Nat.reduceMul, Nat.reduceAdd, Int.reduceNeg, AOpRun, aexec, Nat.reduceBEq, ↓eget_h, D.isBot, D.cells, Nat.reduceLeDiff, List.all, D.leaf, ↓reduceIte, splice, List.take, List.drop]
  refine aw_wk (s' := ⟨[(2, dI k), (6, .ptr 8 0), (7, .ptr 16 0), (9, .ptr 96 0)], [(96, tpC l frs), (8, [dI (-1)]), (16, [dI 0])], 104⟩) ?_ ?_
  · unfold dI
    refine wk_q [] [(8, 8), (16, 16), (96, 96)] ?_ ?_ <;> repeat' (first | exact trivial | exact vr_val _ | exact vr_list _ | exact vr_ptr _ _ _ rfl | refine And.intro ⟨_, rfl, .inl ⟨_, rfl, by decide, ?_⟩⟩ ?_ | apply And.intro)
    all_goals exact tpC_in _ _ _
  refine aw_seq (aw_seq (aw_region ?_))
  simp (disch := first | exact okY | omega) only [ZU, Nat.reduceAdd, Nat.reduceMul, dI, Int.reduceNeg, AOpRun, aexec, Nat.reduceBEq, ↓eget_h]
  refine acallB sa (by repeat' (first | exact trivial | exact rfl | refine And.intro ?_ ?_)) (by kernel_rfl) (by kernel_rfl) (by kernel_rfl) ?_
  simp (disch := first | exact okY | omega) only [ZU, Nat.reduceAdd, Nat.reduceBEq, Int.reduceNeg]
  refine aw_wk (s' := ⟨[(6, .ptr 8 0), (7, .ptr 16 0), (25, .fn 38 [] [.ptr 120 0, .ptr 121 0])], [(96, tpC l frs), (120, [.ptr 96 0]), (121, flC f), (8, [dI (-1)]), (16, [dI 0])], 800⟩) ?_ ?_
  · unfold dI
    refine wk_q [] [(8, 8), (16, 16), (96, 96), (120, 120), (121, 121)] ?_ ?_ <;> repeat' (first | exact trivial | exact vr_val _ | exact vr_list _ | exact vr_ptr _ _ _ rfl | apply vr_fn | refine And.intro ⟨_, rfl, .inl ⟨_, rfl, by decide, ?_⟩⟩ ?_ | apply And.intro)
    all_goals first | exact tpC_in _ _ _ | exact flC_in _ _
  refine aw_block (aw_range [8, 16, 96, 120, 121] [(6, .ptr 8 0), (7, .ptr 16 0)] [.bot, .bot, .bot, .bot, .bot, .bot, .ptr 8 0, .ptr 16 0] kprecord_tape_samples_S1 rfl (by simp) ⟨.inl rfl, .inl rfl, .inl rfl, .inl rfl, .inl rfl, .inl rfl, .inr rfl, .inr rfl, trivial⟩ rfl rfl (by simp) ⟨.inr ⟨rfl, .ptr _ _ (by simp)⟩, .inr ⟨rfl, .ptr _ _ (by simp)⟩, trivial⟩ (fun r hr => ?_))
  refine samples_hit hr rfl l frs h2 h1 f hfo hf [8, 16, 96, 120, 121] (by decide) [.bot, .bot, .bot, .bot, .bot, .bot, .ptr 8 0, .ptr 16 0] rfl (by intro d hd; simp at hd; rcases hd with rfl | rfl | rfl; exact .bot; exact .ptr _ _ (by simp); exact .ptr _ _ (by simp)) (by simp) (by simp) (by simp) (fun i => [(8, [dI (pkS l f frs i).1]), (16, [dI (pkS l f frs i).2])])
    (fun i => .cons (by decide) (by intro d hd; simp at hd; subst hd; exact .val _) rfl (.cons (by decide) (by intro d hd; simp at hd; subst hd; exact .val _) rfl .nil)) (fun i hi hs => ?_) (fun i v hi hs => ?_) ?_
  · have : pkS l f frs (i + 1) = pkS l f frs i := by simp only [pkS, hs]
    simp only [this]
  · have e : pkS l f frs (i + 1) = if (pkS l f frs i).1 < 0 ∨ v > (pkS l f frs i).2 then ((i : Int), v) else pkS l f frs i := by simp only [pkS, hs]
    rw [e]
    generalize pkS l f frs i = p at *
    obtain ⟨a, b⟩ := p
    simp only
    unfold crecord_Peak_B26 smH
    refine aw_block (aw_seq (aw_region ?_))
    cases q1 : decide (a < 0) with
    | true =>
      rw [if_pos (.inl (of_decide_eq_true q1))]
      simp (disch := first | exact okY | omega) only [ZU, dI, Nat.reduceAdd, Nat.reduceMul, bodyE, asgE, parE, Nat.reduceBEq, ↓eget_h, AOpRun, aexec, run1, ↓hget_h, isSh, ↓reduceIte, abin, q1, ARun_some, AG_tf]
      refine aw_condT rfl (aw_region ?_)
      simp (disch := first | exact okY | omega) only [ZU, blockQ, Nat.reduceAdd, Nat.reduceMul, true_and, AOpRun, aexec, Nat.reduceBEq, ↓eget_h, ↓hget_h, D.isBot, D.cells, Nat.reduceLeDiff, List.all, D.leaf, ↓reduceIte, splice, List.take, List.drop]
      try refine ⟨rfl, ?_⟩
      refine wk_q [] [(8, 8), (16, 16), (96, 96), (120, 120), (121, 121), (800, 800), (808, 808), (1000, 1000)] ?_ ?_ <;> repeat' (first | exact trivial | exact vr_val _ | exact vr_list _ | exact vr_ptr _ _ _ rfl | refine And.intro ⟨_, rfl, .inl ⟨_, rfl, by decide, ?_⟩⟩ ?_ | apply And.intro | exact vr_yrefs _ _ rfl)
      all_goals first | exact tpC_in _ _ _ | exact flC_in _ _
    | false =>
      have n1 := of_decide_eq_false q1
      cases q2 : decide (v > b) with
      | true =>
        rw [if_pos (.inr (of_decide_eq_true q2))]
        simp (disch := first | exact okY | omega) only [ZU, dI, Nat.reduceAdd, Nat.reduceMul, bodyE, asgE, parE, Nat.reduceBEq, ↓eget_h, AOpRun, aexec, run1, ↓hget_h, isSh, ↓reduceIte, abin, q1, ARun_some, AG_ff, q2]
        refine aw_condT rfl (aw_region ?_)
        simp (disch := first | exact okY | omega) only [ZU, blockQ, Nat.reduceAdd, Nat.reduceMul, true_and, AOpRun, aexec, Nat.reduceBEq, ↓eget_h, ↓hget_h, D.isBot, D.cells, Nat.reduceLeDiff, List.all, D.leaf, ↓reduceIte, splice, List.take, List.drop]
        try refine ⟨rfl, ?_⟩
        refine wk_q [] [(8, 8), (16, 16), (96, 96), (120, 120), (121, 121), (800, 800), (808, 808), (1000, 1000)] ?_ ?_ <;> repeat' (first | exact trivial | exact vr_val _ | exact vr_list _ | exact vr_ptr _ _ _ rfl | refine And.intro ⟨_, rfl, .inl ⟨_, rfl, by decide, ?_⟩⟩ ?_ | apply And.intro | exact vr_yrefs _ _ rfl)
        all_goals first | exact tpC_in _ _ _ | exact flC_in _ _
      | false =>
        have n2 := of_decide_eq_false q2
        rw [if_neg (by rintro (h | h); exact n1 h; exact n2 h)]
        simp (disch := first | exact okY | omega) only [ZU, dI, Nat.reduceAdd, Nat.reduceMul, bodyE, asgE, parE, Nat.reduceBEq, ↓eget_h, AOpRun, aexec, run1, ↓hget_h, isSh, ↓reduceIte, abin, q1, ARun_some, AG_ff, q2]
        refine aw_condF rfl (aw_skip ?_)
        try refine ⟨rfl, ?_⟩
        refine wk_q [] [(8, 8), (16, 16), (96, 96), (120, 120), (121, 121), (800, 800), (808, 808), (1000, 1000)] ?_ ?_ <;> repeat' (first | exact trivial | exact vr_val _ | exact vr_list _ | exact vr_ptr _ _ _ rfl | refine And.intro ⟨_, rfl, .inl ⟨_, rfl, by decide, ?_⟩⟩ ?_ | apply And.intro | exact vr_yrefs _ _ rfl)
        all_goals first | exact tpC_in _ _ _ | exact flC_in _ _
  · generalize pkS l f frs frs.length = p at *
    obtain ⟨a, b⟩ := p
    unfold smH
    simp only [blockQ, thenQ]
    cases q1 : decide (a < 0) with
    | true =>
      rw [if_pos (of_decide_eq_true q1)]
      (repeat' (first | (with_reducible first | refine thenQ_n ?_ | refine blockQ_n ?_ | refine thenQ_e ?_ | refine blockQ_t ?_ | refine blockQ_f (by decide) ?_) | apply aw_seq | apply aw_skip | apply aw_exit | apply aw_ret | apply aw_block | apply aw_condT rfl | apply aw_condF rfl | ((first | refine aw_hide fun K hK => aw_region ?_ | refine ago_if (by omega) ?_ | skip); simp (disch := first | exact okY | omega) only [ZU, Nat.reduceAdd, Nat.reduceMul, dI, AOpRun, aexec, run1, ↓eget_h, Nat.reduceBEq, ↓hget_h, isSh, ↓reduceIte, abin, q1, D.isBot, D.cells, Nat.reduceLeDiff, List.all, D.leaf, splice, List.take, List.drop]) | subst hK))
      (refine end_q [] [] ?_ ?_ <;> repeat' (first | exact trivial | exact vr_val _ | apply vr_tup | apply And.intro))
    | false =>
      rw [if_neg (of_decide_eq_false q1)]
      (repeat' (first | (with_reducible first | refine thenQ_n ?_ | refine blockQ_n ?_ | refine thenQ_e ?_ | refine blockQ_t ?_ | refine blockQ_f (by decide) ?_) | apply aw_seq | apply aw_skip | apply aw_exit | apply aw_ret | apply aw_block | apply aw_condT rfl | apply aw_condF rfl | ((first | refine aw_hide fun K hK => aw_region ?_ | refine ago_if (by omega) ?_ | skip); simp (disch := first | exact okY | omega) only [ZU, Nat.reduceAdd, Nat.reduceMul, dI, AOpRun, aexec, run1, ↓eget_h, Nat.reduceBEq, ↓hget_h, isSh, ↓reduceIte, abin, q1, D.isBot, D.cells, Nat.reduceLeDiff, List.all, D.leaf, splice, List.take, List.drop]) | subst hK))
      (refine end_q [] [] ?_ ?_ <;> repeat' (first | exact trivial | exact vr_val _ | apply vr_tup | apply And.intro))
set_option maxRecDepth 100000 in
set_option maxHeartbeats 1000000 in
theorem peak_err (l : Lay) (frs : List (List Int)) (x : Int) (hl : LayIn l) (he : wfE l frs [x] ≠ 0) (hf : FrIn frs) : AC Tryd.prog 14 [layD l, .list (rows frs), dI x] [] [] (.tup [dI 0, dI 0, dI (wfE l frs [x])]) := by
  refine krecord_Peak.ac (n0 := 0) (by simp) ⟨in_layD _ _, .list _, .val _, trivial⟩ trivial rfl ?_
  unfold crecord_Peak layD layC
  have nt := withField_err l frs [x] hl hf (Nat.le_of_ble_eq_true rfl) he
  have h1 : (wfE l frs [x] != 0) = true := by simpa using he
  generalize wfE l frs [x] = E at *
  refine aw_seq (aw_region ?_)
  simp (disch := first | exact okY | omega) only [ZU, Int.reduceNeg, dI, Nat.reduceAdd, Nat.reduceMul, AOpRun, aexec, D.isBot, ↓eget_h, or_self, ↓reduceIte, D.cells, Nat.reduceBEq]
  refine aw_seq (aw_region ?_)
  simp (disch := first | exact okY | omega) only [ZU, Int.reduceNeg, Nat.reduceAdd, Nat.reduceMul, AOpRun, aexec, Nat.reduceBEq, ↓eget_h, Nat.reduceLeDiff, ↓reduceIte, List.drop, List.take, fillD, D.isBot, D.cells, ne_eq, not_true_eq_false, Nat.reduceGT, or_self, splice]
  refine acall nt [56] ⟨.refl _, .refl _, vec_ints [x] (by simp) rfl rfl, trivial⟩ (.inr (.tup _ (by intro d hd; simp at hd; rcases hd with rfl | rfl <;> exact .val _))) (by intro g hg; simp at hg; subst hg; exact ⟨_, rfl⟩) (by kernel_rfl) ?_
  simp (disch := first | exact okY | omega) only [ZU, Int.reduceNeg, Nat.reduceAdd, dI, Nat.reduceBEq, AOpRun, aexec, ↓eget_h, opt1]
  (repeat' (first | (with_reducible first | refine thenQ_n ?_ | refine blockQ_n ?_ | refine thenQ_e ?_ | refine blockQ_t ?_ | refine blockQ_f (by decide) ?_) | apply aw_seq | apply aw_skip | apply aw_exit | apply aw_ret | apply aw_block | apply aw_condT rfl | apply aw_condF rfl | ((first | refine aw_hide fun K hK => aw_region ?_ | refine ago_if (by omega) ?_ | skip); simp (disch := first | exact okY | omega) only [ZU, Nat.reduceAdd, Nat.reduceMul, AOpRun, aexec, Nat.reduceBEq, ↓eget_h, isSh, ↓reduceIte, abin, h1, ↓hget_h, D.isBot, D.cells, Nat.reduceLeDiff, List.all, D.leaf, splice, List.take, List.drop]) | subst hK))
  (refine end_q [] [] ?_ ?_ <;> repeat' (first | exact trivial | exact vr_val _ | apply vr_tup | apply And.intro))
noncomputable def peakR (l : Lay) (frs : List (List Int)) (x : Int) : Int × Int × Int := if wfE l frs [x] = 0 then (if (pkS l (fAt l x.toNat) frs frs.length).1 < 0 then (0, 0, 3) else ((pkS l (fAt l x.toNat) frs frs.length).1, (pkS l (fAt l x.toNat) frs frs.length).2, 0)) else (0, 0, wfE l frs [x])
theorem peak_ac (l : Lay) (frs : List (List Int)) (x : Int) (hl : LayIn l) (hf : FrIn frs) : AC Tryd.prog 14 [layD l, .list (rows frs), dI x] [] [] (.tup [dI (peakR l frs x).1, dI (peakR l frs x).2.1, dI (peakR l frs x).2.2]) := by
  unfold peakR
  by_cases h : wfE l frs [x] = 0
  · obtain ⟨h1, h2, _, k, rfl, hk⟩ := wfE_ok h
    have := peak_ok l frs k hl h1 h2 hf hk
    rw [if_pos h, Int.toNat_natCast]
    by_cases hp : (pkS l (fAt l k) frs frs.length).1 < 0
    · rw [if_pos hp] at this ⊢; exact this
    · rw [if_neg hp] at this ⊢; exact this
  · rw [if_neg h]; exact peak_err l frs x hl h hf
end Go.Proofs.YtdcodicoclecnaaDoor
/- record: the events of a tape (views last). No conditions. -/
namespace Go.Proofs.YtdcodicoclecnaaDoor
open Go Go.RowKit Lift

def fL (n : Nat) (F : Nat → Bool) : List Bool := (List.range n).map F
theorem fL_len (n : Nat) (F : Nat → Bool) : (fL n F).length = n := by simp [fL]
theorem fL_get {n j : Nat} (F : Nat → Bool) (h : j < n) : (fL n F)[j]?.getD false = F j := by simp [fL, h]
theorem fL_set {n m : Nat} {F G : Nat → Bool} (hG : ∀ j, j ≠ m → G j = F j) : fL n G = (fL n F).set m (G m) := by
  unfold fL
  refine List.ext_getElem (by simp) fun j h1 h2 => ?_
  rw [List.getElem_set]
  simp only [List.getElem_map, List.getElem_range]
  by_cases e : m = j
  · subst e; rw [if_pos rfl]
  · rw [if_neg e]; exact hG j (Ne.symm e)
theorem fL_eq {n : Nat} {F G : Nat → Bool} (h : ∀ j, j < n → F j = G j) : fL n F = fL n G := List.map_congr_left fun j hj => h j (List.mem_range.1 hj)
theorem fL_rep (n : Nat) : List.replicate n false = fL n fun _ => false := by
  refine List.ext_getElem (by simp [fL]) fun j h1 h2 => by simp [fL]
def aF (l : Lay) (frs : List (List Int)) (cs : List Cd) (k j : Nat) : Bool := decide (j < frs.length) && allK l frs cs k j
def xF (l : Lay) (frs : List (List Int)) (cs : List Cd) (k m j : Nat) : Bool := if j < m then aF l frs cs (k + 1) j else aF l frs cs k j
theorem allK_succ {l : Lay} {frs : List (List Int)} {cs : List Cd} {k : Nat} (hk : k < cs.length) (j : Nat) : allK l frs cs (k + 1) j = (allK l frs cs k j && holdJ l frs (cs[k]?.getD cd0) (fOf l (cs[k]?.getD cd0)) j) := by
  unfold allK
  rw [List.take_add_one, List.all_append]
  simp [hk]
theorem aF_end (l : Lay) (frs : List (List Int)) (cs : List Cd) (j : Nat) : aF l frs cs cs.length j = isJ l frs cs j := by
  unfold aF isJ allK
  rw [List.take_of_length_le (Nat.le_refl _)]
set_option maxRecDepth 100000 in
set_option maxHeartbeats 16000000 in
theorem eventsT_ac (l : Lay) (frs : List (List Int)) (cs : List Cd) (h : Int) (h1 : LayOk l) (h2 : frs.length ≤ 200) (hf : FrIn frs) (hc : evB l cs h = true) : AC Tryd.prog 31 [.ptr 96 0, evD cs h] [(96, tpC l frs)] [(96, some (tpC l frs))] (.list (sps (evK (isJ l frs cs) h (frs.length + 1)).2)) := by
  refine kprecord_tape_events.ac (n0 := 200) (by simp) ⟨.ptr _ _ (by omega), in_ev _ _ _, trivial⟩ ⟨⟨by omega, tpC_in _ _ _⟩, trivial⟩ rfl ?_
  unfold evB at hc
  rw [Bool.and_eq_true, Bool.and_eq_true] at hc
  obtain ⟨⟨hc1, hc2⟩, hc3⟩ := hc
  have hcl := wI_t hc1
  have hh := wI_t hc3
  unfold cprecord_tape_events evD
  have e0 : ((frs.length : Int) + 1).toNat = frs.length + 1 := by omega
  have hrep := rep_bc (frs.length + 1)
  rw [fL_rep] at hrep
  have m1 : (0 : Int) ≤ (frs.length : Int) + 1 := by omega
  have m2 : ((frs.length : Int) + 1) * 1 ≤ 2 ^ 48 := by omega
  have m3 : (frs.length : Int) + 1 < 2 ^ 62 := by omega
  have htape : ∀ c, cdB l c = true → _ := fun c hc => holdsT_ac l frs c h1 h2 hf hc
  refine aw_seq (aw_region ?_)
  simp (disch := first | exact okY | omega) only [ZU, Nat.reduceAdd, Nat.reduceMul, dI, AOpRun, aexec, D.isBot, Nat.reduceBEq, ↓eget_h, or_self, ↓reduceIte, D.cells]
  unfold tpC at *
  refine aw_seq (aw_region ?_)
  simp (disch := first | exact okY | omega) only [ZU, dI, Nat.reduceAdd, Nat.reduceMul, AOpRun, aexec, ↓eget_h, Nat.reduceBEq, run1, rows_len, isSh, ↓reduceIte, abin, fits, m1, cast_lit, m2, m3, e0, hrep]
  refine aw_wk (s' := ⟨[(0, .ptr 96 0), (3, .ptr 8 0), (4, .val (.slice none 0 0)), (5, .vec 16 (frs.length + 1) 1)], [(96, tpC l frs), (8, [.list (cds cs), dI h]), (16, bcl (fL (frs.length + 1) fun _ => false))], 400⟩) ?_ ?_
  · unfold tpC dI
    refine wk_q [] [(96, 96), (8, 200), (16, 264)] ?_ ?_ <;> repeat' (first | exact trivial | exact vr_val _ | exact vr_list _ | exact vr_vec _ _ _ _ rfl | exact vr_ptr _ _ _ rfl | refine And.intro ⟨_, rfl, .inl ⟨_, rfl, by decide, ?_⟩⟩ ?_ | apply And.intro)
    all_goals exact vrl_flat _ (bcl_in _)
  -- all frames at first
  refine aw_cut ⟨[(0, .ptr 96 0), (3, .ptr 8 0), (4, .val (.slice none 0 0)), (5, .vec 16 (frs.length + 1) 1)], [(96, tpC l frs), (8, [.list (cds cs), dI h]), (16, bcl (fL (frs.length + 1) (aF l frs cs 0)))], 600⟩ ?_ ?_
  · unfold tpC
    refine aw_seq (aw_region ?_)
    simp (disch := first | exact okY | omega) only [ZU, dI, Nat.reduceAdd, Nat.reduceMul, AOpRun, aexec, ↓eget_h, Nat.reduceBEq, run1, rows_len]
    refine aw_block (aw_loop (fun j : Nat => ⟨[(0, .ptr 96 0), (3, .ptr 8 0), (4, .val (.slice none 0 0)), (5, .vec 16 (frs.length + 1) 1), (25, dI frs.length), (26, dI j)], [(96, tpC l frs), (8, [.list (cds cs), dI h]), (16, bcl (fL (frs.length + 1) fun m => decide (m < j)))], 500⟩) (fun j => j ≤ frs.length) (fun j => frs.length - j) ⟨0, by omega, ?_⟩ ?_)
    · have e : (fL (frs.length + 1) fun m => decide (m < 0)) = fL (frs.length + 1) fun _ => false := fL_eq fun j _ => by simp
      rw [e]
      unfold tpC dI
      refine wk_q [] [(96, 96), (8, 8), (16, 16)] ?_ ?_ <;> repeat' (first | exact trivial | exact vr_val _ | exact vr_list _ | exact vr_vec _ _ _ _ rfl | exact vr_ptr _ _ _ rfl | refine And.intro ⟨_, rfl, .inl ⟨_, rfl, by decide, ?_⟩⟩ ?_ | apply And.intro)
      all_goals exact vrl_flat _ (bcl_in _)
    intro j hj
    unfold tpC
    by_cases hj2 : j < frs.length
    case neg =>
      obtain rfl : j = frs.length := by omega
      have e : (fL (frs.length + 1) fun m => decide (m < frs.length)) = fL (frs.length + 1) (aF l frs cs 0) := fL_eq fun j _ => by simp [aF, allK]
      rw [e]
      (have hg : (987654321 : Nat) - 987654321 = 0 := rfl; have hr := hg; repeat' (first | (with_reducible first | refine thenQ_n ?_ | refine blockQ_n ?_ | refine thenQ_e ?_ | refine blockQ_t ?_ | refine blockQ_f (by decide) ?_) | apply aw_seq | apply aw_skip | apply aw_exit | apply aw_ret | apply aw_block | apply aw_condT rfl | apply aw_condF rfl | (refine aw_cond rfl (fun hg => ?_) (fun hg => ?_) <;> (try (have hq := hg; simp only [Bool.not_eq_true', Bool.not_eq_false', Bool.and_eq_true, Bool.and_eq_false_iff, Bool.or_eq_true, Bool.or_eq_false_iff, decide_eq_true_eq, decide_eq_false_iff_not, bne_iff_ne, beq_iff_eq, beq_eq_false_iff_ne, bne_eq_false_iff_eq, ne_eq, Int.not_lt, Int.not_le, Decidable.not_not] at hq)) <;> (try (have hr := hg; simp only [decide_eq_true_eq, decide_eq_false_iff_not] at hr)) <;> (try (exfalso; omega))) | ((first | refine aw_hide fun K hK => aw_region ?_ | refine ago_if (by omega) ?_ | skip); simp (disch := first | exact okY | omega) only [ZU, Nat.reduceMul, Nat.reduceAdd, dI, AOpRun, aexec, Nat.reduceBEq, ↓eget_h, isSh, ↓reduceIte, abin, hr, decide_false]) | subst hK))
      refine wk_q [] [(96, 96), (8, 8), (16, 16)] ?_ ?_ <;> repeat' (first | exact trivial | exact vr_val _ | exact vr_list _ | exact vr_vec _ _ _ _ rfl | exact vr_ptr _ _ _ rfl | refine And.intro ⟨_, rfl, .inl ⟨_, rfl, by decide, ?_⟩⟩ ?_ | apply And.intro)
      all_goals exact vrl_flat _ (bcl_in _)
    have hse : fL (frs.length + 1) (fun m => decide (m < j + 1)) = (fL (frs.length + 1) fun m => decide (m < j)).set j true := by
      have := fL_set (n := frs.length + 1) (m := j) (F := fun m => decide (m < j)) (G := fun m => decide (m < j + 1)) (fun i hi => by simp only [decide_eq_decide]; omega)
      simpa using this
    have hlen := fL_len (frs.length + 1) fun m => decide (m < j)
    generalize (fL (frs.length + 1) fun m => decide (m < j)) = L at *
    have htk := bc_t L j true (by omega)
    rw [← hse] at htk
    have hbl := bcl_len L
    rw [hlen] at hbl
    have j0 : (0 : Int) ≤ (j : Int) := by omega
    have j1 : (j : Int) < ((frs.length + 1 : Nat) : Int) := by omega
    have j2 : j + 1 ≤ frs.length + 1 := by omega
    (have hg : (987654321 : Nat) - 987654321 = 0 := rfl; have hr := hg; repeat' (first | (with_reducible first | refine thenQ_n ?_ | refine blockQ_n ?_ | refine thenQ_e ?_ | refine blockQ_t ?_ | refine blockQ_f (by decide) ?_) | apply aw_seq | apply aw_skip | apply aw_exit | apply aw_ret | apply aw_block | apply aw_condT rfl | apply aw_condF rfl | (refine aw_cond rfl (fun hg => ?_) (fun hg => ?_) <;> (try (have hq := hg; simp only [Bool.not_eq_true', Bool.not_eq_false', Bool.and_eq_true, Bool.and_eq_false_iff, Bool.or_eq_true, Bool.or_eq_false_iff, decide_eq_true_eq, decide_eq_false_iff_not, bne_iff_ne, beq_iff_eq, beq_eq_false_iff_ne, bne_eq_false_iff_eq, ne_eq, Int.not_lt, Int.not_le, Decidable.not_not] at hq)) <;> (try (have hr := hg; simp only [decide_eq_true_eq, decide_eq_false_iff_not] at hr)) <;> (try (exfalso; omega))) | ((first | refine aw_hide fun K hK => aw_region ?_ | refine ago_if (by omega) ?_ | skip); simp (disch := first | exact okY | omega) only [ZU, Nat.mul_one, Nat.reduceAdd, dI, AOpRun, aexec, Nat.reduceBEq, ↓eget_h, isSh, ↓reduceIte, abin, Nat.reduceMul, hr, j0, j1, ↓hget_h, D.isBot, D.cells, hbl, j2, List.all, D.leaf, splice, htk, fits]) | subst hK))
    refine ⟨j + 1, by omega, by omega, ?_⟩
    refine wk_q [] [(96, 96), (8, 8), (16, 16)] ?_ ?_ <;> repeat' (first | exact trivial | exact vr_val _ | exact vr_list _ | exact vr_vec _ _ _ _ rfl | exact vr_ptr _ _ _ rfl | refine And.intro ⟨_, rfl, .inl ⟨_, rfl, by decide, ?_⟩⟩ ?_ | apply And.intro)
    all_goals exact vrl_flat _ (bcl_in _)
  -- the conditions
  refine aw_cut ⟨[(3, .ptr 8 0), (4, .val (.slice none 0 0)), (5, .vec 16 (frs.length + 1) 1)], [(96, tpC l frs), (8, [.list (cds cs), dI h]), (16, bcl (fL (frs.length + 1) (isJ l frs cs)))], 1600⟩ ?_ ?_
  · refine aw_seq (aw_region ?_)
    unfold tpC
    simp (disch := first | exact okY | omega) only [ZU, dI, Nat.reduceAdd, Nat.reduceMul, AOpRun, aexec, Nat.reduceBEq, ↓eget_h, run1, ↓hget_h, cds_len]
    refine aw_block (aw_loop (fun k : Nat => ⟨[(0, .ptr 96 0), (3, .ptr 8 0), (4, .val (.slice none 0 0)), (5, .vec 16 (frs.length + 1) 1), (34, .list (cds cs)), (35, dI cs.length), (36, dI k)], [(96, tpC l frs), (8, [.list (cds cs), dI h]), (16, bcl (fL (frs.length + 1) (aF l frs cs k)))], 1000⟩) (fun k => k ≤ cs.length) (fun k => cs.length - k) ⟨0, by omega, ?_⟩ ?_)
    · unfold tpC dI
      refine wk_q [] [(96, 96), (8, 8), (16, 16)] ?_ ?_ <;> repeat' (first | exact trivial | exact vr_val _ | exact vr_list _ | exact vr_vec _ _ _ _ rfl | exact vr_ptr _ _ _ rfl | refine And.intro ⟨_, rfl, .inl ⟨_, rfl, by decide, ?_⟩⟩ ?_ | apply And.intro)
      all_goals exact vrl_flat _ (bcl_in _)
    intro k hk
    unfold tpC
    by_cases hk2 : k < cs.length
    case neg =>
      obtain rfl : k = cs.length := by omega
      have e : fL (frs.length + 1) (aF l frs cs cs.length) = fL (frs.length + 1) (isJ l frs cs) := fL_eq fun j _ => aF_end l frs cs j
      rw [e]
      (have hg : (987654321 : Nat) - 987654321 = 0 := rfl; have hr := hg; repeat' (first | (with_reducible first | refine thenQ_n ?_ | refine blockQ_n ?_ | refine thenQ_e ?_ | refine blockQ_t ?_ | refine blockQ_f (by decide) ?_) | apply aw_seq | apply aw_skip | apply aw_exit | apply aw_ret | apply aw_block | apply aw_condT rfl | apply aw_condF rfl | (refine aw_cond rfl (fun hg => ?_) (fun hg => ?_) <;> (try (have hq := hg; simp only [Bool.not_eq_true', Bool.not_eq_false', Bool.and_eq_true, Bool.and_eq_false_iff, Bool.or_eq_true, Bool.or_eq_false_iff, decide_eq_true_eq, decide_eq_false_iff_not, bne_iff_ne, beq_iff_eq, beq_eq_false_iff_ne, bne_eq_false_iff_eq, ne_eq, Int.not_lt, Int.not_le, Decidable.not_not] at hq)) <;> (try (have hr := hg; simp only [decide_eq_true_eq, decide_eq_false_iff_not] at hr)) <;> (try (exfalso; omega))) | ((first | refine aw_hide fun K hK => aw_region ?_ | refine ago_if (by omega) ?_ | skip); simp (disch := first | exact okY | omega) only [ZU, Nat.reduceMul, Nat.reduceAdd, dI, AOpRun, aexec, Nat.reduceBEq, ↓eget_h, isSh, ↓reduceIte, abin, hr, decide_false]) | subst hK))
      refine wk_q [] [(96, 96), (8, 8), (16, 16)] ?_ ?_ <;> repeat' (first | exact trivial | exact vr_val _ | exact vr_list _ | exact vr_vec _ _ _ _ rfl | exact vr_ptr _ _ _ rfl | refine And.intro ⟨_, rfl, .inl ⟨_, rfl, by decide, ?_⟩⟩ ?_ | apply And.intro)
      all_goals exact vrl_flat _ (bcl_in _)
    have g1 := cds_gd cs k hk2
    have hcb : cdB l (cs[k]?.getD cd0) = true := by
      rw [List.getElem?_eq_getElem hk2]
      exact List.all_eq_true.1 hc2 _ (List.getElem_mem hk2)
    have ht := htape _ hcb
    have hak := allK_succ (l := l) (frs := frs) hk2
    have hfev : 1 ≤ (fOf l (cs[k]?.getD cd0)).every := by
      unfold cdB at hcb
      rw [Bool.and_eq_true] at hcb
      have := wI_t hcb.1
      have := (h1.fo (cs[k]?.getD cd0).field.toNat (by omega)).ev
      show 1 ≤ (fAt l (cs[k]?.getD cd0).field.toNat).every
      rcases this with h | h | h <;> (unfold fAt; omega)
    have hgj : ∀ j, j < frs.length → (bools (hL l frs (cs[k]?.getD cd0) (fOf l (cs[k]?.getD cd0)) frs.length frs.length))[j]? = some [dB (holdJ l frs (cs[k]?.getD cd0) (fOf l (cs[k]?.getD cd0)) j)] := fun j hj => by
      rw [bools_gd _ j (by rw [hL_len]; exact hj)]
      have : (hL l frs (cs[k]?.getD cd0) (fOf l (cs[k]?.getD cd0)) frs.length frs.length)[j]?.getD false = hAt l frs (cs[k]?.getD cd0) (fOf l (cs[k]?.getD cd0)) frs.length j := by simp [hL, hj]
      rw [this, hAt_hold hfev hj]
    have hbl0 : (bools (hL l frs (cs[k]?.getD cd0) (fOf l (cs[k]?.getD cd0)) frs.length frs.length)).length = frs.length := by rw [bools_len, hL_len]
    have hba := bools_all (hL l frs (cs[k]?.getD cd0) (fOf l (cs[k]?.getD cd0)) frs.length frs.length)
    generalize bools (hL l frs (cs[k]?.getD cd0) (fOf l (cs[k]?.getD cd0)) frs.length frs.length) = B at *
    generalize holdJ l frs (cs[k]?.getD cd0) (fOf l (cs[k]?.getD cd0)) = hj at *
    unfold cdC at g1 ht
    generalize cs[k]?.getD cd0 = c at *
    have ki : (k : Int) < (cs.length : Int) := by omega
    refine aw_seq (aw_region ?_)
    simp (disch := first | exact okY | omega) only [ZU, dI, Nat.reduceMul, Nat.reduceAdd, AOpRun, aexec, Nat.reduceBEq, ↓eget_h, isSh, ↓reduceIte, abin, ki]
    refine aw_seq (aw_condT rfl (aw_skip ?_))
    refine aw_seq (aw_block (aw_seq (aw_region ?_)))
    simp (disch := first | exact okY | omega) only [ZU, Nat.reduceAdd, Nat.reduceMul, AOpRun, aexec, Nat.reduceBEq, ↓eget_h, cds_all, ↓reduceIte, opt1, g1, dI, dB, Nat.reduceLeDiff, List.take, ↓hget_h, D.isBot, D.cells, List.all, D.leaf, splice, List.drop]
    refine aw_seq (aw_region ?_)
    simp (disch := first | exact okY | omega) only [ZU, Nat.reduceAdd, Nat.reduceMul, AOpRun, aexec, ↓eget_h, Nat.reduceBEq, ↓hget_h, Nat.reduceLeDiff, ↓reduceIte, List.drop, List.take]
    refine acallB ht (by repeat' (first | exact trivial | exact rfl | refine And.intro ?_ ?_)) (by kernel_rfl) (by kernel_rfl) (by kernel_rfl) ?_
    simp (disch := first | exact okY | omega) only [ZU, Nat.reduceAdd, Nat.reduceBEq, dI, AOpRun, aexec, ↓eget_h, hbl0]
    refine aw_block (aw_loop (fun m : Nat => ⟨[(0, .ptr 96 0), (3, .ptr 8 0), (4, .val (.slice none 0 0)), (5, .vec 16 (frs.length + 1) 1), (34, .list (cds cs)), (35, dI cs.length), (36, dI k), (42, .list B), (43, dI frs.length), (44, dI m)], [(96, tpC l frs), (8, [.list (cds cs), dI h]), (16, bcl (fL (frs.length + 1) (xF l frs cs k m)))], 1300⟩) (fun m => m ≤ frs.length) (fun m => frs.length - m) ⟨0, by omega, ?_⟩ ?_)
    · have e : fL (frs.length + 1) (xF l frs cs k 0) = fL (frs.length + 1) (aF l frs cs k) := fL_eq fun j _ => by simp [xF]
      rw [e]
      unfold tpC dI
      refine wk_q [] [(96, 96), (8, 8), (16, 16)] ?_ ?_ <;> repeat' (first | exact trivial | exact vr_val _ | exact vr_list _ | exact vr_vec _ _ _ _ rfl | exact vr_ptr _ _ _ rfl | refine And.intro ⟨_, rfl, .inl ⟨_, rfl, by decide, ?_⟩⟩ ?_ | apply And.intro)
      all_goals exact vrl_flat _ (bcl_in _)
    intro m hm
    unfold tpC
    by_cases hm2 : m < frs.length
    case neg =>
      obtain rfl : m = frs.length := by omega
      have e : fL (frs.length + 1) (xF l frs cs k frs.length) = fL (frs.length + 1) (aF l frs cs (k + 1)) := fL_eq fun j hj => by
        unfold xF
        split
        · rfl
        · unfold aF; rw [decide_eq_false (by omega)]; rfl
      rw [e]
      (have hg : (987654321 : Nat) - 987654321 = 0 := rfl; have hr := hg; repeat' (first | (with_reducible first | refine thenQ_n ?_ | refine blockQ_n ?_ | refine thenQ_e ?_ | refine blockQ_t ?_ | refine blockQ_f (by decide) ?_) | apply aw_seq | apply aw_skip | apply aw_exit | apply aw_ret | apply aw_block | apply aw_condT rfl | apply aw_condF rfl | (refine aw_cond rfl (fun hg => ?_) (fun hg => ?_) <;> (try (have hq := hg; simp only [Bool.not_eq_true', Bool.not_eq_false', Bool.and_eq_true, Bool.and_eq_false_iff, Bool.or_eq_true, Bool.or_eq_false_iff, decide_eq_true_eq, decide_eq_false_iff_not, bne_iff_ne, beq_iff_eq, beq_eq_false_iff_ne, bne_eq_false_iff_eq, ne_eq, Int.not_lt, Int.not_le, Decidable.not_not] at hq)) <;> (try (have hr := hg; simp only [decide_eq_true_eq, decide_eq_false_iff_not] at hr)) <;> (try (exfalso; omega))) | ((first | refine aw_hide fun K hK => aw_region ?_ | refine ago_if (by omega) ?_ | skip); simp (disch := first | exact okY | omega) only [ZU, Nat.reduceMul, Nat.reduceAdd, dI, AOpRun, aexec, Nat.reduceBEq, ↓eget_h, isSh, ↓reduceIte, abin, hr, decide_false, fits]) | subst hK))
      refine ⟨k + 1, by omega, by omega, ?_⟩
      refine wk_q [] [(96, 96), (8, 8), (16, 16)] ?_ ?_ <;> repeat' (first | exact trivial | exact vr_val _ | exact vr_list _ | exact vr_vec _ _ _ _ rfl | exact vr_ptr _ _ _ rfl | refine And.intro ⟨_, rfl, .inl ⟨_, rfl, by decide, ?_⟩⟩ ?_ | apply And.intro)
      all_goals exact vrl_flat _ (bcl_in _)
    have gB := hgj m hm2
    have hval : xF l frs cs k (m + 1) m = (xF l frs cs k m m && hj m) := by
      unfold xF
      rw [if_pos (by omega), if_neg (by omega)]
      unfold aF
      rw [hak m, Bool.and_assoc]
    have hse : fL (frs.length + 1) (xF l frs cs k (m + 1)) = (fL (frs.length + 1) (xF l frs cs k m)).set m (xF l frs cs k m m && hj m) := by
      rw [← hval]
      exact fL_set fun j hne => by
        unfold xF
        by_cases h3 : j < m
        · rw [if_pos h3, if_pos (by omega)]
        · rw [if_neg h3, if_neg (by omega)]
    have hlen := fL_len (frs.length + 1) (xF l frs cs k m)
    have hgm := bc_gd (fL (frs.length + 1) (xF l frs cs k m)) m (by omega)
    rw [fL_get _ (by omega : m < frs.length + 1)] at hgm
    generalize xF l frs cs k m m = a at *
    generalize fL (frs.length + 1) (xF l frs cs k m) = L at *
    have htk := bc_t L m (a && hj m) (by omega)
    rw [← hse] at htk
    have hbl := bcl_len L
    rw [hlen] at hbl
    have j0 : (0 : Int) ≤ (m : Int) := by omega
    have j1 : (m : Int) < ((frs.length + 1 : Nat) : Int) := by omega
    have j2 : m + 1 ≤ frs.length + 1 := by omega
    have j3 : (m : Int) < (frs.length : Int) := by omega
    generalize hj m = b at *
    cases a with
    | true =>
      rw [Bool.true_and] at htk
      (repeat' (first | (with_reducible first | refine thenQ_n ?_ | refine blockQ_n ?_ | refine thenQ_e ?_ | refine blockQ_t ?_ | refine blockQ_f (by decide) ?_) | apply aw_seq | apply aw_skip | apply aw_exit | apply aw_ret | apply aw_block | apply aw_condT rfl | apply aw_condF rfl | ((first | refine aw_hide fun K hK => aw_region ?_ | refine ago_if (by omega) ?_ | skip); simp (disch := first | exact okY | omega) only [ZU, Nat.mul_one, Nat.reduceAdd, dI, AOpRun, aexec, Nat.reduceBEq, ↓eget_h, isSh, ↓reduceIte, abin, j3, Nat.reduceMul, j0, hba, opt1, gB, dB, run1, j1, ↓hget_h, Nat.add_zero, hgm, ARun_some, AG_tt, D.isBot, D.cells, hbl, j2, List.all, D.leaf, splice, htk, fits]) | subst hK))
      refine ⟨m + 1, by omega, by omega, ?_⟩
      refine wk_q [] [(96, 96), (8, 8), (16, 16)] ?_ ?_ <;> repeat' (first | exact trivial | exact vr_val _ | exact vr_list _ | exact vr_vec _ _ _ _ rfl | exact vr_ptr _ _ _ rfl | refine And.intro ⟨_, rfl, .inl ⟨_, rfl, by decide, ?_⟩⟩ ?_ | apply And.intro)
      all_goals exact vrl_flat _ (bcl_in _)
    | false =>
      rw [Bool.false_and] at htk
      (repeat' (first | (with_reducible first | refine thenQ_n ?_ | refine blockQ_n ?_ | refine thenQ_e ?_ | refine blockQ_t ?_ | refine blockQ_f (by decide) ?_) | apply aw_seq | apply aw_skip | apply aw_exit | apply aw_ret | apply aw_block | apply aw_condT rfl | apply aw_condF rfl | ((first | refine aw_hide fun K hK => aw_region ?_ | refine ago_if (by omega) ?_ | skip); simp (disch := first | exact okY | omega) only [ZU, Nat.mul_one, Nat.reduceAdd, dI, AOpRun, aexec, Nat.reduceBEq, ↓eget_h, isSh, ↓reduceIte, abin, j3, Nat.reduceMul, j0, hba, opt1, gB, dB, run1, j1, ↓hget_h, Nat.add_zero, hgm, ARun_some, AG_ft, D.isBot, D.cells, hbl, j2, List.all, D.leaf, splice, htk, fits]) | subst hK))
      refine ⟨m + 1, by omega, by omega, ?_⟩
      refine wk_q [] [(96, 96), (8, 8), (16, 16)] ?_ ?_ <;> repeat' (first | exact trivial | exact vr_val _ | exact vr_list _ | exact vr_vec _ _ _ _ rfl | exact vr_ptr _ _ _ rfl | refine And.intro ⟨_, rfl, .inl ⟨_, rfl, by decide, ?_⟩⟩ ?_ | apply And.intro)
      all_goals exact vrl_flat _ (bcl_in _)
  -- the stretches
  generalize isJ l frs cs = is at *
  unfold tpC
  refine aw_seq (aw_region ?_)
  simp (disch := first | exact okY | omega) only [ZU, Nat.reduceMul, Nat.reduceAdd, dI, AOpRun, aexec, Nat.reduceBEq]
  refine aw_seq (aw_seq (aw_region ?_))
  simp (disch := first | exact okY | omega) only [ZU, Nat.reduceAdd, Nat.reduceMul, AOpRun, aexec, Nat.reduceBEq, ↓eget_h]
  have hbd := evK_bd is h
  refine aw_block (aw_loop (fun i : Nat => ⟨[(3, .ptr 8 0), (4, .vec 24 (evK is h i).2.length 2), (11, dI (evK is h i).1), (61, .vec 16 (frs.length + 1) 1), (62, dI ((frs.length + 1 : Nat) : Int)), (63, dI i)], [(96, tpC l frs), (8, [.list (cds cs), dI h]), (16, bcl (fL (frs.length + 1) is)), (24, scells (evK is h i).2)], 2000⟩) (fun i => i ≤ frs.length + 1) (fun i => frs.length + 1 - i) ⟨0, by omega, ?_⟩ ?_)
  · show Wk _ _ ⟨[_, (4, .vec 24 0 2), (11, dI 0), _, _, _], [_, _, _, (24, [])], _⟩
    unfold tpC dI
    refine wk_q [] [(96, 96), (8, 8), (16, 16), (24, 2900)] ?_ ?_ <;> repeat' (first | exact trivial | exact vr_val _ | exact vr_list _ | exact vr_vec _ _ _ _ rfl | exact vr_ptr _ _ _ rfl | exact vr_nilv _ _ _ rfl | refine And.intro ⟨_, rfl, .inl ⟨_, rfl, by decide, ?_⟩⟩ ?_ | refine And.intro ⟨_, rfl, .inr ⟨rfl, rfl, of_decide_eq_true (by kernel_rfl)⟩⟩ ?_ | apply And.intro)
    all_goals exact vrl_flat _ (bcl_in _)
  intro i hi
  unfold tpC
  have hb := hbd i
  by_cases hi2 : i < frs.length + 1
  case neg =>
    obtain rfl : i = frs.length + 1 := by omega
    have q : decide (((frs.length + 1 : Nat) : Int) < ((frs.length + 1 : Nat) : Int)) = false := decide_eq_false (by omega)
    generalize (evK is h (frs.length + 1)).2 = L at *
    (repeat' (first | (with_reducible first | refine thenQ_n ?_ | refine blockQ_n ?_ | refine thenQ_e ?_ | refine blockQ_t ?_ | refine blockQ_f (by decide) ?_) | apply aw_seq | apply aw_skip | apply aw_exit | apply aw_ret | apply aw_block | apply aw_condT rfl | apply aw_condF rfl | ((first | refine aw_hide fun K hK => aw_region ?_ | refine ago_if (by omega) ?_ | skip); simp (disch := first | exact okY | omega) only [ZU, Nat.reduceMul, Nat.reduceAdd, dI, AOpRun, aexec, Nat.reduceBEq, ↓eget_h, isSh, ↓reduceIte, abin, q]) | subst hK))
    refine end_q [24] [(96, 96)] ?_ ?_ <;> repeat' (first | exact trivial | exact vr_val _ | exact vr_list _ | refine vr_fl _ _ _ _ _ (by decide) rfl ?_ ?_ ?_ ?_ | refine And.intro ⟨_, rfl, _, rfl, by decide, ?_⟩ ?_ | apply And.intro)
    all_goals first | exact sps_two _ | exact sps_len _ | exact sps_flat _ | exact scells_in _
  have hbl : (bcl (fL (frs.length + 1) is)).length = frs.length + 1 := by rw [bcl_len, fL_len]
  have hgi := bc_gd (fL (frs.length + 1) is) i (by rw [fL_len]; exact hi2)
  rw [fL_get _ hi2] at hgi
  have j0 : (0 : Int) ≤ (i : Int) := by omega
  have j1 : (i : Int) < ((frs.length + 1 : Nat) : Int) := by omega
  have q0 : decide ((i : Int) < ((frs.length + 1 : Nat) : Int)) = true := decide_eq_true j1
  have ei := ev_in is h i
  have ei1 := ev_in1 is h i
  have eo := ev_out is h i
  have eo1 := ev_out1 is h i
  cases hv : is i with
  | true =>
    rw [hv] at hgi
    have a1 := ei hv
    have a2 := ei1 hv
    (repeat' (first | (with_reducible first | refine thenQ_n ?_ | refine blockQ_n ?_ | refine thenQ_e ?_ | refine blockQ_t ?_ | refine blockQ_f (by decide) ?_) | apply aw_seq | apply aw_skip | apply aw_exit | apply aw_ret | apply aw_block | apply aw_condT rfl | apply aw_condF rfl | ((first | refine aw_hide fun K hK => aw_region ?_ | refine ago_if (by omega) ?_ | skip); simp (disch := first | exact okY | omega) only [ZU, Nat.mul_one, Nat.reduceAdd, dI, AOpRun, aexec, Nat.reduceBEq, ↓eget_h, isSh, ↓reduceIte, abin, j1, Nat.reduceMul, j0, run1, ↓hget_h, Nat.add_zero, hgi, fits]) | subst hK))
    refine ⟨i + 1, by omega, by omega, ?_⟩
    rw [a1, a2]
    refine wk_q [] [(96, 96), (8, 8), (16, 16), (24, 24)] ?_ ?_ <;> repeat' (first | exact trivial | exact vr_val _ | exact vr_list _ | exact vr_vec _ _ _ _ rfl | exact vr_ptr _ _ _ rfl | refine And.intro ⟨_, rfl, .inl ⟨_, rfl, by decide, ?_⟩⟩ ?_ | apply And.intro | exact vrl_flat _ (by first | exact icells_in _ | exact rcells_in _ | exact scells_in _ | exact bcells_in _ | assumption) | fail)
    all_goals exact vrl_flat _ (bcl_in _)
  | false =>
    rw [hv] at hgi
    have a1 := eo hv
    have a2 := eo1 hv
    generalize hst : evK is h i = P at *
    obtain ⟨f0, L⟩ := P
    simp only at hb a1
    have e1 : IntKind.i64.wrap ((i : Int) - f0) = (i : Int) - f0 := wrap_in (by omega) (by omega)
    have e2 : IntKind.i64.wrap ((i : Int) - 1) = (i : Int) - 1 := wrap_in (by omega) (by omega)
    by_cases hge : (i : Int) - f0 ≥ h
    · have q1 : decide ((i : Int) - f0 ≥ h) = true := decide_eq_true hge
      rw [if_pos hge] at a1
      have hic : (scells L).length = L.length * 2 := scells_len _
      have hit : (scells L).take (L.length * 2) = scells L := sc_all L
      have hcin : ∀ y ∈ scells L ++ [.val (.int .i64 f0), .val (.int .i64 ((i : Int) - 1))], In (fun _ => False) y := by rw [sc_snoc L (f0, (i : Int) - 1)]; exact scells_in _
      have hlen : (L ++ [(f0, (i : Int) - 1)]).length = L.length + 1 := by simp
      (repeat' (first | (with_reducible first | refine thenQ_n ?_ | refine blockQ_n ?_ | refine thenQ_e ?_ | refine blockQ_t ?_ | refine blockQ_f (by decide) ?_) | apply aw_seq | apply aw_skip | apply aw_exit | apply aw_ret | apply aw_block | apply aw_condT rfl | apply aw_condF rfl | ((first | refine aw_hide fun K hK => aw_region ?_ | refine ago_if (by omega) ?_ | skip); simp (disch := first | exact okY | omega) only [ZU, Nat.mul_one, Nat.reduceAdd, dI, AOpRun, aexec, Nat.reduceBEq, ↓eget_h, isSh, ↓reduceIte, abin, j1, Nat.reduceMul, j0, run1, ↓hget_h, Nat.add_zero, hgi, e1, q1, e2, fillD, D.isBot, D.cells, ne_eq, not_true_eq_false, Nat.reduceGT, or_self, splice, List.take, List.drop, base, hic, Nat.le_refl, hit, elems, List.all, D.leaf, and_true, ups, hdel_c, hdel_n, fits]) | subst hK))
      refine ⟨i + 1, by omega, by omega, ?_⟩
      rw [a1, a2, hlen, ← sc_snoc L (f0, (i : Int) - 1)]
      refine wk_q [] [(96, 96), (8, 8), (16, 16), (24, 2152)] ?_ ?_ <;> repeat' (first | exact trivial | exact vr_val _ | exact vr_list _ | exact vr_vec _ _ _ _ rfl | exact vr_ptr _ _ _ rfl | refine And.intro ⟨_, rfl, .inl ⟨_, rfl, by decide, ?_⟩⟩ ?_ | apply And.intro | exact vrl_flat _ (by first | exact icells_in _ | exact rcells_in _ | exact scells_in _ | exact bcells_in _ | assumption) | fail)
      all_goals first | exact vrl_flat _ (bcl_in _) | assumption
    · have q1 : decide ((i : Int) - f0 ≥ h) = false := decide_eq_false hge
      rw [if_neg hge] at a1
      (repeat' (first | (with_reducible first | refine thenQ_n ?_ | refine blockQ_n ?_ | refine thenQ_e ?_ | refine blockQ_t ?_ | refine blockQ_f (by decide) ?_) | apply aw_seq | apply aw_skip | apply aw_exit | apply aw_ret | apply aw_block | apply aw_condT rfl | apply aw_condF rfl | ((first | refine aw_hide fun K hK => aw_region ?_ | refine ago_if (by omega) ?_ | skip); simp (disch := first | exact okY | omega) only [ZU, Nat.mul_one, Nat.reduceAdd, dI, AOpRun, aexec, Nat.reduceBEq, ↓eget_h, isSh, ↓reduceIte, abin, j1, Nat.reduceMul, j0, run1, ↓hget_h, Nat.add_zero, hgi, e1, q1, fits]) | subst hK))
      refine ⟨i + 1, by omega, by omega, ?_⟩
      rw [a1, a2]
      refine wk_q [] [(96, 96), (8, 8), (16, 16), (24, 24)] ?_ ?_ <;> repeat' (first | exact trivial | exact vr_val _ | exact vr_list _ | exact vr_vec _ _ _ _ rfl | exact vr_ptr _ _ _ rfl | refine And.intro ⟨_, rfl, .inl ⟨_, rfl, by decide, ?_⟩⟩ ?_ | apply And.intro | exact vrl_flat _ (by first | exact icells_in _ | exact rcells_in _ | exact scells_in _ | exact bcells_in _ | assumption) | fail)
      all_goals exact vrl_flat _ (bcl_in _)
end Go.Proofs.YtdcodicoclecnaaDoor
/- Events, on both sides (views last). No conditions. -/
namespace Go.Proofs.YtdcodicoclecnaaDoor
open Go Go.RowKit Lift

noncomputable def evE (l : Lay) (frs : List (List Int)) (cs : List Cd) (h : Int) : Int := if tpE l frs = 0 then (if evB l cs h = true then 0 else 121) else tpE l frs
noncomputable def evR (l : Lay) (frs : List (List Int)) (cs : List Cd) (h : Int) : List (Int × Int) := if evE l frs cs h = 0 then (evK (isJ l frs cs) h (frs.length + 1)).2 else []
theorem evR_len (l : Lay) (frs : List (List Int)) (cs : List Cd) (h : Int) : (evR l frs cs h).length ≤ 201 := by
  unfold evR
  split
  · rename_i h0
    have : frs.length ≤ 200 := by
      rcases tpE_cases l frs with ⟨_, _, h2⟩ | ⟨h3, _⟩
      · exact h2
      · unfold evE at h0; rw [if_neg h3] at h0; exact absurd h0 h3
    have := (evK_bd (isJ l frs cs) h (frs.length + 1)).2.2
    omega
  · simp
set_option maxRecDepth 100000 in
set_option maxHeartbeats 8000000 in
theorem events_ac (l : Lay) (frs : List (List Int)) (cs : List Cd) (h : Int) (hl : LayIn l) (hf : FrIn frs) (hn : cs.length ≤ 1000000) : AC Tryd.prog 18 [layD l, .list (rows frs), evD cs h] [] [] (.tup [.list (sps (evR l frs cs h)), dI (evE l frs cs h)]) := by
  refine krecord_Events.ac (n0 := 0) (by simp) ⟨in_layD _ _, .list _, in_ev _ _ _, trivial⟩ trivial rfl ?_
  unfold crecord_Events
  rcases tpE_cases l frs with ⟨h0, h1, h2⟩ | ⟨h0, hb⟩
  case inr =>
    have e : evE l frs cs h = tpE l frs := if_neg h0
    have er : evR l frs cs h = [] := if_neg (by rw [e]; exact h0)
    rw [er, e]
    have nt := newTape_err l frs hl (fun h => h0 (tpE_ok h.1 h.2)) hf
    unfold layD layC evD at *
    generalize tpE l frs = E at *
    (repeat' (first | (with_reducible first | refine thenQ_n ?_ | refine blockQ_n ?_ | refine thenQ_e ?_ | refine blockQ_t ?_ | refine blockQ_f (by decide) ?_) | apply aw_seq | apply aw_skip | apply aw_exit | apply aw_ret | apply aw_block | apply aw_condT rfl | apply aw_condF rfl | ((first | refine aw_hide fun K hK => aw_region ?_ | refine acall0 (nt) ?_ | refine ago_if (by omega) ?_ | skip); simp (disch := first | exact okY | omega) only [ZU, Nat.reduceAdd, Nat.reduceMul, dI, AOpRun, aexec, D.isBot, ↓eget_h, or_self, ↓reduceIte, D.cells, Nat.reduceBEq, Nat.reduceLeDiff, List.drop, List.take, opt1, isSh, abin, hb]) | subst hK))
    (refine end_q [] [] ?_ ?_ <;> repeat' (first | exact trivial | exact vr_val _ | exact vr_nil | apply vr_tup | apply And.intro))
  have nt := newTape_ok l frs hl h1 h2 hf
  have va := evalid_ac l frs cs h hn (by have := h1.nf; omega)
  have e : evE l frs cs h = if evB l cs h = true then 0 else 121 := if_pos h0
  have er : evR l frs cs h = if evE l frs cs h = 0 then (evK (isJ l frs cs) h (frs.length + 1)).2 else [] := rfl
  have et := eventsT_ac l frs cs h h1 h2 hf
  unfold layD layC evD at *
  refine aw_seq (aw_region ?_)
  simp (disch := first | exact okY | omega) only [ZU, dI, Nat.reduceAdd, Nat.reduceMul, AOpRun, aexec, D.isBot, ↓eget_h, or_self, ↓reduceIte, D.cells, Nat.reduceBEq]
  refine aw_wk (s' := ⟨[(1, .list (rows frs)), (3, .ptr 0 0), (5, .ptr 8 0)], [(0, [dI l.words, dI l.s0, dI l.s1, dI l.s2, dI l.s3, .list (fls l.fl)]), (8, [.list (cds cs), dI h])], 80⟩) ?_ ?_
  · unfold dI
    refine wk_q [] [(0, 0), (8, 8)] ?_ ?_ <;> repeat' (first | exact trivial | exact vr_val _ | exact vr_list _ | exact vr_ptr _ _ _ rfl | refine And.intro ⟨_, rfl, .inl ⟨_, rfl, by decide, ?_⟩⟩ ?_ | apply And.intro)
  refine aw_seq (aw_region ?_)
  simp (disch := first | exact okY | omega) only [ZU, Nat.reduceAdd, Nat.reduceMul, dI, AOpRun, aexec, Nat.reduceBEq, ↓eget_h, Nat.reduceLeDiff, ↓reduceIte, List.drop, List.take]
  refine acallB nt (by repeat' (first | exact trivial | exact rfl | refine And.intro ?_ ?_)) (by kernel_rfl) (by kernel_rfl) (by kernel_rfl) ?_
  simp (disch := first | exact okY | omega) only [ZU, Nat.reduceAdd, dI, Nat.reduceBEq, AOpRun, aexec, ↓eget_h, opt1]
  refine aw_seq (aw_seq (aw_region ?_))
  simp (disch := first | exact okY | omega) only [ZU, Nat.reduceAdd, Nat.reduceMul, AOpRun, aexec, Nat.reduceBEq, ↓eget_h, isSh, ↓reduceIte, abin, bne_self_eq_false]
  refine aw_condF rfl (aw_skip ?_)
  cases hv : evB l cs h with
  | false =>
    rw [hv, if_neg (by simp)] at e
    rw [e, if_neg (by omega)] at er
    rw [er, e]
    rw [hv] at va
    (repeat' (first | (with_reducible first | refine thenQ_n ?_ | refine blockQ_n ?_ | refine thenQ_e ?_ | refine blockQ_t ?_ | refine blockQ_f (by decide) ?_) | apply aw_seq | apply aw_skip | apply aw_exit | apply aw_ret | apply aw_block | apply aw_condT rfl | apply aw_condF rfl | ((first | refine aw_hide fun K hK => aw_region ?_ | refine acallB (va) (by repeat' (first | exact trivial | exact rfl | refine And.intro ?_ ?_)) (by kernel_rfl) (by kernel_rfl) (by kernel_rfl) ?_ | refine ago_if (by omega) ?_ | skip); simp (disch := first | exact okY | omega) only [ZU, Nat.reduceAdd, Nat.reduceMul, AOpRun, aexec, Nat.reduceBEq, ↓eget_h, ↓hget_h, Nat.reduceLeDiff, ↓reduceIte, List.drop, List.take, dB]) | subst hK))
    (refine end_q [] [] ?_ ?_ <;> repeat' (first | exact trivial | exact vr_val _ | exact vr_nil | apply vr_tup | apply And.intro))
  | true =>
    rw [hv, if_pos rfl] at e
    rw [e, if_pos rfl] at er
    rw [er, e]
    rw [hv] at va
    have et2 := et hv
    generalize (evK (isJ l frs cs) h (frs.length + 1)).2 = L at *
    (repeat' (first | (with_reducible first | refine thenQ_n ?_ | refine blockQ_n ?_ | refine thenQ_e ?_ | refine blockQ_t ?_ | refine blockQ_f (by decide) ?_) | apply aw_seq | apply aw_skip | apply aw_exit | apply aw_ret | apply aw_block | apply aw_condT rfl | apply aw_condF rfl | ((first | refine aw_hide fun K hK => aw_region ?_ | refine acallB (va) (by repeat' (first | exact trivial | exact rfl | refine And.intro ?_ ?_)) (by kernel_rfl) (by kernel_rfl) (by kernel_rfl) ?_ | refine acallB (et2) (by repeat' (first | exact trivial | exact rfl | refine And.intro ?_ ?_)) (by kernel_rfl) (by kernel_rfl) (by kernel_rfl) ?_ | refine ago_if (by omega) ?_ | skip); simp (disch := first | exact okY | omega) only [ZU, Nat.reduceAdd, Nat.reduceMul, AOpRun, aexec, Nat.reduceBEq, ↓eget_h, ↓hget_h, Nat.reduceLeDiff, ↓reduceIte, List.drop, List.take, dB]) | subst hK))
    (refine end_q [] [] ?_ ?_ <;> repeat' (first | exact trivial | exact vr_val _ | exact vr_list _ | apply vr_tup | apply And.intro))
end Go.Proofs.YtdcodicoclecnaaDoor
/- A safety case, in numbers. No conditions. -/
namespace Go.Proofs.YtdcodicoclecnaaDoor
open Go.RowKit Lift

structure Clm where
  needs : List Int
  proofs : List Int
  any : Bool
structure Cas where
  cl : List Clm
  pf : List (Int × Int)
def clC (x : Clm) : List D := [.list (ints x.needs), .list (ints x.proofs), dB x.any]
def cls (l : List Clm) : List (List D) := l.map clC
def cl0 : Clm := ⟨[], [], false⟩
theorem cls_len (l : List Clm) : (cls l).length = l.length := by simp [cls]
theorem cls_all (l : List Clm) : (cls l).all (fun x => x.length == 3) = true := by simp [cls, clC]
theorem cls_three (l : List Clm) : ∀ e ∈ cls l, e.length = 3 := by simp [cls, clC]
theorem cls_gd (l : List Clm) (k : Nat) (h : k < l.length) : (cls l)[k]? = some (clC (l[k]?.getD cl0)) := by simp [cls, h]
def Asc (l : List Int) (b : Int) : Prop := ∀ i, i < l.length → 0 ≤ l[i]?.getD 0 ∧ l[i]?.getD 0 < b ∧ (0 < i → l[i - 1]?.getD 0 < l[i]?.getD 0)
def pfOk (a : Int × Int) : Prop := 0 ≤ a.1 ∧ a.1 ≤ a.2 ∧ a.2 ≤ 2000
instance (a : Int × Int) : Decidable (pfOk a) := inferInstanceAs (Decidable (_ ∧ _))
def clAt (c : Cas) (i : Nat) : Clm := c.cl[i]?.getD cl0
def pfAt (c : Cas) (i : Nat) : Int × Int := c.pf[i]?.getD (0, 0)
structure CasOk (c : Cas) : Prop where
  n1 : c.cl.length ≤ 16
  n2 : c.pf.length ≤ 12
  asc : ∀ i, i < c.cl.length → Asc (clAt c i).needs i ∧ Asc (clAt c i).proofs c.pf.length
  pf : ∀ i, i < c.pf.length → pfOk (pfAt c i)
open Classical in
noncomputable def casE (c : Cas) (E : Int) : Int := if CasOk c then 0 else E
theorem casE_ok {c : Cas} {E : Int} (h : CasOk c) : casE c E = 0 := if_pos h
theorem casE_no {c : Cas} {E : Int} (h : ¬ CasOk c) : casE c E = E := if_neg h
noncomputable def clmE (c : Cas) (claim tick E A : Int) : Int := if casE c E ≠ 0 then casE c E else if 0 ≤ claim ∧ claim ≤ (c.cl.length : Int) - 1 ∧ 0 ≤ tick ∧ tick ≤ 2000 then 0 else A
def cntT (c : Cas) (tick : Int) (i : Nat) : Bool := decide (i < c.pf.length) && (decide ((pfAt c i).1 ≤ tick) && decide (tick ≤ (pfAt c i).2))
def clV (x : Clm) (h : List Bool) (cn : Nat → Bool) : Bool :=
  if x.any = true then x.needs.any (fun n => h[n.toNat]?.getD false) || x.proofs.any (fun n => cn n.toNat)
  else x.needs.all (fun n => h[n.toNat]?.getD false) && x.proofs.all (fun n => cn n.toNat)
def hlK (c : Cas) (cn : Nat → Bool) : Nat → List Bool
  | 0 => []
  | i + 1 => hlK c cn i ++ [clV (clAt c i) (hlK c cn i) cn]
theorem hlK_len (c : Cas) (cn : Nat → Bool) : ∀ i, (hlK c cn i).length = i
  | 0 => rfl
  | i + 1 => by simp [hlK, hlK_len c cn i]
def holdC (c : Cas) (cl : Nat) (cn : Nat → Bool) : Bool := (hlK c cn (cl + 1))[cl]?.getD false
def hlF (c : Cas) (cn : Nat → Bool) (n i : Nat) : List Bool := (List.range n).map fun j => if j < i then (hlK c cn i)[j]?.getD false else false
theorem hlF_len (c : Cas) (cn : Nat → Bool) (n i : Nat) : (hlF c cn n i).length = n := by simp [hlF]
theorem hlF_get (c : Cas) (cn : Nat → Bool) (n i j : Nat) (h : j < i) (hn : j < n) : (hlF c cn n i)[j]?.getD false = (hlK c cn i)[j]?.getD false := by simp [hlF, hn, h]
theorem hlF_zero (c : Cas) (cn : Nat → Bool) (n : Nat) : hlF c cn n 0 = List.replicate n false := by
  unfold hlF
  refine List.ext_getElem (by simp) fun i h1 h2 => ?_
  simp
theorem hlF_succ (c : Cas) (cn : Nat → Bool) (n i : Nat) (h : i < n) : hlF c cn n (i + 1) = (hlF c cn n i).set i (clV (clAt c i) (hlK c cn i) cn) := by
  unfold hlF
  refine List.ext_getElem (by simp) fun j h1 h2 => ?_
  rw [List.getElem_set]
  simp only [List.getElem_map, List.getElem_range]
  have hl := hlK_len c cn i
  by_cases e : i = j
  · subst e
    rw [if_pos rfl, if_pos (by omega), hlK, List.getElem?_append_right (by omega)]
    simp [hl]
  · rw [if_neg e]
    by_cases hj : j < i
    · rw [if_pos (by omega), if_pos hj, hlK, List.getElem?_append_left (by omega)]
    · rw [if_neg (by omega), if_neg hj]
theorem asc_lt {l : List Int} {b : Int} (h : Asc l b) {n : Int} (hn : n ∈ l) : 0 ≤ n ∧ n < b := by
  obtain ⟨i, hi, rfl⟩ := List.getElem_of_mem hn
  have := h i hi
  simp [hi] at this
  exact ⟨this.1, this.2.1⟩
end Go.Proofs.YtdcodicoclecnaaDoor
