/- Texts of the law RecordShakes, part 7. No conditions. -/
import Derived.Test.YtdcodicoclecnaaPRecordShakes06
/- health: Check and Average of a vibration. No conditions. -/
set_option linter.unusedSimpArgs false
set_option linter.unusedVariables false
namespace Go.Proofs.Ytdcodicoclecnaa
open Go.RowKit Lift

set_option maxRecDepth 100000 in
set_option maxHeartbeats 1000000 in
theorem hwithin_ac (n a b : Int) : AC Try.prog 99 [dI n, dI a, dI b] [] [] (dB (wI n a b)) := by
  refine khealth_within.ac (n0 := 0) (by simp) ⟨.val _, .val _, .val _, trivial⟩ trivial rfl ?_
  unfold chealth_within wI
  cases q1 : decide (a ≤ n) <;> cases q2 : decide (n ≤ b)
  all_goals
    (have hg : (987654321 : Nat) - 987654321 = 0 := rfl; have hr := hg; repeat' (first | refine aw_seq ?_ | (refine aw_skip ?_; try simp only [thenQ, blockQ, if_true, if_false, Nat.reduceEqDiff, reduceCtorEq]) | (refine aw_exit ?_; try simp only [thenQ, blockQ, if_true, if_false, Nat.reduceEqDiff, reduceCtorEq]) | refine aw_ret ?_ | refine aw_block ?_ | refine aw_condT rfl ?_ | refine aw_condF rfl ?_ | ((first | refine aw_region ?_ | refine ago_if (by omega) ?_ | skip); simp (config := {maxSteps := 10000000}) (disch := first | exact okYes (by kernel_rfl) | omega) only [thenQ, List.map, dB, Bool.and_false, List.length, Nat.zero_add, Nat.reduceMul, envOf, dI, Nat.reduceAdd, ARun_none, AOpRun, aexec, FSt.ev, AGo_ok, St.app, putO, eput_c, Nat.reduceBEq, eput_n, cond_false, hups, ARun_nil, dropE_c, inL_n, dropE_n, St.F, ↓eget_h, eget_c, isSh, Bool.false_eq_true, ↓reduceIte, Option.map, abin, ge_iff_le, q1, ARun_some, AG_ft, beq_self_eq_true, cond_true, inL_c, Bool.and_true, AG_tt, q2])))
    all_goals (refine end_to [] [] (by first | exact .inl rfl | exact .inr rfl) rfl (by kernel_rfl) (by kernel_rfl) (by kernel_rfl) ?_ ?_ <;> repeat' (first | exact trivial | exact vr_val _))
set_option maxRecDepth 100000 in
set_option maxHeartbeats 1000000 in
theorem hall1_ac (x a b : Int) : AC Try.prog 152 [dI x, .ptr 0 0, .ptr 8 0] [(0, [dI a]), (8, [dI b])] [(0, some [dI a]), (8, some [dI b])] (dB (!wI x a b)) := by
  refine khealth_all_S1.ac (n0 := 200) (by simp) ⟨.val _, .ptr _ _ (by omega), .ptr _ _ (by omega), trivial⟩ ⟨⟨by omega, by intro d hd; simp at hd; subst hd; exact .val _⟩, ⟨by omega, by intro d hd; simp at hd; subst hd; exact .val _⟩, trivial⟩ rfl ?_
  unfold chealth_all_S1
  (have hg : (987654321 : Nat) - 987654321 = 0 := rfl; have hr := hg; repeat' (first | refine aw_seq ?_ | (refine aw_skip ?_; repeat' (first | with_reducible refine thenQ_n ?_ | with_reducible refine blockQ_n ?_ | with_reducible refine thenQ_e ?_ | with_reducible refine blockQ_t ?_ | with_reducible refine blockQ_f (by decide) ?_)) | (refine aw_exit ?_; repeat' (first | with_reducible refine thenQ_n ?_ | with_reducible refine blockQ_n ?_ | with_reducible refine thenQ_e ?_ | with_reducible refine blockQ_t ?_ | with_reducible refine blockQ_f (by decide) ?_)) | refine aw_ret ?_ | refine aw_block ?_ | refine aw_condT rfl ?_ | refine aw_condF rfl ?_ | ((first | refine aw_hide fun K hK => aw_region ?_ | refine acall0 (hwithin_ac _ _ _) ?_ | refine ago_if (by omega) ?_ | skip); simp (config := {maxSteps := 10000000}) (disch := first | exact okYes (by kernel_rfl) | omega) only [List.length, Nat.zero_add, Nat.reduceMul, Nat.reduceAdd, envOf, dI, ARun_none, AOpRun, aexec, FSt.ev, AGo_ok, St.app, putO, eput_c, Nat.reduceBEq, eput_n, cond_false, hups, List.map, ARun_nil, dropE_c, inL_n, dropE_n, St.F, ↓eget_h, Option.map, run1, eget_c, hget_c, beq_self_eq_true, hget_n, cond_true, List.getElem?_cons_zero, ↓hget_h, dB, inL_c]) | (subst hK; repeat' (first | with_reducible refine thenQ_n ?_ | with_reducible refine blockQ_n ?_ | with_reducible refine thenQ_e ?_ | with_reducible refine blockQ_t ?_ | with_reducible refine blockQ_f (by decide) ?_))))
  all_goals (refine end_to [] [(0, 0), (8, 8)] (by first | exact .inl rfl | exact .inr rfl) rfl (by kernel_rfl) (by kernel_rfl) (by kernel_rfl) ?_ ?_ <;> repeat' (first | exact trivial | exact vr_val _ | refine And.intro ⟨_, rfl, _, rfl, by decide, ?_⟩ ?_ | apply And.intro))
set_option maxRecDepth 100000 in
set_option maxHeartbeats 4000000 in
theorem hidx_ac (l : List Int) (a b : Int) (hl : l.length ≤ 1000000) : AC Try.prog 144 [.list (ints l), .fn 152 [] [.ptr 0 0, .ptr 8 0]] [(0, [dI a]), (8, [dI b])] [(0, some [dI a]), (8, some [dI b])] (dI (match l.findIdx? (fun x => !wI x a b) with
    | some k => (k : Int)
    | none => -1)) := by
  refine kslices_IndexFunc_L_L_Jint_Kint_J.ac (n0 := 200) (by simp) ⟨.list _, .fn _ _ _ (by simp) (by intro d hd; simp at hd; rcases hd with rfl | rfl <;> exact .ptr _ _ (by omega)), trivial⟩ ⟨⟨by omega, by intro d hd; simp at hd; subst hd; exact .val _⟩, ⟨by omega, by intro d hd; simp at hd; subst hd; exact .val _⟩, trivial⟩ rfl ?_
  unfold cslices_IndexFunc_L_L_Jint_Kint_J
  (have hg : (987654321 : Nat) - 987654321 = 0 := rfl; have hr := hg; repeat' (first | refine aw_seq ?_ | (refine aw_skip ?_; repeat' (first | with_reducible refine thenQ_n ?_ | with_reducible refine blockQ_n ?_ | with_reducible refine thenQ_e ?_ | with_reducible refine blockQ_t ?_ | with_reducible refine blockQ_f (by decide) ?_)) | (refine aw_exit ?_; repeat' (first | with_reducible refine thenQ_n ?_ | with_reducible refine blockQ_n ?_ | with_reducible refine thenQ_e ?_ | with_reducible refine blockQ_t ?_ | with_reducible refine blockQ_f (by decide) ?_)) | refine aw_ret ?_ | refine aw_block ?_ | refine aw_condT rfl ?_ | refine aw_condF rfl ?_ | ((first | refine aw_hide fun K hK => aw_region ?_ | refine ago_if (by omega) ?_ | skip); simp (config := {maxSteps := 10000000}) (disch := first | exact okYes (by kernel_rfl) | omega) only [List.length, Nat.zero_add, Nat.reduceMul, Nat.reduceAdd, envOf, dI, ARun_none, AOpRun, aexec, FSt.ev, AGo_ok, St.app, putO, eput_c, Nat.reduceBEq, eput_n, cond_false, hups, List.map, ARun_nil, dropE_c, inL_n, dropE_n, St.F, ↓eget_h, eget_c, ints_len, inL_c, beq_self_eq_true, cond_true, Int.reduceNeg]) | (subst hK; repeat' (first | with_reducible refine thenQ_n ?_ | with_reducible refine blockQ_n ?_ | with_reducible refine thenQ_e ?_ | with_reducible refine blockQ_t ?_ | with_reducible refine blockQ_f (by decide) ?_))))
  refine aw_loop (fun k : Nat => ⟨[(0, .list (ints l)), (1, .fn 152 [] [.ptr 0 0, .ptr 8 0]), (7, dI l.length), (8, dI k)], [(0, [dI a]), (8, [dI b])], 400⟩) (fun k => k ≤ l.length ∧ ∀ j, j < k → wI (l[j]?.getD 0) a b = true) (fun k => l.length - k) ⟨0, ⟨by omega, fun j hj => by omega⟩, ?_⟩ ?_
  · unfold dI
    refine wk_to [] [(0, 0), (8, 8)] (by kernel_rfl) (by kernel_rfl) (by kernel_rfl) (by kernel_rfl) (by kernel_rfl) ?_ ?_ <;> repeat' (first | exact trivial | exact vr_val _ | exact vr_list _ | exact vr_ptr _ _ _ rfl | apply vr_fn | refine And.intro ⟨_, rfl, .inl ⟨_, rfl, by decide, ?_⟩⟩ ?_ | apply And.intro)
  rintro k ⟨hk, hin⟩
  by_cases hk2 : k < l.length
  · have g1 := ints_gd l k hk2
    cases he : wI (l[k]?.getD 0) a b with
    | false =>
      have q : l.findIdx? (fun x => !wI x a b) = some k := by
        rw [List.findIdx?_eq_some_iff_getElem]
        refine ⟨hk2, by have := he; simp [hk2] at this; simp [this], fun j hj => ?_⟩
        have := hin j hj
        simpa [show j < l.length by omega] using this
      rw [q]
      (have hg : (987654321 : Nat) - 987654321 = 0 := rfl; have hr := hg; repeat' (first | refine aw_seq ?_ | (refine aw_skip ?_; repeat' (first | with_reducible refine thenQ_n ?_ | with_reducible refine blockQ_n ?_ | with_reducible refine thenQ_e ?_ | with_reducible refine blockQ_t ?_ | with_reducible refine blockQ_f (by decide) ?_)) | (refine aw_exit ?_; repeat' (first | with_reducible refine thenQ_n ?_ | with_reducible refine blockQ_n ?_ | with_reducible refine thenQ_e ?_ | with_reducible refine blockQ_t ?_ | with_reducible refine blockQ_f (by decide) ?_)) | refine aw_ret ?_ | refine aw_block ?_ | refine aw_condT rfl ?_ | refine aw_condF rfl ?_ | (refine aw_cond rfl (fun hg => ?_) (fun hg => ?_) <;> (try (have hq := hg; simp only [Bool.not_eq_true', Bool.not_eq_false', Bool.and_eq_true, Bool.and_eq_false_iff, Bool.or_eq_true, Bool.or_eq_false_iff, decide_eq_true_eq, decide_eq_false_iff_not, bne_iff_ne, beq_iff_eq, beq_eq_false_iff_ne, bne_eq_false_iff_eq, ne_eq, Int.not_lt, Int.not_le, Decidable.not_not] at hq)) <;> (try (have hr := hg; simp only [decide_eq_true_eq, decide_eq_false_iff_not] at hr)) <;> (try (exfalso; omega))) | ((first | refine aw_hide fun K hK => aw_region ?_ | refine acallB (hall1_ac _ a b) (by repeat' (first | exact trivial | exact rfl | refine And.intro ?_ ?_)) (by kernel_rfl) (by kernel_rfl) (by kernel_rfl) ?_ | refine ago_if (by omega) ?_ | skip); simp (config := {maxSteps := 10000000}) (disch := first | exact okYes (by kernel_rfl) | omega) only [List.length, Nat.zero_add, Nat.reduceMul, Nat.reduceAdd, dI, ARun_none, AOpRun, aexec, FSt.ev, St.F, eget_c, Nat.reduceBEq, ↓eget_h, cond_false, isSh, Bool.false_eq_true, ↓reduceIte, Option.map, abin, AGo_ok, St.app, putO, eput_c, eput_n, hups, List.map, ARun_nil, dropE_c, inL_n, dropE_n, hr, decide_true, inL_c, beq_self_eq_true, cond_true, Int.natCast_nonneg, ints_all, and_self, opt1, Int.toNat_natCast, g1, run1, List.getElem?_cons_zero, dB, he, Bool.not_false, hput_c, hput_n, List.append_nil, blockQ, thenQ]) | (subst hK; repeat' (first | with_reducible refine thenQ_n ?_ | with_reducible refine blockQ_n ?_ | with_reducible refine thenQ_e ?_ | with_reducible refine blockQ_t ?_ | with_reducible refine blockQ_f (by decide) ?_))))
      all_goals (refine end_to [] [(0, 0), (8, 8)] (by first | exact .inl rfl | exact .inr rfl) rfl (by kernel_rfl) (by kernel_rfl) (by kernel_rfl) ?_ ?_ <;> repeat' (first | exact trivial | exact vr_val _ | refine And.intro ⟨_, rfl, _, rfl, by decide, ?_⟩ ?_ | apply And.intro))
    | true =>
      (have hg : (987654321 : Nat) - 987654321 = 0 := rfl; have hr := hg; repeat' (first | refine aw_seq ?_ | (refine aw_skip ?_; repeat' (first | with_reducible refine thenQ_n ?_ | with_reducible refine blockQ_n ?_ | with_reducible refine thenQ_e ?_ | with_reducible refine blockQ_t ?_ | with_reducible refine blockQ_f (by decide) ?_)) | (refine aw_exit ?_; repeat' (first | with_reducible refine thenQ_n ?_ | with_reducible refine blockQ_n ?_ | with_reducible refine thenQ_e ?_ | with_reducible refine blockQ_t ?_ | with_reducible refine blockQ_f (by decide) ?_)) | refine aw_ret ?_ | refine aw_block ?_ | refine aw_condT rfl ?_ | refine aw_condF rfl ?_ | (refine aw_cond rfl (fun hg => ?_) (fun hg => ?_) <;> (try (have hq := hg; simp only [Bool.not_eq_true', Bool.not_eq_false', Bool.and_eq_true, Bool.and_eq_false_iff, Bool.or_eq_true, Bool.or_eq_false_iff, decide_eq_true_eq, decide_eq_false_iff_not, bne_iff_ne, beq_iff_eq, beq_eq_false_iff_ne, bne_eq_false_iff_eq, ne_eq, Int.not_lt, Int.not_le, Decidable.not_not] at hq)) <;> (try (have hr := hg; simp only [decide_eq_true_eq, decide_eq_false_iff_not] at hr)) <;> (try (exfalso; omega))) | ((first | refine aw_hide fun K hK => aw_region ?_ | refine acallB (hall1_ac _ a b) (by repeat' (first | exact trivial | exact rfl | refine And.intro ?_ ?_)) (by kernel_rfl) (by kernel_rfl) (by kernel_rfl) ?_ | refine ago_if (by omega) ?_ | skip); simp (config := {maxSteps := 10000000}) (disch := first | exact okYes (by kernel_rfl) | omega) only [List.length, Nat.zero_add, Nat.reduceMul, Nat.reduceAdd, dI, ARun_none, AOpRun, aexec, FSt.ev, St.F, eget_c, Nat.reduceBEq, ↓eget_h, cond_false, isSh, Bool.false_eq_true, ↓reduceIte, Option.map, abin, AGo_ok, St.app, putO, eput_c, eput_n, hups, List.map, ARun_nil, dropE_c, inL_n, dropE_n, hr, decide_true, inL_c, beq_self_eq_true, cond_true, Int.natCast_nonneg, ints_all, and_self, opt1, Int.toNat_natCast, g1, run1, List.getElem?_cons_zero, dB, he, Bool.not_true, hput_c, hput_n, List.append_nil, fits]) | (subst hK; repeat' (first | with_reducible refine thenQ_n ?_ | with_reducible refine blockQ_n ?_ | with_reducible refine thenQ_e ?_ | with_reducible refine blockQ_t ?_ | with_reducible refine blockQ_f (by decide) ?_))))
      refine ⟨k + 1, ⟨by omega, fun j hj => ?_⟩, by omega, ?_⟩
      · rcases (by omega : j < k ∨ j = k) with h | rfl
        · exact hin j h
        · exact he
      · refine wk_to [] [(0, 0), (8, 8)] (by kernel_rfl) (by kernel_rfl) (by kernel_rfl) (by kernel_rfl) (by kernel_rfl) ?_ ?_ <;> repeat' (first | exact trivial | exact vr_val _ | exact vr_list _ | exact vr_ptr _ _ _ rfl | apply vr_fn | refine And.intro ⟨_, rfl, .inl ⟨_, rfl, by decide, ?_⟩⟩ ?_ | apply And.intro)
  · obtain rfl : k = l.length := by omega
    have q : l.findIdx? (fun x => !wI x a b) = none := by
      rw [List.findIdx?_eq_none_iff]
      intro y hy
      obtain ⟨j, hj, rfl⟩ := List.getElem_of_mem hy
      have := hin j hj
      simp [hj] at this
      simp [this]
    rw [q]
    (have hg : (987654321 : Nat) - 987654321 = 0 := rfl; have hr := hg; repeat' (first | refine aw_seq ?_ | (refine aw_skip ?_; repeat' (first | with_reducible refine thenQ_n ?_ | with_reducible refine blockQ_n ?_ | with_reducible refine thenQ_e ?_ | with_reducible refine blockQ_t ?_ | with_reducible refine blockQ_f (by decide) ?_)) | (refine aw_exit ?_; repeat' (first | with_reducible refine thenQ_n ?_ | with_reducible refine blockQ_n ?_ | with_reducible refine thenQ_e ?_ | with_reducible refine blockQ_t ?_ | with_reducible refine blockQ_f (by decide) ?_)) | refine aw_ret ?_ | refine aw_block ?_ | refine aw_condT rfl ?_ | refine aw_condF rfl ?_ | (refine aw_cond rfl (fun hg => ?_) (fun hg => ?_) <;> (try (have hq := hg; simp only [Bool.not_eq_true', Bool.not_eq_false', Bool.and_eq_true, Bool.and_eq_false_iff, Bool.or_eq_true, Bool.or_eq_false_iff, decide_eq_true_eq, decide_eq_false_iff_not, bne_iff_ne, beq_iff_eq, beq_eq_false_iff_ne, bne_eq_false_iff_eq, ne_eq, Int.not_lt, Int.not_le, Decidable.not_not] at hq)) <;> (try (have hr := hg; simp only [decide_eq_true_eq, decide_eq_false_iff_not] at hr)) <;> (try (exfalso; omega))) | ((first | refine aw_hide fun K hK => aw_region ?_ | refine ago_if (by omega) ?_ | skip); simp (config := {maxSteps := 10000000}) (disch := first | exact okYes (by kernel_rfl) | omega) only [List.length, Nat.zero_add, Nat.reduceMul, Nat.reduceAdd, dI, ARun_none, AOpRun, aexec, FSt.ev, St.F, eget_c, Nat.reduceBEq, ↓eget_h, cond_false, isSh, Bool.false_eq_true, ↓reduceIte, Option.map, abin, AGo_ok, St.app, putO, eput_c, eput_n, hups, List.map, ARun_nil, dropE_c, inL_n, dropE_n, Int.reduceNeg, hr, decide_false]) | (subst hK; repeat' (first | with_reducible refine thenQ_n ?_ | with_reducible refine blockQ_n ?_ | with_reducible refine thenQ_e ?_ | with_reducible refine blockQ_t ?_ | with_reducible refine blockQ_f (by decide) ?_))))
    all_goals (refine end_to [] [(0, 0), (8, 8)] (by first | exact .inl rfl | exact .inr rfl) rfl (by kernel_rfl) (by kernel_rfl) (by kernel_rfl) ?_ ?_ <;> repeat' (first | exact trivial | exact vr_val _ | refine And.intro ⟨_, rfl, _, rfl, by decide, ?_⟩ ?_ | apply And.intro))
set_option maxRecDepth 100000 in
set_option maxHeartbeats 2000000 in
theorem hcont_ac (l : List Int) (a b : Int) (hl : l.length ≤ 1000000) : AC Try.prog 110 [.list (ints l), .fn 152 [] [.ptr 0 0, .ptr 8 0]] [(0, [dI a]), (8, [dI b])] [(0, some [dI a]), (8, some [dI b])] (dB (!allI l a b)) := by
  refine kslices_ContainsFunc_L_L_Jint_Kint_J.ac (n0 := 200) (by simp) ⟨.list _, .fn _ _ _ (by simp) (by intro d hd; simp at hd; rcases hd with rfl | rfl <;> exact .ptr _ _ (by omega)), trivial⟩ ⟨⟨by omega, by intro d hd; simp at hd; subst hd; exact .val _⟩, ⟨by omega, by intro d hd; simp at hd; subst hd; exact .val _⟩, trivial⟩ rfl ?_
  unfold cslices_ContainsFunc_L_L_Jint_Kint_J
  have hf := hidx_ac l a b hl
  cases h : l.findIdx? (fun x => !wI x a b) with
  | none =>
    have ha : allI l a b = true := by
      rw [List.findIdx?_eq_none_iff] at h
      refine List.all_eq_true.2 fun x hx => ?_
      have := h x hx
      simpa using this
    rw [h] at hf
    rw [ha]
    (have hg : (987654321 : Nat) - 987654321 = 0 := rfl; have hr := hg; repeat' (first | refine aw_seq ?_ | (refine aw_skip ?_; repeat' (first | with_reducible refine thenQ_n ?_ | with_reducible refine blockQ_n ?_ | with_reducible refine thenQ_e ?_ | with_reducible refine blockQ_t ?_ | with_reducible refine blockQ_f (by decide) ?_)) | (refine aw_exit ?_; repeat' (first | with_reducible refine thenQ_n ?_ | with_reducible refine blockQ_n ?_ | with_reducible refine thenQ_e ?_ | with_reducible refine blockQ_t ?_ | with_reducible refine blockQ_f (by decide) ?_)) | refine aw_ret ?_ | refine aw_block ?_ | refine aw_condT rfl ?_ | refine aw_condF rfl ?_ | ((first | refine aw_hide fun K hK => aw_region ?_ | refine acallB (hf) (by repeat' (first | exact trivial | exact rfl | refine And.intro ?_ ?_)) (by kernel_rfl) (by kernel_rfl) (by kernel_rfl) ?_ | refine ago_if (by omega) ?_ | skip); simp (config := {maxSteps := 10000000}) (disch := first | exact okYes (by kernel_rfl) | omega) only [List.length, Nat.zero_add, Nat.reduceMul, Nat.reduceAdd, envOf, dI, ARun_none, AOpRun, aexec, FSt.ev, AGo_ok, St.app, putO, eput_c, Nat.reduceBEq, eput_n, cond_false, hups, List.map, ARun_nil, dropE_c, inL_n, dropE_n, St.F, ↓eget_h, eget_c, Int.reduceNeg, hput_c, beq_self_eq_true, hput_n, cond_true, List.append_nil, isSh, Bool.false_eq_true, ↓reduceIte, Option.map, abin, inL_c, dB, Bool.not_true]) | (subst hK; repeat' (first | with_reducible refine thenQ_n ?_ | with_reducible refine blockQ_n ?_ | with_reducible refine thenQ_e ?_ | with_reducible refine blockQ_t ?_ | with_reducible refine blockQ_f (by decide) ?_))))
    all_goals (refine end_to [] [(0, 0), (8, 8)] (by first | exact .inl rfl | exact .inr rfl) rfl (by kernel_rfl) (by kernel_rfl) (by kernel_rfl) ?_ ?_ <;> repeat' (first | exact trivial | exact vr_val _ | refine And.intro ⟨_, rfl, _, rfl, by decide, ?_⟩ ?_ | apply And.intro))
  | some k =>
    have ha : allI l a b = false := by
      rw [List.findIdx?_eq_some_iff_getElem] at h
      obtain ⟨hk, he, _⟩ := h
      refine List.all_eq_false.2 ⟨l[k], List.getElem_mem hk, by simpa using he⟩
    rw [h] at hf
    rw [ha]
    have q : decide ((k : Int) ≥ 0) = true := decide_eq_true (by omega)
    (have hg : (987654321 : Nat) - 987654321 = 0 := rfl; have hr := hg; repeat' (first | refine aw_seq ?_ | (refine aw_skip ?_; repeat' (first | with_reducible refine thenQ_n ?_ | with_reducible refine blockQ_n ?_ | with_reducible refine thenQ_e ?_ | with_reducible refine blockQ_t ?_ | with_reducible refine blockQ_f (by decide) ?_)) | (refine aw_exit ?_; repeat' (first | with_reducible refine thenQ_n ?_ | with_reducible refine blockQ_n ?_ | with_reducible refine thenQ_e ?_ | with_reducible refine blockQ_t ?_ | with_reducible refine blockQ_f (by decide) ?_)) | refine aw_ret ?_ | refine aw_block ?_ | refine aw_condT rfl ?_ | refine aw_condF rfl ?_ | ((first | refine aw_hide fun K hK => aw_region ?_ | refine acallB (hf) (by repeat' (first | exact trivial | exact rfl | refine And.intro ?_ ?_)) (by kernel_rfl) (by kernel_rfl) (by kernel_rfl) ?_ | refine ago_if (by omega) ?_ | skip); simp (config := {maxSteps := 10000000}) (disch := first | exact okYes (by kernel_rfl) | omega) only [List.length, Nat.zero_add, Nat.reduceMul, Nat.reduceAdd, envOf, dI, ARun_none, AOpRun, aexec, FSt.ev, AGo_ok, St.app, putO, eput_c, Nat.reduceBEq, eput_n, cond_false, hups, List.map, ARun_nil, dropE_c, inL_n, dropE_n, St.F, ↓eget_h, eget_c, hput_c, beq_self_eq_true, hput_n, cond_true, List.append_nil, isSh, Bool.false_eq_true, ↓reduceIte, Option.map, abin, Int.natCast_nonneg, decide_true, inL_c, dB, Bool.not_false]) | (subst hK; repeat' (first | with_reducible refine thenQ_n ?_ | with_reducible refine blockQ_n ?_ | with_reducible refine thenQ_e ?_ | with_reducible refine blockQ_t ?_ | with_reducible refine blockQ_f (by decide) ?_))))
    all_goals (refine end_to [] [(0, 0), (8, 8)] (by first | exact .inl rfl | exact .inr rfl) rfl (by kernel_rfl) (by kernel_rfl) (by kernel_rfl) ?_ ?_ <;> repeat' (first | exact trivial | exact vr_val _ | refine And.intro ⟨_, rfl, _, rfl, by decide, ?_⟩ ?_ | apply And.intro))
set_option maxRecDepth 100000 in
set_option maxHeartbeats 2000000 in
theorem hall_ac (l : List Int) (a b : Int) (hl : l.length ≤ 1000000) : AC Try.prog 131 [.list (ints l), dI a, dI b] [] [] (dB (allI l a b)) := by
  refine khealth_all.ac (n0 := 0) (by simp) ⟨.list _, .val _, .val _, trivial⟩ trivial rfl ?_
  unfold chealth_all
  have ch := hcont_ac l a b hl
  refine aw_seq (aw_region ?_)
  simp (config := {maxSteps := 10000000}) (disch := first | exact okYes (by kernel_rfl) | omega) only [thenQ, List.map, dB, List.length, Nat.zero_add, Nat.reduceAdd, Nat.reduceMul, envOf, dI, ARun_none, AOpRun, aexec, D.isBot, FSt.ev, St.F, eget_c, Nat.reduceBEq, ↓eget_h, cond_false, Bool.false_eq_true, Option.isSome, hget_n, or_self, ↓reduceIte, D.cells, AGo_ok, St.app, putO, eput_c, eput_n, hups, hput_n, hget_c, hput_c, ARun_nil, dropE_c, inL_n, dropE_n]
  refine aw_wk (s' := ⟨[(0, .list (ints l)), (4, .ptr 0 0), (5, .ptr 8 0)], [(0, [dI a]), (8, [dI b])], 200⟩) ?_ ?_
  · unfold dI
    refine wk_to [] [(0, 0), (8, 8)] (by kernel_rfl) (by kernel_rfl) (by kernel_rfl) (by kernel_rfl) (by kernel_rfl) ?_ ?_ <;> repeat' (first | exact trivial | exact vr_val _ | exact vr_list _ | exact vr_ptr _ _ _ rfl | refine And.intro ⟨_, rfl, .inl ⟨_, rfl, by decide, ?_⟩⟩ ?_ | apply And.intro)
  (have hg : (987654321 : Nat) - 987654321 = 0 := rfl; have hr := hg; repeat' (first | refine aw_seq ?_ | (refine aw_skip ?_; repeat' (first | with_reducible refine thenQ_n ?_ | with_reducible refine blockQ_n ?_ | with_reducible refine thenQ_e ?_ | with_reducible refine blockQ_t ?_ | with_reducible refine blockQ_f (by decide) ?_)) | (refine aw_exit ?_; repeat' (first | with_reducible refine thenQ_n ?_ | with_reducible refine blockQ_n ?_ | with_reducible refine thenQ_e ?_ | with_reducible refine blockQ_t ?_ | with_reducible refine blockQ_f (by decide) ?_)) | refine aw_ret ?_ | refine aw_block ?_ | refine aw_condT rfl ?_ | refine aw_condF rfl ?_ | ((first | refine aw_hide fun K hK => aw_region ?_ | refine acallB (ch) (by repeat' (first | exact trivial | exact rfl | refine And.intro ?_ ?_)) (by kernel_rfl) (by kernel_rfl) (by kernel_rfl) ?_ | refine ago_if (by omega) ?_ | skip); simp (config := {maxSteps := 10000000}) (disch := first | exact okYes (by kernel_rfl) | omega) only [List.length, Nat.zero_add, Nat.reduceAdd, Nat.reduceMul, dI, ARun_none, AOpRun, aexec, FSt.ev, St.F, ↓eget_h, AGo_ok, St.app, putO, eput_c, Nat.reduceBEq, eput_n, cond_false, hups, List.map, eget_c, dB, hput_c, beq_self_eq_true, hput_n, cond_true, List.append_nil, Bool.not_not, ARun_nil, dropE_c, inL_c, inL_n, dropE_n]) | (subst hK; repeat' (first | with_reducible refine thenQ_n ?_ | with_reducible refine blockQ_n ?_ | with_reducible refine thenQ_e ?_ | with_reducible refine blockQ_t ?_ | with_reducible refine blockQ_f (by decide) ?_))))
  (refine end_to [] [] (by first | exact .inl rfl | exact .inr rfl) rfl (by kernel_rfl) (by kernel_rfl) (by kernel_rfl) ?_ ?_ <;> repeat' (first | exact trivial | exact vr_val _))
set_option maxRecDepth 100000 in
set_option maxHeartbeats 2000000 in
theorem hrising_ac (l : List Int) (hl : l.length ≤ 1000000) : AC Try.prog 132 [.list (ints l)] [] [] (dB (risI l)) := by
  refine khealth_rising.ac (n0 := 0) (by simp) ⟨.list _, trivial⟩ trivial rfl ?_
  unfold chealth_rising
  (have hg : (987654321 : Nat) - 987654321 = 0 := rfl; have hr := hg; repeat' (first | refine aw_seq ?_ | (refine aw_skip ?_; repeat' (first | with_reducible refine thenQ_n ?_ | with_reducible refine blockQ_n ?_ | with_reducible refine thenQ_e ?_ | with_reducible refine blockQ_t ?_ | with_reducible refine blockQ_f (by decide) ?_)) | (refine aw_exit ?_; repeat' (first | with_reducible refine thenQ_n ?_ | with_reducible refine blockQ_n ?_ | with_reducible refine thenQ_e ?_ | with_reducible refine blockQ_t ?_ | with_reducible refine blockQ_f (by decide) ?_)) | refine aw_ret ?_ | refine aw_block ?_ | refine aw_condT rfl ?_ | refine aw_condF rfl ?_ | ((first | refine aw_hide fun K hK => aw_region ?_ | refine ago_if (by omega) ?_ | skip); simp (config := {maxSteps := 10000000}) (disch := first | exact okYes (by kernel_rfl) | omega) only [List.length, Nat.zero_add, Nat.reduceMul, envOf, ARun_none, AOpRun, aexec, FSt.ev, AGo_ok, St.app, putO, eput_c, Nat.reduceBEq, eput_n, cond_false, hups, List.map, ARun_nil, dropE_c, inL_n, dropE_n, Nat.reduceAdd, St.F, ↓eget_h, eget_c, ints_len, inL_c, beq_self_eq_true, cond_true, dB]) | (subst hK; repeat' (first | with_reducible refine thenQ_n ?_ | with_reducible refine blockQ_n ?_ | with_reducible refine thenQ_e ?_ | with_reducible refine blockQ_t ?_ | with_reducible refine blockQ_f (by decide) ?_))))
  refine aw_loop (fun k : Nat => ⟨[(0, .list (ints l)), (5, dI l.length), (6, dI k)], [], 400⟩) (fun k => k ≤ l.length ∧ ∀ j, j < k → 0 < j → iat l (j - 1) < iat l j) (fun k => l.length - k) ⟨0, ⟨by omega, fun j hj => by omega⟩, ?_⟩ ?_
  · refine wk_to [] [] (by kernel_rfl) (by kernel_rfl) (by kernel_rfl) (by kernel_rfl) (by kernel_rfl) ?_ ?_ <;> repeat' (first | exact trivial | exact vr_val _ | exact vr_list _ | apply And.intro)
  rintro k ⟨hk, hin⟩
  by_cases hk2 : k < l.length
  case neg =>
    obtain rfl : k = l.length := by omega
    rw [risI_yes hin]
    (have hg : (987654321 : Nat) - 987654321 = 0 := rfl; have hr := hg; repeat' (first | refine aw_seq ?_ | (refine aw_skip ?_; repeat' (first | with_reducible refine thenQ_n ?_ | with_reducible refine blockQ_n ?_ | with_reducible refine thenQ_e ?_ | with_reducible refine blockQ_t ?_ | with_reducible refine blockQ_f (by decide) ?_)) | (refine aw_exit ?_; repeat' (first | with_reducible refine thenQ_n ?_ | with_reducible refine blockQ_n ?_ | with_reducible refine thenQ_e ?_ | with_reducible refine blockQ_t ?_ | with_reducible refine blockQ_f (by decide) ?_)) | refine aw_ret ?_ | refine aw_block ?_ | refine aw_condT rfl ?_ | refine aw_condF rfl ?_ | (refine aw_cond rfl (fun hg => ?_) (fun hg => ?_) <;> (try (have hq := hg; simp only [Bool.not_eq_true', Bool.not_eq_false', Bool.and_eq_true, Bool.and_eq_false_iff, Bool.or_eq_true, Bool.or_eq_false_iff, decide_eq_true_eq, decide_eq_false_iff_not, bne_iff_ne, beq_iff_eq, beq_eq_false_iff_ne, bne_eq_false_iff_eq, ne_eq, Int.not_lt, Int.not_le, Decidable.not_not] at hq)) <;> (try (have hr := hg; simp only [decide_eq_true_eq, decide_eq_false_iff_not] at hr)) <;> (try (exfalso; omega))) | ((first | refine aw_hide fun K hK => aw_region ?_ | refine ago_if (by omega) ?_ | skip); simp (config := {maxSteps := 10000000}) (disch := first | exact okYes (by kernel_rfl) | omega) only [List.length, Nat.zero_add, Nat.reduceMul, Nat.reduceAdd, dI, ARun_none, AOpRun, aexec, FSt.ev, St.F, eget_c, Nat.reduceBEq, ↓eget_h, cond_false, isSh, Bool.false_eq_true, ↓reduceIte, Option.map, abin, AGo_ok, St.app, putO, eput_c, eput_n, hups, List.map, ARun_nil, dropE_c, inL_n, dropE_n, hr, decide_false]) | (subst hK; repeat' (first | with_reducible refine thenQ_n ?_ | with_reducible refine blockQ_n ?_ | with_reducible refine thenQ_e ?_ | with_reducible refine blockQ_t ?_ | with_reducible refine blockQ_f (by decide) ?_))))
    all_goals (refine end_to [] [] (by first | exact .inl rfl | exact .inr rfl) rfl (by kernel_rfl) (by kernel_rfl) (by kernel_rfl) ?_ ?_ <;> repeat' (first | exact trivial | exact vr_val _))
  have ki : (k : Int) < (l.length : Int) := by omega
  have step : (0 < k → iat l (k - 1) < iat l k) → ∀ j, j < k + 1 → 0 < j → iat l (j - 1) < iat l j := fun h j hj h0 => by
    rcases (by omega : j < k ∨ j = k) with h1 | rfl
    · exact hin j h1 h0
    · exact h h0
  rcases Nat.eq_zero_or_pos k with rfl | h0
  · (have hg : (987654321 : Nat) - 987654321 = 0 := rfl; have hr := hg; repeat' (first | refine aw_seq ?_ | (refine aw_skip ?_; repeat' (first | with_reducible refine thenQ_n ?_ | with_reducible refine blockQ_n ?_ | with_reducible refine thenQ_e ?_ | with_reducible refine blockQ_t ?_ | with_reducible refine blockQ_f (by decide) ?_)) | (refine aw_exit ?_; repeat' (first | with_reducible refine thenQ_n ?_ | with_reducible refine blockQ_n ?_ | with_reducible refine thenQ_e ?_ | with_reducible refine blockQ_t ?_ | with_reducible refine blockQ_f (by decide) ?_)) | refine aw_ret ?_ | refine aw_block ?_ | refine aw_condT rfl ?_ | refine aw_condF rfl ?_ | (refine aw_cond rfl (fun hg => ?_) (fun hg => ?_) <;> (try (have hq := hg; simp only [Bool.not_eq_true', Bool.not_eq_false', Bool.and_eq_true, Bool.and_eq_false_iff, Bool.or_eq_true, Bool.or_eq_false_iff, decide_eq_true_eq, decide_eq_false_iff_not, bne_iff_ne, beq_iff_eq, beq_eq_false_iff_ne, bne_eq_false_iff_eq, ne_eq, Int.not_lt, Int.not_le, Decidable.not_not] at hq)) <;> (try (have hr := hg; simp only [decide_eq_true_eq, decide_eq_false_iff_not] at hr)) <;> (try (exfalso; omega))) | (refine ag_bool (fun hg => ?_) (fun hg => ?_) <;> (try (have hq := hg; simp only [Bool.not_eq_true', Bool.not_eq_false', Bool.and_eq_true, Bool.and_eq_false_iff, Bool.or_eq_true, Bool.or_eq_false_iff, decide_eq_true_eq, decide_eq_false_iff_not, bne_iff_ne, beq_iff_eq, beq_eq_false_iff_ne, bne_eq_false_iff_eq, ne_eq, Int.not_lt, Int.not_le, Decidable.not_not] at hq)) <;> (try (have hr := hg; simp only [decide_eq_true_eq, decide_eq_false_iff_not] at hr)) <;> (try (exfalso; omega)) <;> simp (config := {maxSteps := 10000000}) (disch := first | exact okYes (by kernel_rfl) | omega) only [hr, decide_false, AG_ft, Nat.reduceAdd, St.app, putO, eput_c, Nat.reduceBEq, eput_n, cond_false, hups, ARun_some, eget_c, ↓eget_h, ARun_none, AOpRun, aexec, FSt.ev, St.F, Bool.false_eq_true, ↓reduceIte, AGo_ok, List.map, ARun_nil, dropE_c, inL_c, inL_n, beq_self_eq_true, cond_true, dropE_n]) | ((first | refine aw_hide fun K hK => aw_region ?_ | refine ago_if (by omega) ?_ | skip); simp (config := {maxSteps := 10000000}) (disch := first | exact okYes (by kernel_rfl) | omega) only [List.length, Nat.zero_add, Nat.reduceMul, Nat.reduceAdd, dI, cast_lit, ARun_none, AOpRun, aexec, FSt.ev, St.F, eget_c, Nat.reduceBEq, ↓eget_h, cond_false, isSh, Bool.false_eq_true, ↓reduceIte, Option.map, abin, AGo_ok, St.app, putO, eput_c, eput_n, hups, List.map, ARun_nil, dropE_c, inL_n, dropE_n, hr, decide_true, inL_c, beq_self_eq_true, cond_true, ARun_some, Int.reduceAdd, fits]) | (subst hK; repeat' (first | with_reducible refine thenQ_n ?_ | with_reducible refine blockQ_n ?_ | with_reducible refine thenQ_e ?_ | with_reducible refine blockQ_t ?_ | with_reducible refine blockQ_f (by decide) ?_))))
    refine ⟨1, ⟨by omega, step (fun h => by omega)⟩, by omega, ?_⟩
    refine wk_to [] [] (by kernel_rfl) (by kernel_rfl) (by kernel_rfl) (by kernel_rfl) (by kernel_rfl) ?_ ?_ <;> repeat' (first | exact trivial | exact vr_val _ | exact vr_list _ | apply And.intro)
  obtain ⟨j, rfl⟩ : ∃ j, k = j + 1 := ⟨k - 1, by omega⟩
  have g1 := ints_gd l (j + 1) hk2
  have g2 := ints_gd l j (by omega)
  rw [show l[j + 1]?.getD 0 = iat l (j + 1) from rfl] at g1
  rw [show l[j]?.getD 0 = iat l j from rfl] at g2
  have e1 : IntKind.i64.wrap (((j + 1 : Nat) : Int) - 1) = (j : Int) := by rw [wrap_in (by omega) (by omega)]; omega
  have kj : (j : Int) < (l.length : Int) := by omega
  have q0 : decide (((j + 1 : Nat) : Int) > 0) = true := decide_eq_true (by omega)
  have hst := step
  generalize hk3 : j + 1 = k at *
  cases q1 : decide (iat l k ≤ iat l j) with
  | true =>
    rw [risI_no (k := k) (by omega) hk2 (by have := of_decide_eq_true q1; rw [show k - 1 = j by omega]; exact this)]
    (have hg : (987654321 : Nat) - 987654321 = 0 := rfl; have hr := hg; repeat' (first | refine aw_seq ?_ | (refine aw_skip ?_; repeat' (first | with_reducible refine thenQ_n ?_ | with_reducible refine blockQ_n ?_ | with_reducible refine thenQ_e ?_ | with_reducible refine blockQ_t ?_ | with_reducible refine blockQ_f (by decide) ?_)) | (refine aw_exit ?_; repeat' (first | with_reducible refine thenQ_n ?_ | with_reducible refine blockQ_n ?_ | with_reducible refine thenQ_e ?_ | with_reducible refine blockQ_t ?_ | with_reducible refine blockQ_f (by decide) ?_)) | refine aw_ret ?_ | refine aw_block ?_ | refine aw_condT rfl ?_ | refine aw_condF rfl ?_ | (refine aw_cond rfl (fun hg => ?_) (fun hg => ?_) <;> (try (have hq := hg; simp only [Bool.not_eq_true', Bool.not_eq_false', Bool.and_eq_true, Bool.and_eq_false_iff, Bool.or_eq_true, Bool.or_eq_false_iff, decide_eq_true_eq, decide_eq_false_iff_not, bne_iff_ne, beq_iff_eq, beq_eq_false_iff_ne, bne_eq_false_iff_eq, ne_eq, Int.not_lt, Int.not_le, Decidable.not_not] at hq)) <;> (try (have hr := hg; simp only [decide_eq_true_eq, decide_eq_false_iff_not] at hr)) <;> (try (exfalso; omega))) | ((first | refine aw_hide fun K hK => aw_region ?_ | refine ago_if (by omega) ?_ | skip); simp (config := {maxSteps := 10000000}) (disch := first | exact okYes (by kernel_rfl) | omega) only [List.length, Nat.zero_add, Nat.reduceMul, Nat.reduceAdd, dI, ARun_none, AOpRun, aexec, FSt.ev, St.F, eget_c, Nat.reduceBEq, ↓eget_h, cond_false, isSh, Bool.false_eq_true, ↓reduceIte, Option.map, abin, AGo_ok, St.app, putO, eput_c, eput_n, hups, List.map, ARun_nil, dropE_c, inL_n, dropE_n, hr, decide_true, inL_c, beq_self_eq_true, cond_true, q0, ARun_some, AG_tt, Int.natCast_nonneg, ints_all, and_self, opt1, Int.toNat_natCast, g1, run1, List.getElem?_cons_zero, e1, g2, q1, blockQ, thenQ]) | (subst hK; repeat' (first | with_reducible refine thenQ_n ?_ | with_reducible refine blockQ_n ?_ | with_reducible refine thenQ_e ?_ | with_reducible refine blockQ_t ?_ | with_reducible refine blockQ_f (by decide) ?_))))
    all_goals (refine end_to [] [] (by first | exact .inl rfl | exact .inr rfl) rfl (by kernel_rfl) (by kernel_rfl) (by kernel_rfl) ?_ ?_ <;> repeat' (first | exact trivial | exact vr_val _))
  | false =>
    (have hg : (987654321 : Nat) - 987654321 = 0 := rfl; have hr := hg; repeat' (first | refine aw_seq ?_ | (refine aw_skip ?_; repeat' (first | with_reducible refine thenQ_n ?_ | with_reducible refine blockQ_n ?_ | with_reducible refine thenQ_e ?_ | with_reducible refine blockQ_t ?_ | with_reducible refine blockQ_f (by decide) ?_)) | (refine aw_exit ?_; repeat' (first | with_reducible refine thenQ_n ?_ | with_reducible refine blockQ_n ?_ | with_reducible refine thenQ_e ?_ | with_reducible refine blockQ_t ?_ | with_reducible refine blockQ_f (by decide) ?_)) | refine aw_ret ?_ | refine aw_block ?_ | refine aw_condT rfl ?_ | refine aw_condF rfl ?_ | (refine aw_cond rfl (fun hg => ?_) (fun hg => ?_) <;> (try (have hq := hg; simp only [Bool.not_eq_true', Bool.not_eq_false', Bool.and_eq_true, Bool.and_eq_false_iff, Bool.or_eq_true, Bool.or_eq_false_iff, decide_eq_true_eq, decide_eq_false_iff_not, bne_iff_ne, beq_iff_eq, beq_eq_false_iff_ne, bne_eq_false_iff_eq, ne_eq, Int.not_lt, Int.not_le, Decidable.not_not] at hq)) <;> (try (have hr := hg; simp only [decide_eq_true_eq, decide_eq_false_iff_not] at hr)) <;> (try (exfalso; omega))) | ((first | refine aw_hide fun K hK => aw_region ?_ | refine ago_if (by omega) ?_ | skip); simp (config := {maxSteps := 10000000}) (disch := first | exact okYes (by kernel_rfl) | omega) only [List.length, Nat.zero_add, Nat.reduceMul, Nat.reduceAdd, dI, ARun_none, AOpRun, aexec, FSt.ev, St.F, eget_c, Nat.reduceBEq, ↓eget_h, cond_false, isSh, Bool.false_eq_true, ↓reduceIte, Option.map, abin, AGo_ok, St.app, putO, eput_c, eput_n, hups, List.map, ARun_nil, dropE_c, inL_n, dropE_n, hr, decide_true, inL_c, beq_self_eq_true, cond_true, q0, ARun_some, AG_tt, Int.natCast_nonneg, ints_all, and_self, opt1, Int.toNat_natCast, g1, run1, List.getElem?_cons_zero, e1, g2, q1, fits]) | (subst hK; repeat' (first | with_reducible refine thenQ_n ?_ | with_reducible refine blockQ_n ?_ | with_reducible refine thenQ_e ?_ | with_reducible refine blockQ_t ?_ | with_reducible refine blockQ_f (by decide) ?_))))
    refine ⟨k + 1, ⟨by omega, hst (fun _ => by have := of_decide_eq_false q1; rw [show k - 1 = j by omega]; omega)⟩, by omega, ?_⟩
    refine wk_to [] [] (by kernel_rfl) (by kernel_rfl) (by kernel_rfl) (by kernel_rfl) (by kernel_rfl) ?_ ?_ <;> repeat' (first | exact trivial | exact vr_val _ | exact vr_list _ | apply And.intro)
theorem in_vib (S : Nat → Prop) (s m : List Int) : In S (.agg [.list (ints s), .list (ints m)]) := .agg _ (by intro d hd; simp at hd; rcases hd with rfl | rfl <;> exact .list _)
theorem vib_yes {s m : List Int} (h1 : s.length ≤ 400) (h2 : allI s (-100) 100 = true) (h3 : wI (m.length : Int) 2 9 = true) (h4 : allI m 0 ((s.length : Int) - 1) = true) (h5 : risI m = true) : vibE s m = 0 := by
  unfold vibE vibB; rw [decide_eq_true h1, h2, h3, h4, h5]; rfl
theorem vib_no {s m : List Int} (h : vibB s m = false) : vibE s m = 80 := by unfold vibE; rw [h]; rfl
set_option maxRecDepth 100000 in
set_option maxHeartbeats 4000000 in
theorem hcheck_ac (s m : List Int) (hs : s.length ≤ 1000000) (hm : m.length ≤ 1000000) : AC Try.prog 98 [.agg [.list (ints s), .list (ints m)]] [] [] (dI (vibE s m)) := by
  refine khealth_Check.ac (n0 := 0) (by simp) ⟨in_vib _ _ _, trivial⟩ trivial rfl ?_
  unfold chealth_Check
  have c1 := hall_ac s (-100) 100 hs
  have c2 := hwithin_ac m.length 2 9
  have c3 := hall_ac m 0 ((s.length : Int) - 1) hm
  have c4 := hrising_ac m hm
  have sl := ints_len s
  have ml := ints_len m
  cases q1 : decide ((s.length : Int) > 400) with
  | true =>
    have h1 := of_decide_eq_true q1
    rw [vib_no (by unfold vibB; rw [decide_eq_false (by omega)]; rfl)]
    (have hg : (987654321 : Nat) - 987654321 = 0 := rfl; have hr := hg; repeat' (first | refine aw_seq ?_ | (refine aw_skip ?_; repeat' (first | with_reducible refine thenQ_n ?_ | with_reducible refine blockQ_n ?_ | with_reducible refine thenQ_e ?_ | with_reducible refine blockQ_t ?_ | with_reducible refine blockQ_f (by decide) ?_)) | (refine aw_exit ?_; repeat' (first | with_reducible refine thenQ_n ?_ | with_reducible refine blockQ_n ?_ | with_reducible refine thenQ_e ?_ | with_reducible refine blockQ_t ?_ | with_reducible refine blockQ_f (by decide) ?_)) | refine aw_ret ?_ | refine aw_block ?_ | refine aw_condT rfl ?_ | refine aw_condF rfl ?_ | ((first | refine aw_hide fun K hK => aw_region ?_ | refine ago_if (by omega) ?_ | skip); simp (config := {maxSteps := 10000000}) (disch := first | exact okYes (by kernel_rfl) | omega) only [List.length, Nat.zero_add, Nat.reduceAdd, Nat.reduceMul, envOf, ARun_none, AOpRun, aexec, D.isBot, FSt.ev, St.F, ↓eget_h, Bool.false_eq_true, Option.isSome, hget_n, or_self, ↓reduceIte, D.cells, AGo_ok, St.app, putO, eput_c, Nat.reduceBEq, eput_n, cond_false, hups, hput_n, List.map, ARun_nil, dropE_c, inL_n, dropE_n, Int.reduceNeg, eget_c, Option.map, run1, hget_c, beq_self_eq_true, cond_true, List.getElem?_cons_zero, sl, isSh, abin, q1, ARun_some, AG_tf, inL_c, thenQ, dI]) | (subst hK; repeat' (first | with_reducible refine thenQ_n ?_ | with_reducible refine blockQ_n ?_ | with_reducible refine thenQ_e ?_ | with_reducible refine blockQ_t ?_ | with_reducible refine blockQ_f (by decide) ?_))))
    all_goals (refine end_to [] [] (by first | exact .inl rfl | exact .inr rfl) rfl (by kernel_rfl) (by kernel_rfl) (by kernel_rfl) ?_ ?_ <;> repeat' (first | exact trivial | exact vr_val _))
  | false =>
  have h1 := of_decide_eq_false q1
  have h1' : decide (s.length ≤ 400) = true := decide_eq_true (by omega)
  cases q2 : allI s (-100) 100 with
  | false =>
    rw [q2] at c1
    rw [vib_no (by unfold vibB; rw [q2]; simp)]
    (have hg : (987654321 : Nat) - 987654321 = 0 := rfl; have hr := hg; repeat' (first | refine aw_seq ?_ | (refine aw_skip ?_; repeat' (first | with_reducible refine thenQ_n ?_ | with_reducible refine blockQ_n ?_ | with_reducible refine thenQ_e ?_ | with_reducible refine blockQ_t ?_ | with_reducible refine blockQ_f (by decide) ?_)) | (refine aw_exit ?_; repeat' (first | with_reducible refine thenQ_n ?_ | with_reducible refine blockQ_n ?_ | with_reducible refine thenQ_e ?_ | with_reducible refine blockQ_t ?_ | with_reducible refine blockQ_f (by decide) ?_)) | refine aw_ret ?_ | refine aw_block ?_ | refine aw_condT rfl ?_ | refine aw_condF rfl ?_ | ((first | refine aw_hide fun K hK => aw_region ?_ | refine acall0 (c1) ?_ | refine ago_if (by omega) ?_ | skip); simp (config := {maxSteps := 10000000}) (disch := first | exact okYes (by kernel_rfl) | omega) only [List.length, Nat.zero_add, Nat.reduceAdd, Nat.reduceMul, envOf, ARun_none, AOpRun, aexec, D.isBot, FSt.ev, St.F, ↓eget_h, Bool.false_eq_true, Option.isSome, hget_n, or_self, ↓reduceIte, D.cells, AGo_ok, St.app, putO, eput_c, Nat.reduceBEq, eput_n, cond_false, hups, hput_n, List.map, ARun_nil, dropE_c, inL_n, dropE_n, Int.reduceNeg, eget_c, Option.map, run1, hget_c, beq_self_eq_true, cond_true, List.getElem?_cons_zero, sl, isSh, abin, q1, ARun_some, AG_ff, dB, Bool.not_false, AG_tf, inL_c, thenQ, dI]) | (subst hK; repeat' (first | with_reducible refine thenQ_n ?_ | with_reducible refine blockQ_n ?_ | with_reducible refine thenQ_e ?_ | with_reducible refine blockQ_t ?_ | with_reducible refine blockQ_f (by decide) ?_))))
    all_goals (refine end_to [] [] (by first | exact .inl rfl | exact .inr rfl) rfl (by kernel_rfl) (by kernel_rfl) (by kernel_rfl) ?_ ?_ <;> repeat' (first | exact trivial | exact vr_val _))
  | true =>
  rw [q2] at c1
  cases q3 : wI (m.length : Int) 2 9 with
  | false =>
    rw [q3] at c2
    rw [vib_no (by unfold vibB; rw [q3]; simp)]
    (have hg : (987654321 : Nat) - 987654321 = 0 := rfl; have hr := hg; repeat' (first | refine aw_seq ?_ | (refine aw_skip ?_; repeat' (first | with_reducible refine thenQ_n ?_ | with_reducible refine blockQ_n ?_ | with_reducible refine thenQ_e ?_ | with_reducible refine blockQ_t ?_ | with_reducible refine blockQ_f (by decide) ?_)) | (refine aw_exit ?_; repeat' (first | with_reducible refine thenQ_n ?_ | with_reducible refine blockQ_n ?_ | with_reducible refine thenQ_e ?_ | with_reducible refine blockQ_t ?_ | with_reducible refine blockQ_f (by decide) ?_)) | refine aw_ret ?_ | refine aw_block ?_ | refine aw_condT rfl ?_ | refine aw_condF rfl ?_ | ((first | refine aw_hide fun K hK => aw_region ?_ | refine acall0 (c1) ?_ | refine acall0 (c2) ?_ | refine ago_if (by omega) ?_ | skip); simp (config := {maxSteps := 10000000}) (disch := first | exact okYes (by kernel_rfl) | omega) only [List.length, Nat.zero_add, Nat.reduceAdd, Nat.reduceMul, envOf, ARun_none, AOpRun, aexec, D.isBot, FSt.ev, St.F, ↓eget_h, Bool.false_eq_true, Option.isSome, hget_n, or_self, ↓reduceIte, D.cells, AGo_ok, St.app, putO, eput_c, Nat.reduceBEq, eput_n, cond_false, hups, hput_n, List.map, ARun_nil, dropE_c, inL_n, dropE_n, Int.reduceNeg, eget_c, Option.map, run1, hget_c, beq_self_eq_true, cond_true, List.getElem?_cons_zero, sl, isSh, abin, q1, ARun_some, AG_ff, dB, Bool.not_true, List.getElem?_cons_succ, ml, Bool.not_false, AG_tf, inL_c, thenQ, dI]) | (subst hK; repeat' (first | with_reducible refine thenQ_n ?_ | with_reducible refine blockQ_n ?_ | with_reducible refine thenQ_e ?_ | with_reducible refine blockQ_t ?_ | with_reducible refine blockQ_f (by decide) ?_))))
    all_goals (refine end_to [] [] (by first | exact .inl rfl | exact .inr rfl) rfl (by kernel_rfl) (by kernel_rfl) (by kernel_rfl) ?_ ?_ <;> repeat' (first | exact trivial | exact vr_val _))
  | true =>
  rw [q3] at c2
  cases q4 : allI m 0 ((s.length : Int) - 1) with
  | false =>
    rw [q4] at c3
    rw [vib_no (by unfold vibB; rw [q4]; simp)]
    (have hg : (987654321 : Nat) - 987654321 = 0 := rfl; have hr := hg; repeat' (first | refine aw_seq ?_ | (refine aw_skip ?_; repeat' (first | with_reducible refine thenQ_n ?_ | with_reducible refine blockQ_n ?_ | with_reducible refine thenQ_e ?_ | with_reducible refine blockQ_t ?_ | with_reducible refine blockQ_f (by decide) ?_)) | (refine aw_exit ?_; repeat' (first | with_reducible refine thenQ_n ?_ | with_reducible refine blockQ_n ?_ | with_reducible refine thenQ_e ?_ | with_reducible refine blockQ_t ?_ | with_reducible refine blockQ_f (by decide) ?_)) | refine aw_ret ?_ | refine aw_block ?_ | refine aw_condT rfl ?_ | refine aw_condF rfl ?_ | ((first | refine aw_hide fun K hK => aw_region ?_ | refine acall0 (c1) ?_ | refine acall0 (c2) ?_ | refine acall0 (c3) ?_ | refine ago_if (by omega) ?_ | skip); simp (config := {maxSteps := 10000000}) (disch := first | exact okYes (by kernel_rfl) | omega) only [List.length, Nat.zero_add, Nat.reduceAdd, Nat.reduceMul, envOf, ARun_none, AOpRun, aexec, D.isBot, FSt.ev, St.F, ↓eget_h, Bool.false_eq_true, Option.isSome, hget_n, or_self, ↓reduceIte, D.cells, AGo_ok, St.app, putO, eput_c, Nat.reduceBEq, eput_n, cond_false, hups, hput_n, List.map, ARun_nil, dropE_c, inL_n, dropE_n, Int.reduceNeg, eget_c, Option.map, run1, hget_c, beq_self_eq_true, cond_true, List.getElem?_cons_zero, sl, isSh, abin, q1, ARun_some, AG_ff, dB, Bool.not_true, List.getElem?_cons_succ, ml, fits, Bool.not_false, AG_tf, inL_c, thenQ, dI]) | (subst hK; repeat' (first | with_reducible refine thenQ_n ?_ | with_reducible refine blockQ_n ?_ | with_reducible refine thenQ_e ?_ | with_reducible refine blockQ_t ?_ | with_reducible refine blockQ_f (by decide) ?_))))
    all_goals (refine end_to [] [] (by first | exact .inl rfl | exact .inr rfl) rfl (by kernel_rfl) (by kernel_rfl) (by kernel_rfl) ?_ ?_ <;> repeat' (first | exact trivial | exact vr_val _))
  | true =>
  rw [q4] at c3
  cases q5 : risI m with
  | false =>
    rw [q5] at c4
    rw [vib_no (by unfold vibB; rw [q5]; simp)]
    (have hg : (987654321 : Nat) - 987654321 = 0 := rfl; have hr := hg; repeat' (first | refine aw_seq ?_ | (refine aw_skip ?_; repeat' (first | with_reducible refine thenQ_n ?_ | with_reducible refine blockQ_n ?_ | with_reducible refine thenQ_e ?_ | with_reducible refine blockQ_t ?_ | with_reducible refine blockQ_f (by decide) ?_)) | (refine aw_exit ?_; repeat' (first | with_reducible refine thenQ_n ?_ | with_reducible refine blockQ_n ?_ | with_reducible refine thenQ_e ?_ | with_reducible refine blockQ_t ?_ | with_reducible refine blockQ_f (by decide) ?_)) | refine aw_ret ?_ | refine aw_block ?_ | refine aw_condT rfl ?_ | refine aw_condF rfl ?_ | ((first | refine aw_hide fun K hK => aw_region ?_ | refine acall0 (c1) ?_ | refine acall0 (c2) ?_ | refine acall0 (c3) ?_ | refine acall0 (c4) ?_ | refine ago_if (by omega) ?_ | skip); simp (config := {maxSteps := 10000000}) (disch := first | exact okYes (by kernel_rfl) | omega) only [List.length, Nat.zero_add, Nat.reduceAdd, Nat.reduceMul, envOf, ARun_none, AOpRun, aexec, D.isBot, FSt.ev, St.F, ↓eget_h, Bool.false_eq_true, Option.isSome, hget_n, or_self, ↓reduceIte, D.cells, AGo_ok, St.app, putO, eput_c, Nat.reduceBEq, eput_n, cond_false, hups, hput_n, List.map, ARun_nil, dropE_c, inL_n, dropE_n, Int.reduceNeg, eget_c, Option.map, run1, hget_c, beq_self_eq_true, cond_true, List.getElem?_cons_zero, sl, isSh, abin, q1, ARun_some, AG_ff, dB, Bool.not_true, List.getElem?_cons_succ, ml, fits, Bool.not_false, inL_c, thenQ, dI]) | (subst hK; repeat' (first | with_reducible refine thenQ_n ?_ | with_reducible refine blockQ_n ?_ | with_reducible refine thenQ_e ?_ | with_reducible refine blockQ_t ?_ | with_reducible refine blockQ_f (by decide) ?_))))
    all_goals (refine end_to [] [] (by first | exact .inl rfl | exact .inr rfl) rfl (by kernel_rfl) (by kernel_rfl) (by kernel_rfl) ?_ ?_ <;> repeat' (first | exact trivial | exact vr_val _))
  | true =>
    rw [q5] at c4
    rw [vib_yes (by omega) q2 q3 q4 q5]
    (have hg : (987654321 : Nat) - 987654321 = 0 := rfl; have hr := hg; repeat' (first | refine aw_seq ?_ | (refine aw_skip ?_; repeat' (first | with_reducible refine thenQ_n ?_ | with_reducible refine blockQ_n ?_ | with_reducible refine thenQ_e ?_ | with_reducible refine blockQ_t ?_ | with_reducible refine blockQ_f (by decide) ?_)) | (refine aw_exit ?_; repeat' (first | with_reducible refine thenQ_n ?_ | with_reducible refine blockQ_n ?_ | with_reducible refine thenQ_e ?_ | with_reducible refine blockQ_t ?_ | with_reducible refine blockQ_f (by decide) ?_)) | refine aw_ret ?_ | refine aw_block ?_ | refine aw_condT rfl ?_ | refine aw_condF rfl ?_ | ((first | refine aw_hide fun K hK => aw_region ?_ | refine acall0 (c1) ?_ | refine acall0 (c2) ?_ | refine acall0 (c3) ?_ | refine acall0 (c4) ?_ | refine ago_if (by omega) ?_ | skip); simp (config := {maxSteps := 10000000}) (disch := first | exact okYes (by kernel_rfl) | omega) only [List.length, Nat.zero_add, Nat.reduceAdd, Nat.reduceMul, envOf, ARun_none, AOpRun, aexec, D.isBot, FSt.ev, St.F, ↓eget_h, Bool.false_eq_true, Option.isSome, hget_n, or_self, ↓reduceIte, D.cells, AGo_ok, St.app, putO, eput_c, Nat.reduceBEq, eput_n, cond_false, hups, hput_n, List.map, ARun_nil, dropE_c, inL_n, dropE_n, Int.reduceNeg, eget_c, Option.map, run1, hget_c, beq_self_eq_true, cond_true, List.getElem?_cons_zero, sl, isSh, abin, q1, ARun_some, AG_ff, dB, Bool.not_true, List.getElem?_cons_succ, ml, fits, inL_c, dI]) | (subst hK; repeat' (first | with_reducible refine thenQ_n ?_ | with_reducible refine blockQ_n ?_ | with_reducible refine thenQ_e ?_ | with_reducible refine blockQ_t ?_ | with_reducible refine blockQ_f (by decide) ?_))))
    all_goals (refine end_to [] [] (by first | exact .inl rfl | exact .inr rfl) rfl (by kernel_rfl) (by kernel_rfl) (by kernel_rfl) ?_ ?_ <;> repeat' (first | exact trivial | exact vr_val _))
end Go.Proofs.Ytdcodicoclecnaa
/- health: the sums of an average. No conditions. -/
set_option linter.unusedSimpArgs false
set_option linter.unusedVariables false
namespace Go.Proofs.Ytdcodicoclecnaa
open Go.RowKit Lift

/-- one point of one turn, in the machine's numbers -/
theorem point_ok {s m : List Int} (h : VibOk s m) {n i k : Nat} (hi : i + 1 < m.length) (hk : k < n) (hn : n ≤ 24) :
    ∃ a b P w q R Q : Nat, iat m i = a ∧ iat m (i + 1) = b ∧ (b : Int) - a = w ∧ k * w = P ∧ P < 10000 ∧ P / n = q ∧ P % n = R ∧ R < n ∧ a + q = Q ∧ Q + 1 < s.length ∧ b < 400 ∧ w < 400 ∧
      (R = 0 → avV s m n i k = ((n : Int) - R) * iat s Q) ∧ (0 < R → avV s m n i k = ((n : Int) - R) * iat s Q + (R : Int) * iat s (Q + 1)) := by
  obtain ⟨a, w, h1, h2, h3, h4, h5, h6⟩ := turn_ok h hi
  have hq := quo_lt hk h3
  have hr : k * w % n < n := Nat.mod_lt _ (by omega)
  have hl := h.sl
  have hP : k * w ≤ 24 * 400 := Nat.mul_le_mul (by omega) (by omega)
  refine ⟨a, a + w, k * w, w, k * w / n, k * w % n, a + k * w / n, h1, h2, by omega, rfl, by omega, rfl, rfl, hr, rfl, by omega, by omega, by omega, fun hR => ?_, fun hR => ?_⟩
  · unfold avV
    rw [h5, h6, if_pos hR, hR, Int.natCast_zero, Int.sub_zero]
  · unfold avV
    rw [h5, h6, if_neg (by omega)]
set_option maxRecDepth 100000 in
set_option maxHeartbeats 8000000 in
theorem havg_ok (s m : List Int) (n : Nat) (h : VibOk s m) (h0 : vibE s m = 0) (hn0 : 1 ≤ n) (hn : n ≤ 24) : AC Try.prog 54 [.agg [.list (ints s), .list (ints m)], dI n] [] [] (.tup [.list (ints (sumL s m n (m.length - 1) 0)), dI ((n : Int) * ((m.length : Int) - 1)), dI 0]) := by
  refine khealth_Average.ac (n0 := 0) (by simp) ⟨in_vib _ _ _, .val _, trivial⟩ trivial rfl ?_
  unfold chealth_Average
  have hs := h.sl
  have hml := h.ml
  have hmh := h.mh
  have c1 := hcheck_ac s m (by omega) (by omega)
  rw [h0] at c1
  have c2 := hwithin_ac n 1 24
  rw [wI_y (by omega) (by omega)] at c2
  have ml := ints_len m
  have sl := ints_len s
  have mg := ints_all m
  have sg := ints_all s
  have hrz := rep_ic n
  have m1 : (0 : Int) ≤ (n : Int) := by omega
  have m2 : (n : Int) * 8 ≤ 2 ^ 48 := by omega
  have m3 : (n : Int) < 2 ^ 62 := by omega
  refine aw_seq (aw_region ?_)
  simp (config := {maxSteps := 10000000}) (disch := first | exact okYes (by kernel_rfl) | omega) only [thenQ, List.map, dI, List.length, Nat.zero_add, Nat.reduceAdd, Nat.reduceMul, envOf, ARun_none, AOpRun, aexec, D.isBot, FSt.ev, St.F, ↓eget_h, Bool.false_eq_true, Option.isSome, hget_n, or_self, ↓reduceIte, D.cells, AGo_ok, St.app, putO, eput_c, Nat.reduceBEq, eput_n, cond_false, hups, hput_n, ARun_nil, dropE_c, inL_n, dropE_n]
  refine aw_seq (aw_seq (aw_region ?_))
  simp (config := {maxSteps := 10000000}) (disch := first | exact okYes (by kernel_rfl) | omega) only [thenQ, List.length, Nat.zero_add, Nat.reduceAdd, Nat.reduceMul, ARun_none, AOpRun, aexec, FSt.ev, St.F, eget_c, Nat.reduceBEq, ↓eget_h, cond_false, hget_c, beq_self_eq_true, hget_n, cond_true, Nat.reduceLeDiff, ↓reduceIte, List.drop, List.take, AGo_ok, St.app, putO, eput_c, eput_n, hups, List.map]
  refine acall0 c1 ?_
  simp (config := {maxSteps := 10000000}) (disch := first | exact okYes (by kernel_rfl) | omega) only [Nat.reduceAdd, St.app, putO, dI, eput_c, Nat.reduceBEq, eput_n, cond_false, hups, ARun_none, AOpRun, aexec, FSt.ev, St.F, eget_c, ↓eget_h, AGo_ok, List.map, ARun_nil, dropE_c, inL_c, inL_n, beq_self_eq_true, cond_true, dropE_n]
  refine aw_seq (aw_region ?_)
  simp (config := {maxSteps := 10000000}) (disch := first | exact okYes (by kernel_rfl) | omega) only [thenQ, List.length, Nat.zero_add, Nat.reduceAdd, Nat.reduceMul, ARun_none, AOpRun, aexec, FSt.ev, St.F, eget_c, Nat.reduceBEq, ↓eget_h, cond_false, AGo_ok, St.app, putO, eput_c, eput_n, hups, List.map, isSh, Bool.false_eq_true, ↓reduceIte, Option.map, abin, bne_self_eq_false, ARun_nil, dropE_c, inL_c, inL_n, beq_self_eq_true, cond_true, dropE_n]
  refine aw_condF rfl (aw_skip ?_)
  refine aw_seq (aw_seq (aw_region ?_))
  simp (config := {maxSteps := 10000000}) (disch := first | exact okYes (by kernel_rfl) | omega) only [thenQ, List.length, Nat.zero_add, Nat.reduceAdd, Nat.reduceMul, ARun_none, AOpRun, aexec, FSt.ev, St.F, eget_c, Nat.reduceBEq, ↓eget_h, cond_false, AGo_ok, St.app, putO, eput_c, eput_n, hups, List.map]
  refine acall0 c2 ?_
  simp (config := {maxSteps := 10000000}) (disch := first | exact okYes (by kernel_rfl) | omega) only [Nat.reduceAdd, St.app, putO, dB, eput_c, Nat.reduceBEq, eput_n, cond_false, hups, ARun_none, AOpRun, aexec, FSt.ev, St.F, eget_c, ↓eget_h, Bool.not_true, AGo_ok, List.map, ARun_nil, dropE_c, inL_c, inL_n, beq_self_eq_true, cond_true, dropE_n]
  refine aw_condF rfl (aw_skip ?_)
  refine aw_seq (aw_region ?_)
  simp (config := {maxSteps := 10000000}) (disch := first | exact okYes (by kernel_rfl) | omega) only [thenQ, List.length, Nat.zero_add, Nat.reduceAdd, Nat.reduceMul, ARun_none, AOpRun, aexec, FSt.ev, St.F, eget_c, Nat.reduceBEq, ↓eget_h, cond_false, AGo_ok, St.app, putO, eput_c, eput_n, hups, List.map, m1, cast_lit, m2, m3, Option.isSome, hget_c, hget_n, and_self, ↓reduceIte, Int.toNat_natCast, hrz, hput_c, hput_n, beq_self_eq_true, cond_true, ARun_nil, dropE_c, inL_c, inL_n, dropE_n]
  refine aw_wk (s' := ⟨[(1, dI n), (2, .ptr 0 0), (4, .vec 200 n 1)], [(0, [.list (ints s), .list (ints m)]), (200, icells (sumL s m n 0 0))], 300⟩) ?_ ?_
  · rw [sumL_zero]
    unfold dI
    refine wk_to [] [(0, 0), (200, 104)] (by kernel_rfl) (by kernel_rfl) (by kernel_rfl) (by kernel_rfl) (by kernel_rfl) ?_ ?_ <;> repeat' (first | exact trivial | exact vr_val _ | exact vr_list _ | exact vr_vec _ _ _ _ rfl | exact vr_ptr _ _ _ rfl | refine And.intro ⟨_, rfl, .inl ⟨_, rfl, by decide, ?_⟩⟩ ?_ | apply And.intro | exact vrl_flat _ (by first | exact icells_in _ | exact rcells_in _ | exact scells_in _ | exact bcells_in _ | assumption))
  refine aw_seq (aw_seq (aw_region ?_))
  simp (config := {maxSteps := 10000000}) (disch := first | exact okYes (by kernel_rfl) | omega) only [thenQ, List.length, Nat.zero_add, Nat.reduceAdd, Nat.reduceMul, dI, ARun_none, AOpRun, aexec, FSt.ev, St.F, eget_c, Nat.reduceBEq, ↓eget_h, cond_false, AGo_ok, St.app, putO, eput_c, eput_n, hups, List.map, Option.map, run1, hget_c, beq_self_eq_true, hget_n, cond_true, List.getElem?_cons_succ, List.getElem?_cons_zero, ml, isSh, Bool.false_eq_true, ↓reduceIte, abin, fits, ARun_nil, dropE_c, inL_c, inL_n, dropE_n]
  refine aw_block (aw_loop (fun i : Nat => ⟨[(1, dI n), (2, .ptr 0 0), (4, .vec 200 n 1), (27, dI ((m.length : Int) - 1)), (28, dI i)], [(0, [.list (ints s), .list (ints m)]), (200, icells (sumL s m n i 0))], 1000⟩) (fun i => i ≤ m.length - 1) (fun i => m.length - 1 - i) ⟨0, by omega, ?_⟩ ?_)
  · unfold dI
    refine wk_to [] [(0, 0), (200, 200)] (by kernel_rfl) (by kernel_rfl) (by kernel_rfl) (by kernel_rfl) (by kernel_rfl) ?_ ?_ <;> repeat' (first | exact trivial | exact vr_val _ | exact vr_list _ | exact vr_vec _ _ _ _ rfl | exact vr_ptr _ _ _ rfl | refine And.intro ⟨_, rfl, .inl ⟨_, rfl, by decide, ?_⟩⟩ ?_ | apply And.intro | exact vrl_flat _ (by first | exact icells_in _ | exact rcells_in _ | exact scells_in _ | exact bcells_in _ | assumption))
    all_goals exact vrl_flat _ (icells_in _)
  intro i hi
  by_cases hi2 : i < m.length - 1
  case neg =>
    obtain rfl : i = m.length - 1 := by omega
    have e104 : IntKind.i64.wrap ((n : Int) * ((m.length : Int) - 1)) = (n : Int) * ((m.length : Int) - 1) := by
      have := mul_bd (A := 24) (B := 9) (a := (n : Int)) (b := (m.length : Int) - 1) (by omega) (by omega) (by omega) (by omega)
      exact wrap_in (by omega) (by omega)
    have hll := sumL_len s m n (m.length - 1) 0
    generalize sumL s m n (m.length - 1) 0 = L at *
    (have hg : (987654321 : Nat) - 987654321 = 0 := rfl; have hr := hg; repeat' (first | refine aw_seq ?_ | (refine aw_skip ?_; repeat' (first | with_reducible refine thenQ_n ?_ | with_reducible refine blockQ_n ?_ | with_reducible refine thenQ_e ?_ | with_reducible refine blockQ_t ?_ | with_reducible refine blockQ_f (by decide) ?_)) | (refine aw_exit ?_; repeat' (first | with_reducible refine thenQ_n ?_ | with_reducible refine blockQ_n ?_ | with_reducible refine thenQ_e ?_ | with_reducible refine blockQ_t ?_ | with_reducible refine blockQ_f (by decide) ?_)) | refine aw_ret ?_ | refine aw_block ?_ | refine aw_condT rfl ?_ | refine aw_condF rfl ?_ | (refine aw_cond rfl (fun hg => ?_) (fun hg => ?_) <;> (try (have hq := hg; simp only [Bool.not_eq_true', Bool.not_eq_false', Bool.and_eq_true, Bool.and_eq_false_iff, Bool.or_eq_true, Bool.or_eq_false_iff, decide_eq_true_eq, decide_eq_false_iff_not, bne_iff_ne, beq_iff_eq, beq_eq_false_iff_ne, bne_eq_false_iff_eq, ne_eq, Int.not_lt, Int.not_le, Decidable.not_not] at hq)) <;> (try (have hr := hg; simp only [decide_eq_true_eq, decide_eq_false_iff_not] at hr)) <;> (try (exfalso; omega))) | ((first | refine aw_hide fun K hK => aw_region ?_ | refine ago_if (by omega) ?_ | skip); simp (config := {maxSteps := 10000000}) (disch := first | exact okYes (by kernel_rfl) | omega) only [List.length, Nat.zero_add, Nat.reduceMul, Nat.reduceAdd, dI, ARun_none, AOpRun, aexec, FSt.ev, St.F, eget_c, Nat.reduceBEq, ↓eget_h, cond_false, isSh, Bool.false_eq_true, ↓reduceIte, Option.map, abin, AGo_ok, St.app, putO, eput_c, eput_n, hups, List.map, ARun_nil, dropE_c, inL_n, dropE_n, hr, decide_false, run1, hget_c, beq_self_eq_true, hget_n, cond_true, List.getElem?_cons_succ, List.getElem?_cons_zero, ml, fits, e104, inL_c]) | (subst hK; repeat' (first | with_reducible refine thenQ_n ?_ | with_reducible refine blockQ_n ?_ | with_reducible refine thenQ_e ?_ | with_reducible refine blockQ_t ?_ | with_reducible refine blockQ_f (by decide) ?_))))
    refine end_to [200] [] (by first | exact .inl rfl | exact .inr rfl) rfl (by kernel_rfl) (by kernel_rfl) (by kernel_rfl) ?_ ?_ <;> repeat' (first | exact trivial | exact vr_val _ | apply vr_tup | refine vr_fl _ _ _ _ _ (by decide) rfl ?_ ?_ ?_ ?_ | apply And.intro)
    all_goals first | exact ints_one _ | exact (ints_len _).trans hll | exact ints_flat _ | exact icells_in _
  have g1 := ints_gd m i (by omega)
  have g2 := ints_gd m (i + 1) (by omega)
  rw [show m[i]?.getD 0 = iat m i from rfl] at g1
  rw [show m[i + 1]?.getD 0 = iat m (i + 1) from rfl] at g2
  have hpt := fun k hk => point_ok (n := n) (k := k) h (i := i) (by omega) hk hn
  obtain ⟨a, b, P0, w, q0, R0, Q0, ha, hb, hw, -⟩ := hpt 0 (by omega)
  rw [ha] at g1
  rw [hb] at g2
  have ki : (i : Int) < (m.length : Int) - 1 := by omega
  have ki0 : (i : Int) < (m.length : Int) := by omega
  have ki1 : (i : Int) + 1 < (m.length : Int) := by omega
  have e39 : ((i : Int) + 1).toNat = i + 1 := by omega
  have kz : (0 : Int) ≤ (i : Int) + 1 := by omega
  refine aw_seq (aw_region ?_)
  simp (config := {maxSteps := 10000000}) (disch := first | exact okYes (by kernel_rfl) | omega) only [thenQ, dI, List.length, Nat.zero_add, Nat.reduceMul, Nat.reduceAdd, ARun_none, AOpRun, aexec, FSt.ev, St.F, eget_c, Nat.reduceBEq, ↓eget_h, cond_false, isSh, Bool.false_eq_true, ↓reduceIte, Option.map, abin, ki, decide_true, AGo_ok, St.app, putO, eput_c, eput_n, hups, List.map, ARun_nil, dropE_c, inL_n, dropE_n]
  refine aw_seq (aw_condT rfl (aw_skip ?_))
  refine aw_seq (aw_block (aw_seq (aw_region ?_)))
  simp (config := {maxSteps := 10000000}) (disch := first | exact okYes (by kernel_rfl) | omega) only [thenQ, List.length, Nat.zero_add, Nat.reduceAdd, Nat.reduceMul, ARun_none, AOpRun, aexec, FSt.ev, St.F, eget_c, Nat.reduceBEq, ↓eget_h, cond_false, AGo_ok, St.app, putO, eput_c, eput_n, hups, List.map, ARun_nil, dropE_c, inL_c, inL_n, beq_self_eq_true, cond_true, dropE_n]
  refine aw_seq (aw_region ?_)
  simp (config := {maxSteps := 10000000}) (disch := first | exact okYes (by kernel_rfl) | omega) only [thenQ, List.length, Nat.zero_add, Nat.reduceAdd, Nat.reduceMul, ARun_none, AOpRun, aexec, FSt.ev, St.F, eget_c, Nat.reduceBEq, ↓eget_h, cond_false, AGo_ok, St.app, putO, eput_c, eput_n, hups, List.map, Option.map, run1, hget_c, beq_self_eq_true, hget_n, cond_true, List.getElem?_cons_succ, List.getElem?_cons_zero, Int.natCast_nonneg, mg, and_self, ↓reduceIte, opt1, Int.toNat_natCast, g1, isSh, Bool.false_eq_true, abin, fits, kz, e39, g2, ARun_nil, dropE_c, inL_c, inL_n, dropE_n]
  refine aw_seq (aw_region ?_)
  simp (config := {maxSteps := 10000000}) (disch := first | exact okYes (by kernel_rfl) | omega) only [thenQ, List.length, Nat.zero_add, Nat.reduceAdd, Nat.reduceMul, ARun_none, AOpRun, aexec, FSt.ev, St.F, eget_c, Nat.reduceBEq, ↓eget_h, cond_false, AGo_ok, St.app, putO, eput_c, eput_n, hups, List.map, ARun_nil, dropE_c, inL_c, inL_n, beq_self_eq_true, cond_true, dropE_n]
  refine aw_block (aw_loop (fun k : Nat => ⟨[(1, dI n), (2, .ptr 0 0), (4, .vec 200 n 1), (27, dI ((m.length : Int) - 1)), (28, dI i), (9, dI a), (10, dI b), (43, dI n), (44, dI k)], [(0, [.list (ints s), .list (ints m)]), (200, icells (sumL s m n i k))], 2000⟩) (fun k => k ≤ n) (fun k => n - k) ⟨0, by omega, ?_⟩ ?_)
  · unfold dI
    refine wk_to [] [(0, 0), (200, 200)] (by kernel_rfl) (by kernel_rfl) (by kernel_rfl) (by kernel_rfl) (by kernel_rfl) ?_ ?_ <;> repeat' (first | exact trivial | exact vr_val _ | exact vr_list _ | exact vr_vec _ _ _ _ rfl | exact vr_ptr _ _ _ rfl | refine And.intro ⟨_, rfl, .inl ⟨_, rfl, by decide, ?_⟩⟩ ?_ | apply And.intro | exact vrl_flat _ (by first | exact icells_in _ | exact rcells_in _ | exact scells_in _ | exact bcells_in _ | assumption))
    all_goals exact vrl_flat _ (icells_in _)
  intro k hk
  by_cases hk2 : k < n
  case neg =>
    obtain rfl : k = n := by omega
    have hse := sumL_end s m k i
    generalize sumL s m k i k = L at *
    (have hg : (987654321 : Nat) - 987654321 = 0 := rfl; have hr := hg; repeat' (first | refine aw_seq ?_ | (refine aw_skip ?_; repeat' (first | with_reducible refine thenQ_n ?_ | with_reducible refine blockQ_n ?_ | with_reducible refine thenQ_e ?_ | with_reducible refine blockQ_t ?_ | with_reducible refine blockQ_f (by decide) ?_)) | (refine aw_exit ?_; repeat' (first | with_reducible refine thenQ_n ?_ | with_reducible refine blockQ_n ?_ | with_reducible refine thenQ_e ?_ | with_reducible refine blockQ_t ?_ | with_reducible refine blockQ_f (by decide) ?_)) | refine aw_ret ?_ | refine aw_block ?_ | refine aw_condT rfl ?_ | refine aw_condF rfl ?_ | (refine aw_cond rfl (fun hg => ?_) (fun hg => ?_) <;> (try (have hq := hg; simp only [Bool.not_eq_true', Bool.not_eq_false', Bool.and_eq_true, Bool.and_eq_false_iff, Bool.or_eq_true, Bool.or_eq_false_iff, decide_eq_true_eq, decide_eq_false_iff_not, bne_iff_ne, beq_iff_eq, beq_eq_false_iff_ne, bne_eq_false_iff_eq, ne_eq, Int.not_lt, Int.not_le, Decidable.not_not] at hq)) <;> (try (have hr := hg; simp only [decide_eq_true_eq, decide_eq_false_iff_not] at hr)) <;> (try (exfalso; omega))) | ((first | refine aw_hide fun K hK => aw_region ?_ | refine ago_if (by omega) ?_ | skip); simp (config := {maxSteps := 10000000}) (disch := first | exact okYes (by kernel_rfl) | omega) only [List.length, Nat.zero_add, Nat.reduceMul, Nat.reduceAdd, dI, ARun_none, AOpRun, aexec, FSt.ev, St.F, eget_c, Nat.reduceBEq, ↓eget_h, cond_false, isSh, Bool.false_eq_true, ↓reduceIte, Option.map, abin, AGo_ok, St.app, putO, eput_c, eput_n, hups, List.map, ARun_nil, dropE_c, inL_n, dropE_n, hr, decide_false, fits, beq_self_eq_true, cond_true, inL_c]) | (subst hK; repeat' (first | with_reducible refine thenQ_n ?_ | with_reducible refine blockQ_n ?_ | with_reducible refine thenQ_e ?_ | with_reducible refine blockQ_t ?_ | with_reducible refine blockQ_f (by decide) ?_))))
    refine ⟨i + 1, by omega, by omega, ?_⟩
    rw [← hse]
    refine wk_to [] [(0, 0), (200, 200)] (by kernel_rfl) (by kernel_rfl) (by kernel_rfl) (by kernel_rfl) (by kernel_rfl) ?_ ?_ <;> repeat' (first | exact trivial | exact vr_val _ | exact vr_list _ | exact vr_vec _ _ _ _ rfl | exact vr_ptr _ _ _ rfl | refine And.intro ⟨_, rfl, .inl ⟨_, rfl, by decide, ?_⟩⟩ ?_ | apply And.intro | exact vrl_flat _ (by first | exact icells_in _ | exact rcells_in _ | exact scells_in _ | exact bcells_in _ | assumption))
    all_goals exact vrl_flat _ (icells_in _)
  obtain ⟨a', b', P, w', q, R, Q, ha', hb', hw', hP, hPl, hq, hR, hRl, hQ, hQl, hbl, hwl, hv0, hv1⟩ := hpt k hk2
  obtain rfl : a = a' := by omega
  obtain rfl : b = b' := by omega
  obtain rfl : w = w' := by omega
  have gq := ints_gd s Q (by omega)
  have gq1 := ints_gd s (Q + 1) (by omega)
  rw [show s[Q]?.getD 0 = iat s Q from rfl] at gq
  rw [show s[Q + 1]?.getD 0 = iat s (Q + 1) from rfl] at gq1
  have s1 := h.sb Q (by omega)
  have s2 := h.sb (Q + 1) (by omega)
  have a0 := avS_bd h hk2 hn i (by omega)
  have a1 := avS_bd h hk2 hn (i + 1) (by omega)
  have ha1 : avS s m n (i + 1) k = avS s m n i k + avV s m n i k := rfl
  have gs := ic_gd (sumL s m n i k) k (by rw [sumL_len]; exact hk2)
  rw [sumL_get s m n i k hk2] at gs
  have hset := sumL_set s m n i k hk2
  rw [← ha1] at hset
  have t1 := mul_bd (A := 24) (B := 100) (a := (n : Int) - R) (b := iat s Q) (by omega) (by omega) s1.1 s1.2
  have t2 := mul_bd (A := 24) (B := 100) (a := (R : Int)) (b := iat s (Q + 1)) (by omega) (by omega) s2.1 s2.2
  have e50 : (b : Int) - (a : Int) = (w : Int) := hw
  have e51 : IntKind.i64.wrap ((k : Int) * (w : Int)) = (P : Int) := by rw [← Int.natCast_mul, hP]; exact wrap_in (by omega) (by omega)
  have e53 : Int.tdiv (P : Int) (n : Int) = (q : Int) := by rw [← hq]; rfl
  have e60 : Int.tmod (P : Int) (n : Int) = (R : Int) := by rw [← hR]; rfl
  have n0 : ¬ (n : Int) = 0 := by omega
  have e72 : IntKind.i64.wrap ((a : Int) + (q : Int)) = (Q : Int) := by rw [wrap_in (by omega) (by omega)]; omega
  have e90 : IntKind.i64.wrap ((Q : Int) + 1) = ((Q + 1 : Nat) : Int) := by rw [wrap_in (by omega) (by omega)]; omega
  obtain ⟨x1, hx1⟩ : ∃ x, x = ((n : Int) - R) * iat s Q := ⟨_, rfl⟩
  obtain ⟨x2, hx2⟩ : ∃ x, x = (R : Int) * iat s (Q + 1) := ⟨_, rfl⟩
  rw [← hx1] at t1 hv0 hv1
  rw [← hx2] at t2 hv1
  have e75 : IntKind.i64.wrap (((n : Int) - R) * iat s Q) = x1 := by rw [← hx1]; exact wrap_in (by omega) (by omega)
  have e93 : IntKind.i64.wrap ((R : Int) * iat s (Q + 1)) = x2 := by rw [← hx2]; exact wrap_in (by omega) (by omega)
  obtain ⟨T, hT⟩ : ∃ T, T = avS s m n i k + x1 := ⟨_, rfl⟩
  have e76 : IntKind.i64.wrap (avS s m n i k + x1) = T := by rw [hT]; exact wrap_in (by omega) (by omega)
  have kq : (Q : Int) < (s.length : Int) := by omega
  have kq1 : ((Q + 1 : Nat) : Int) < (s.length : Int) := by omega
  have kn : (k : Int) < (n : Int) := by omega
  have k1n : k + 1 ≤ n := by omega
  have hlen := sumL_len s m n i k
  have hcl : (icells (sumL s m n i k)).length = n := by rw [icells_len]; exact hlen
  have hst1 := ic_t (sumL s m n i k) k T (by omega)
  have hcin := icells_in (sumL s m n i (k + 1))
  rcases Nat.eq_zero_or_pos R with hR0 | hR0
  · have hTS : T = avS s m n (i + 1) k := by rw [hT, ha1, hv0 hR0]
    rw [← hTS] at hset
    rw [hset] at hst1
    have q79 : decide ((R : Int) > 0) = false := decide_eq_false (by omega)
    generalize avS s m n i k = S0 at *
    generalize sumL s m n i k = L at *
    generalize hg1 : sumL s m n i (k + 1) = L1 at *
    (have hg : (987654321 : Nat) - 987654321 = 0 := rfl; have hr := hg; repeat' (first | refine aw_seq ?_ | (refine aw_skip ?_; repeat' (first | with_reducible refine thenQ_n ?_ | with_reducible refine blockQ_n ?_ | with_reducible refine thenQ_e ?_ | with_reducible refine blockQ_t ?_ | with_reducible refine blockQ_f (by decide) ?_)) | (refine aw_exit ?_; repeat' (first | with_reducible refine thenQ_n ?_ | with_reducible refine blockQ_n ?_ | with_reducible refine thenQ_e ?_ | with_reducible refine blockQ_t ?_ | with_reducible refine blockQ_f (by decide) ?_)) | refine aw_ret ?_ | refine aw_block ?_ | refine aw_condT rfl ?_ | refine aw_condF rfl ?_ | ((first | refine aw_hide fun K hK => aw_region ?_ | refine ago_if (by omega) ?_ | skip); simp (config := {maxSteps := 10000000}) (disch := first | exact okYes (by kernel_rfl) | omega) only [List.length, Nat.zero_add, Nat.mul_one, Nat.reduceAdd, dI, ARun_none, AOpRun, aexec, FSt.ev, St.F, eget_c, Nat.reduceBEq, ↓eget_h, cond_false, isSh, Bool.false_eq_true, ↓reduceIte, Option.map, abin, kn, decide_true, AGo_ok, St.app, putO, eput_c, eput_n, hups, List.map, ARun_nil, dropE_c, inL_n, dropE_n, Nat.reduceMul, inL_c, beq_self_eq_true, cond_true, e50, fits, e51, n0, e53, e60, Int.natCast_nonneg, and_self, Int.toNat_natCast, run1, hget_c, ↓hget_h, Nat.add_zero, gs, hget_n, List.getElem?_cons_zero, e72, sg, opt1, gq, e75, e76, D.isBot, D.cells, hcl, k1n, List.all, D.leaf, Bool.and_true, splice, hst1, hput_c, hput_n, q79]) | (subst hK; repeat' (first | with_reducible refine thenQ_n ?_ | with_reducible refine blockQ_n ?_ | with_reducible refine thenQ_e ?_ | with_reducible refine blockQ_t ?_ | with_reducible refine blockQ_f (by decide) ?_))))
    refine ⟨k + 1, by omega, by omega, ?_⟩
    rw [hg1]
    refine wk_to [] [(0, 0), (200, 200)] (by kernel_rfl) (by kernel_rfl) (by kernel_rfl) (by kernel_rfl) (by kernel_rfl) ?_ ?_ <;> repeat' (first | exact trivial | exact vr_val _ | exact vr_list _ | exact vr_vec _ _ _ _ rfl | exact vr_ptr _ _ _ rfl | refine And.intro ⟨_, rfl, .inl ⟨_, rfl, by decide, ?_⟩⟩ ?_ | apply And.intro | exact vrl_flat _ (by first | exact icells_in _ | exact rcells_in _ | exact scells_in _ | exact bcells_in _ | assumption))
    all_goals exact vrl_flat _ hcin
  · have q79 : decide ((R : Int) > 0) = true := decide_eq_true (by omega)
    have gs2 := ic_gd ((sumL s m n i k).set k T) k (by rw [List.length_set]; omega)
    rw [List.getElem?_set_self (by omega), Option.getD_some] at gs2
    have hcl2 : (icells ((sumL s m n i k).set k T)).length = n := by rw [icells_len, List.length_set]; exact hlen
    have hst2 := ic_t ((sumL s m n i k).set k T) k (avS s m n (i + 1) k) (by rw [List.length_set]; omega)
    rw [List.set_set, hset] at hst2
    have e94 : IntKind.i64.wrap (T + x2) = avS s m n (i + 1) k := by rw [hT, wrap_in (by omega) (by omega), ha1, hv1 hR0]; omega
    generalize avS s m n i k = S0 at *
    generalize avS s m n (i + 1) k = S1 at *
    generalize (sumL s m n i k).set k T = L' at *
    generalize sumL s m n i k = L at *
    generalize hg1 : sumL s m n i (k + 1) = L1 at *
    (have hg : (987654321 : Nat) - 987654321 = 0 := rfl; have hr := hg; repeat' (first | refine aw_seq ?_ | (refine aw_skip ?_; repeat' (first | with_reducible refine thenQ_n ?_ | with_reducible refine blockQ_n ?_ | with_reducible refine thenQ_e ?_ | with_reducible refine blockQ_t ?_ | with_reducible refine blockQ_f (by decide) ?_)) | (refine aw_exit ?_; repeat' (first | with_reducible refine thenQ_n ?_ | with_reducible refine blockQ_n ?_ | with_reducible refine thenQ_e ?_ | with_reducible refine blockQ_t ?_ | with_reducible refine blockQ_f (by decide) ?_)) | refine aw_ret ?_ | refine aw_block ?_ | refine aw_condT rfl ?_ | refine aw_condF rfl ?_ | ((first | refine aw_hide fun K hK => aw_region ?_ | refine ago_if (by omega) ?_ | skip); simp (config := {maxSteps := 10000000}) (disch := first | exact okYes (by kernel_rfl) | omega) only [List.length, Nat.zero_add, Nat.mul_one, Nat.reduceAdd, dI, ARun_none, AOpRun, aexec, FSt.ev, St.F, eget_c, Nat.reduceBEq, ↓eget_h, cond_false, isSh, Bool.false_eq_true, ↓reduceIte, Option.map, abin, kn, decide_true, AGo_ok, St.app, putO, eput_c, eput_n, hups, List.map, ARun_nil, dropE_c, inL_n, dropE_n, Nat.reduceMul, inL_c, beq_self_eq_true, cond_true, e50, fits, e51, n0, e53, e60, Int.natCast_nonneg, and_self, Int.toNat_natCast, run1, hget_c, ↓hget_h, Nat.add_zero, gs, hget_n, List.getElem?_cons_zero, e72, sg, opt1, gq, e75, e76, D.isBot, D.cells, hcl, k1n, List.all, D.leaf, Bool.and_true, splice, hst1, hput_c, hput_n, q79, gs2, e90, gq1, e93, e94, hcl2, hst2]) | (subst hK; repeat' (first | with_reducible refine thenQ_n ?_ | with_reducible refine blockQ_n ?_ | with_reducible refine thenQ_e ?_ | with_reducible refine blockQ_t ?_ | with_reducible refine blockQ_f (by decide) ?_))))
    refine ⟨k + 1, by omega, by omega, ?_⟩
    rw [hg1]
    refine wk_to [] [(0, 0), (200, 200)] (by kernel_rfl) (by kernel_rfl) (by kernel_rfl) (by kernel_rfl) (by kernel_rfl) ?_ ?_ <;> repeat' (first | exact trivial | exact vr_val _ | exact vr_list _ | exact vr_vec _ _ _ _ rfl | exact vr_ptr _ _ _ rfl | refine And.intro ⟨_, rfl, .inl ⟨_, rfl, by decide, ?_⟩⟩ ?_ | apply And.intro | exact vrl_flat _ (by first | exact icells_in _ | exact rcells_in _ | exact scells_in _ | exact bcells_in _ | assumption))
    all_goals exact vrl_flat _ hcin
set_option maxRecDepth 100000 in
set_option maxHeartbeats 4000000 in
theorem havg_ac (s m : List Int) (n : Int) (hs : s.length ≤ 1000000) (hm : m.length ≤ 1000000) : AC Try.prog 54 [.agg [.list (ints s), .list (ints m)], dI n] [] [] (.tup [.list (ints (avL s m n)), dI (avD s m n), dI (avE s m n)]) := by
  by_cases h : avE s m n = 0
  · obtain ⟨h0, h1, h2⟩ := avE_ok h
    have h3 := wI_t h2
    obtain ⟨k, rfl⟩ : ∃ k : Nat, n = k := ⟨n.toNat, by omega⟩
    have := havg_ok s m k h1 h0 (by omega) (by omega)
    have e1 : avL s m k = sumL s m k (m.length - 1) 0 := by unfold avL; rw [if_pos h, Int.toNat_natCast]
    have e2 : avD s m k = (k : Int) * ((m.length : Int) - 1) := if_pos h
    rw [e1, e2, h]
    exact this
  rw [avL_no h, avD_no h]
  refine khealth_Average.ac (n0 := 0) (by simp) ⟨in_vib _ _ _, .val _, trivial⟩ trivial rfl ?_
  unfold chealth_Average
  have c1 := hcheck_ac s m hs hm
  by_cases h0 : vibE s m = 0
  · have e : avE s m n = if wI n 1 24 = true then 0 else 1 := if_pos h0
    have c2 := hwithin_ac n 1 24
    cases hw : wI n 1 24 with
    | true => exact absurd (by rw [e, hw]; rfl) h
    | false =>
      rw [hw] at c2 e
      rw [h0] at c1
      rw [e, if_neg (by simp)]
      (have hg : (987654321 : Nat) - 987654321 = 0 := rfl; have hr := hg; repeat' (first | refine aw_seq ?_ | (refine aw_skip ?_; repeat' (first | with_reducible refine thenQ_n ?_ | with_reducible refine blockQ_n ?_ | with_reducible refine thenQ_e ?_ | with_reducible refine blockQ_t ?_ | with_reducible refine blockQ_f (by decide) ?_)) | (refine aw_exit ?_; repeat' (first | with_reducible refine thenQ_n ?_ | with_reducible refine blockQ_n ?_ | with_reducible refine thenQ_e ?_ | with_reducible refine blockQ_t ?_ | with_reducible refine blockQ_f (by decide) ?_)) | refine aw_ret ?_ | refine aw_block ?_ | refine aw_condT rfl ?_ | refine aw_condF rfl ?_ | ((first | refine aw_hide fun K hK => aw_region ?_ | refine acall0 (c1) ?_ | refine acall0 (c2) ?_ | refine ago_if (by omega) ?_ | skip); simp (config := {maxSteps := 10000000}) (disch := first | exact okYes (by kernel_rfl) | omega) only [List.length, Nat.zero_add, Nat.reduceAdd, Nat.reduceMul, envOf, dI, ARun_none, AOpRun, aexec, D.isBot, FSt.ev, St.F, ↓eget_h, Bool.false_eq_true, Option.isSome, hget_n, or_self, ↓reduceIte, D.cells, AGo_ok, St.app, putO, eput_c, Nat.reduceBEq, eput_n, cond_false, hups, hput_n, List.map, ARun_nil, dropE_c, inL_n, dropE_n, eget_c, hget_c, beq_self_eq_true, cond_true, Nat.reduceLeDiff, List.drop, List.take, inL_c, isSh, Option.map, abin, bne_self_eq_false, dB, Bool.not_false, thenQ]) | (subst hK; repeat' (first | with_reducible refine thenQ_n ?_ | with_reducible refine blockQ_n ?_ | with_reducible refine thenQ_e ?_ | with_reducible refine blockQ_t ?_ | with_reducible refine blockQ_f (by decide) ?_))))
      all_goals (refine end_to [] [] (by first | exact .inl rfl | exact .inr rfl) rfl (by kernel_rfl) (by kernel_rfl) (by kernel_rfl) ?_ ?_ <;> repeat' (first | exact trivial | exact vr_val _ | exact vr_nil | apply vr_tup | apply And.intro))
  · have e : avE s m n = vibE s m := if_neg h0
    rw [e]
    have q : (vibE s m != 0) = true := by simpa using h0
    generalize vibE s m = E at *
    (have hg : (987654321 : Nat) - 987654321 = 0 := rfl; have hr := hg; repeat' (first | refine aw_seq ?_ | (refine aw_skip ?_; repeat' (first | with_reducible refine thenQ_n ?_ | with_reducible refine blockQ_n ?_ | with_reducible refine thenQ_e ?_ | with_reducible refine blockQ_t ?_ | with_reducible refine blockQ_f (by decide) ?_)) | (refine aw_exit ?_; repeat' (first | with_reducible refine thenQ_n ?_ | with_reducible refine blockQ_n ?_ | with_reducible refine thenQ_e ?_ | with_reducible refine blockQ_t ?_ | with_reducible refine blockQ_f (by decide) ?_)) | refine aw_ret ?_ | refine aw_block ?_ | refine aw_condT rfl ?_ | refine aw_condF rfl ?_ | ((first | refine aw_hide fun K hK => aw_region ?_ | refine acall0 (c1) ?_ | refine ago_if (by omega) ?_ | skip); simp (config := {maxSteps := 10000000}) (disch := first | exact okYes (by kernel_rfl) | omega) only [List.length, Nat.zero_add, Nat.reduceAdd, Nat.reduceMul, envOf, dI, ARun_none, AOpRun, aexec, D.isBot, FSt.ev, St.F, ↓eget_h, Bool.false_eq_true, Option.isSome, hget_n, or_self, ↓reduceIte, D.cells, AGo_ok, St.app, putO, eput_c, Nat.reduceBEq, eput_n, cond_false, hups, hput_n, List.map, ARun_nil, dropE_c, inL_n, dropE_n, eget_c, hget_c, beq_self_eq_true, cond_true, Nat.reduceLeDiff, List.drop, List.take, inL_c, isSh, Option.map, abin, q, thenQ]) | (subst hK; repeat' (first | with_reducible refine thenQ_n ?_ | with_reducible refine blockQ_n ?_ | with_reducible refine thenQ_e ?_ | with_reducible refine blockQ_t ?_ | with_reducible refine blockQ_f (by decide) ?_))))
    all_goals (refine end_to [] [] (by first | exact .inl rfl | exact .inr rfl) rfl (by kernel_rfl) (by kernel_rfl) (by kernel_rfl) ?_ ?_ <;> repeat' (first | exact trivial | exact vr_val _ | exact vr_nil | apply vr_tup | apply And.intro))
end Go.Proofs.Ytdcodicoclecnaa
