/- Texts of the law TopSlung, part 6. No conditions. -/
import Derived.Test.YtgibbaadjbohdaaPTopSlung05
import Derived.Test.YtgibbaadjbohdaaRows
/- rotor: the limits of a table. No conditions. -/
set_option linter.unusedSimpArgs false
set_option linter.unusedVariables false
namespace Go.Proofs.Ytgibbaadjbohdaa
open Go.RowKit Lift

def isW : D → Bool
  | .val _ => true
  | .list _ => true
  | _ => false
theorem wals_in {S : Nat → Prop} {c : List D} (h : c.all isW = true) : ∀ d ∈ c, In S d := fun d hd => by
  have := List.all_eq_true.1 h d hd
  cases d <;> first | exact .val _ | exact .list _ | (simp [isW] at this)
/-- a table -/
structure Tb where
  x : List Int
  y : List Int
  v : List (List Int)
def TbSm (t : Tb) : Prop := t.x.length ≤ 15 ∧ t.y.length ≤ 15 ∧ t.v.length ≤ 15 ∧ ∀ r ∈ t.v, r.length ≤ 15
theorem TbSm.sz {t : Tb} (h : TbSm t) : TSz t.x t.y t.v := ⟨by have := h.1; omega, by have := h.2.1; omega, by have := h.2.2.1; omega, fun r hr => by have := h.2.2.2 r hr; omega⟩
theorem TbSm.row {t : Tb} (h : TbSm t) (k : Nat) : (t.v[k]?.getD []).length ≤ 15 := by
  by_cases hk : k < t.v.length
  · rw [List.getElem?_eq_getElem hk]; exact h.2.2.2 _ (List.getElem_mem hk)
  · rw [List.getElem?_eq_none (by omega)]; simp
def limB (t : Tb) (lo hi : Int) : Bool := decide (tabErr t.x t.y t.v = 0) && t.v.all fun r => allI r lo hi
def limC (t : Tb) (lo hi : Int) : List D := [.list (ints t.x), .list (ints t.y), .list (rows t.v), dI lo, dI hi]
theorem limC_in (S : Nat → Prop) (t : Tb) (lo hi : Int) : ∀ d ∈ limC t lo hi, In S d := by
  intro d hd; simp [limC] at hd; rcases hd with rfl | rfl | rfl | rfl | rfl <;> first | exact .list _ | exact .val _
set_option maxRecDepth 100000 in
set_option maxHeartbeats 1000000 in
theorem roWithin_ac (n a b : Int) : AC Try.prog 145 [dI n, dI a, dI b] [] [] (dB (wI n a b)) := by
  refine krotor_within.ac (n0 := 0) (by simp) ⟨.val _, .val _, .val _, trivial⟩ trivial rfl ?_
  unfold crotor_within wI
  cases q1 : decide (a ≤ n) <;> cases q2 : decide (n ≤ b)
  all_goals
    (have hg : (987654321 : Nat) - 987654321 = 0 := rfl; have hr := hg; repeat' (first | refine aw_seq ?_ | (refine aw_skip ?_; try simp only [thenQ, blockQ, if_true, if_false, Nat.reduceEqDiff, reduceCtorEq]) | (refine aw_exit ?_; try simp only [thenQ, blockQ, if_true, if_false, Nat.reduceEqDiff, reduceCtorEq]) | refine aw_ret ?_ | refine aw_block ?_ | refine aw_condT rfl ?_ | refine aw_condF rfl ?_ | ((first | refine aw_region ?_ | refine ago_if (by omega) ?_ | skip); simp (config := {maxSteps := 10000000}) (disch := first | exact okYes (by kernel_rfl) | omega) only [thenQ, List.map, dB, Bool.and_false, List.length, Nat.zero_add, Nat.reduceMul, envOf, dI, Nat.reduceAdd, ARun_none, AOpRun, aexec, FSt.ev, AGo_ok, St.app, putO, eput_c, Nat.reduceBEq, eput_n, cond_false, hups, ARun_nil, dropE_c, inL_n, dropE_n, St.F, ↓eget_h, eget_c, isSh, Bool.false_eq_true, ↓reduceIte, Option.map, abin, ge_iff_le, q1, ARun_some, AG_ft, beq_self_eq_true, cond_true, inL_c, Bool.and_true, AG_tt, q2])))
    all_goals (refine end_to [] [] (by first | exact .inl rfl | exact .inr rfl) rfl (by kernel_rfl) (by kernel_rfl) (by kernel_rfl) ?_ ?_ <;> repeat' (first | exact trivial | exact vr_val _))
set_option maxRecDepth 100000 in
theorem right1_ac (x : Int) (t : Tb) (lo hi : Int) : AC Try.prog 151 [dI x, .ptr 0 0] [(0, limC t lo hi)] [(0, some (limC t lo hi))] (dB (!wI x lo hi)) := by
  refine krotor_limits_right_S1.ac (n0 := 200) (by simp) ⟨.val _, .ptr _ _ (by omega), trivial⟩ ⟨⟨by omega, limC_in _ _ _ _⟩, trivial⟩ rfl ?_
  unfold crotor_limits_right_S1 limC
  (have hg : (987654321 : Nat) - 987654321 = 0 := rfl; have hr := hg; repeat' (first | refine aw_seq ?_ | (refine aw_skip ?_; with_reducible repeat' (first | refine thenQ_n ?_ | refine blockQ_n ?_ | refine thenQ_e ?_ | refine blockQ_t ?_ | refine blockQ_f (by decide) ?_)) | (refine aw_exit ?_; with_reducible repeat' (first | refine thenQ_n ?_ | refine blockQ_n ?_ | refine thenQ_e ?_ | refine blockQ_t ?_ | refine blockQ_f (by decide) ?_)) | refine aw_ret ?_ | refine aw_block ?_ | refine aw_condT rfl ?_ | refine aw_condF rfl ?_ | ((first | refine aw_hide fun K hK => aw_region ?_ | refine acall0 (roWithin_ac _ _ _) ?_ | refine ago_if (by omega) ?_ | skip); simp (config := {maxSteps := 10000000}) (disch := first | exact okYes (by kernel_rfl) | omega) only [List.length, Nat.zero_add, Nat.reduceMul, Nat.reduceAdd, envOf, dI, ARun_none, AOpRun, aexec, FSt.ev, AGo_ok, St.app, putO, eput_c, Nat.reduceBEq, eput_n, cond_false, hups, List.map, ARun_nil, dropE_c, inL_n, dropE_n, St.F, ↓eget_h, eget_c, Option.map, run1, hget_c, beq_self_eq_true, hget_n, cond_true, List.getElem?_cons_succ, List.getElem?_cons_zero, dB, inL_c]) | (subst hK; with_reducible repeat' (first | refine thenQ_n ?_ | refine blockQ_n ?_ | refine thenQ_e ?_ | refine blockQ_t ?_ | refine blockQ_f (by decide) ?_))))
  all_goals (refine end_to [] [(0, 0)] (by first | exact .inl rfl | exact .inr rfl) rfl (by kernel_rfl) (by kernel_rfl) (by kernel_rfl) ?_ ?_ <;> repeat' (first | exact trivial | exact vr_val _ | exact vr_list _ | refine And.intro ⟨_, rfl, _, rfl, by decide, ?_⟩ ?_ | apply And.intro))
def fnD : D := .fn 151 [] [.ptr 0 0]
set_option maxRecDepth 100000 in
set_option maxHeartbeats 4000000 in
theorem roIdx_ac (l : List Int) (t : Tb) (lo hi : Int) (hl : l.length ≤ 1000000) : AC Try.prog 129 [.list (ints l), fnD] [(0, limC t lo hi), (8, [fnD])] [(0, some (limC t lo hi)), (8, some [fnD])] (dI (match l.findIdx? (fun x => !wI x lo hi) with
    | some k => (k : Int)
    | none => -1)) := by
  refine kslices_IndexFunc_L_L_Jint_Kint_J.ac (n0 := 200) (by simp) ⟨.list _, .fn _ _ _ (by simp) (by intro d hd; simp at hd; subst hd; exact .ptr _ _ (by omega)), trivial⟩ ⟨⟨by omega, limC_in _ _ _ _⟩, ⟨by omega, by intro d hd; simp at hd; subst hd; exact .fn _ _ _ (by simp) (by intro d hd; simp at hd; subst hd; exact .ptr _ _ (by omega))⟩, trivial⟩ rfl ?_
  have r1 := fun x => right1_ac x t lo hi
  unfold cslices_IndexFunc_L_L_Jint_Kint_J
  unfold limC fnD at *
  (have hg : (987654321 : Nat) - 987654321 = 0 := rfl; have hr := hg; repeat' (first | refine aw_seq ?_ | (refine aw_skip ?_; with_reducible repeat' (first | refine thenQ_n ?_ | refine blockQ_n ?_ | refine thenQ_e ?_ | refine blockQ_t ?_ | refine blockQ_f (by decide) ?_)) | (refine aw_exit ?_; with_reducible repeat' (first | refine thenQ_n ?_ | refine blockQ_n ?_ | refine thenQ_e ?_ | refine blockQ_t ?_ | refine blockQ_f (by decide) ?_)) | refine aw_ret ?_ | refine aw_block ?_ | refine aw_condT rfl ?_ | refine aw_condF rfl ?_ | ((first | refine aw_hide fun K hK => aw_region ?_ | refine ago_if (by omega) ?_ | skip); simp (config := {maxSteps := 10000000}) (disch := first | exact okYes (by kernel_rfl) | omega) only [List.length, Nat.zero_add, Nat.reduceMul, Nat.reduceAdd, envOf, dI, ARun_none, AOpRun, aexec, FSt.ev, AGo_ok, St.app, putO, eput_c, Nat.reduceBEq, eput_n, cond_false, hups, List.map, ARun_nil, dropE_c, inL_n, dropE_n, St.F, ↓eget_h, eget_c, ints_len, inL_c, beq_self_eq_true, cond_true, Int.reduceNeg]) | (subst hK; with_reducible repeat' (first | refine thenQ_n ?_ | refine blockQ_n ?_ | refine thenQ_e ?_ | refine blockQ_t ?_ | refine blockQ_f (by decide) ?_))))
  refine aw_loop (fun k : Nat => ⟨[(0, .list (ints l)), (1, .fn 151 [] [.ptr 0 0]), (7, dI l.length), (8, dI k)], [(0, [.list (ints t.x), .list (ints t.y), .list (rows t.v), dI lo, dI hi]), (8, [.fn 151 [] [.ptr 0 0]])], 400⟩) (fun k => k ≤ l.length ∧ ∀ j, j < k → wI (l[j]?.getD 0) lo hi = true) (fun k => l.length - k) ⟨0, ⟨by omega, fun j hj => by omega⟩, ?_⟩ ?_
  · unfold dI
    refine wk_to [] [(0, 0), (8, 8)] (by kernel_rfl) (by kernel_rfl) (by kernel_rfl) (by kernel_rfl) (by kernel_rfl) ?_ ?_ <;> repeat' (first | exact trivial | exact vr_val _ | exact vr_list _ | exact vr_ptr _ _ _ rfl | apply vr_fn | refine And.intro ⟨_, rfl, .inl ⟨_, rfl, by decide, ?_⟩⟩ ?_ | apply And.intro)
  rintro k ⟨hk, hin⟩
  by_cases hk2 : k < l.length
  · have g1 := ints_gd l k hk2
    cases he : wI (l[k]?.getD 0) lo hi with
    | false =>
      have q : l.findIdx? (fun x => !wI x lo hi) = some k := by
        rw [List.findIdx?_eq_some_iff_getElem]
        refine ⟨hk2, by have := he; simp [hk2] at this; simp [this], fun j hj => ?_⟩
        have := hin j hj
        simpa [show j < l.length by omega] using this
      rw [q]
      (have hg : (987654321 : Nat) - 987654321 = 0 := rfl; have hr := hg; repeat' (first | refine aw_seq ?_ | (refine aw_skip ?_; with_reducible repeat' (first | refine thenQ_n ?_ | refine blockQ_n ?_ | refine thenQ_e ?_ | refine blockQ_t ?_ | refine blockQ_f (by decide) ?_)) | (refine aw_exit ?_; with_reducible repeat' (first | refine thenQ_n ?_ | refine blockQ_n ?_ | refine thenQ_e ?_ | refine blockQ_t ?_ | refine blockQ_f (by decide) ?_)) | refine aw_ret ?_ | refine aw_block ?_ | refine aw_condT rfl ?_ | refine aw_condF rfl ?_ | (refine aw_cond rfl (fun hg => ?_) (fun hg => ?_) <;> (try (have hq := hg; simp only [Bool.not_eq_true', Bool.not_eq_false', Bool.and_eq_true, Bool.and_eq_false_iff, Bool.or_eq_true, Bool.or_eq_false_iff, decide_eq_true_eq, decide_eq_false_iff_not, bne_iff_ne, beq_iff_eq, beq_eq_false_iff_ne, bne_eq_false_iff_eq, ne_eq, Int.not_lt, Int.not_le, Decidable.not_not] at hq)) <;> (try (have hr := hg; simp only [decide_eq_true_eq, decide_eq_false_iff_not] at hr)) <;> (try (exfalso; omega))) | ((first | refine aw_hide fun K hK => aw_region ?_ | refine acallB (r1 _) (by repeat' (first | exact trivial | exact rfl | refine And.intro ?_ ?_)) (by kernel_rfl) (by kernel_rfl) (by kernel_rfl) ?_ | refine ago_if (by omega) ?_ | skip); simp (config := {maxSteps := 10000000}) (disch := first | exact okYes (by kernel_rfl) | omega) only [List.length, Nat.zero_add, Nat.reduceMul, Nat.reduceAdd, dI, ARun_none, AOpRun, aexec, FSt.ev, St.F, eget_c, Nat.reduceBEq, ↓eget_h, cond_false, isSh, Bool.false_eq_true, ↓reduceIte, Option.map, abin, AGo_ok, St.app, putO, eput_c, eput_n, hups, List.map, ARun_nil, dropE_c, inL_n, dropE_n, hr, decide_true, inL_c, beq_self_eq_true, cond_true, Int.natCast_nonneg, ints_all, and_self, opt1, Int.toNat_natCast, g1, run1, List.getElem?_cons_zero, dB, he, Bool.not_false, hput_c, hput_n, List.append_nil, blockQ, thenQ]) | (subst hK; with_reducible repeat' (first | refine thenQ_n ?_ | refine blockQ_n ?_ | refine thenQ_e ?_ | refine blockQ_t ?_ | refine blockQ_f (by decide) ?_))))
      all_goals (refine end_to [] [(0, 0), (8, 8)] (by first | exact .inl rfl | exact .inr rfl) rfl (by kernel_rfl) (by kernel_rfl) (by kernel_rfl) ?_ ?_ <;> repeat' (first | exact trivial | exact vr_val _ | exact vr_list _ | exact vr_ptr _ _ _ rfl | apply vr_fn | refine And.intro ⟨_, rfl, _, rfl, by decide, ?_⟩ ?_ | apply And.intro))
    | true =>
      (have hg : (987654321 : Nat) - 987654321 = 0 := rfl; have hr := hg; repeat' (first | refine aw_seq ?_ | (refine aw_skip ?_; with_reducible repeat' (first | refine thenQ_n ?_ | refine blockQ_n ?_ | refine thenQ_e ?_ | refine blockQ_t ?_ | refine blockQ_f (by decide) ?_)) | (refine aw_exit ?_; with_reducible repeat' (first | refine thenQ_n ?_ | refine blockQ_n ?_ | refine thenQ_e ?_ | refine blockQ_t ?_ | refine blockQ_f (by decide) ?_)) | refine aw_ret ?_ | refine aw_block ?_ | refine aw_condT rfl ?_ | refine aw_condF rfl ?_ | (refine aw_cond rfl (fun hg => ?_) (fun hg => ?_) <;> (try (have hq := hg; simp only [Bool.not_eq_true', Bool.not_eq_false', Bool.and_eq_true, Bool.and_eq_false_iff, Bool.or_eq_true, Bool.or_eq_false_iff, decide_eq_true_eq, decide_eq_false_iff_not, bne_iff_ne, beq_iff_eq, beq_eq_false_iff_ne, bne_eq_false_iff_eq, ne_eq, Int.not_lt, Int.not_le, Decidable.not_not] at hq)) <;> (try (have hr := hg; simp only [decide_eq_true_eq, decide_eq_false_iff_not] at hr)) <;> (try (exfalso; omega))) | ((first | refine aw_hide fun K hK => aw_region ?_ | refine acallB (r1 _) (by repeat' (first | exact trivial | exact rfl | refine And.intro ?_ ?_)) (by kernel_rfl) (by kernel_rfl) (by kernel_rfl) ?_ | refine ago_if (by omega) ?_ | skip); simp (config := {maxSteps := 10000000}) (disch := first | exact okYes (by kernel_rfl) | omega) only [List.length, Nat.zero_add, Nat.reduceMul, Nat.reduceAdd, dI, ARun_none, AOpRun, aexec, FSt.ev, St.F, eget_c, Nat.reduceBEq, ↓eget_h, cond_false, isSh, Bool.false_eq_true, ↓reduceIte, Option.map, abin, AGo_ok, St.app, putO, eput_c, eput_n, hups, List.map, ARun_nil, dropE_c, inL_n, dropE_n, hr, decide_true, inL_c, beq_self_eq_true, cond_true, Int.natCast_nonneg, ints_all, and_self, opt1, Int.toNat_natCast, g1, run1, List.getElem?_cons_zero, dB, he, Bool.not_true, hput_c, hput_n, List.append_nil, fits]) | (subst hK; with_reducible repeat' (first | refine thenQ_n ?_ | refine blockQ_n ?_ | refine thenQ_e ?_ | refine blockQ_t ?_ | refine blockQ_f (by decide) ?_))))
      refine ⟨k + 1, ⟨by omega, fun j hj => ?_⟩, by omega, ?_⟩
      · rcases (by omega : j < k ∨ j = k) with h | rfl
        · exact hin j h
        · exact he
      · refine wk_to [] [(0, 0), (8, 8)] (by kernel_rfl) (by kernel_rfl) (by kernel_rfl) (by kernel_rfl) (by kernel_rfl) ?_ ?_ <;> repeat' (first | exact trivial | exact vr_val _ | exact vr_list _ | exact vr_ptr _ _ _ rfl | apply vr_fn | refine And.intro ⟨_, rfl, .inl ⟨_, rfl, by decide, ?_⟩⟩ ?_ | apply And.intro)
  · obtain rfl : k = l.length := by omega
    have q : l.findIdx? (fun x => !wI x lo hi) = none := by
      rw [List.findIdx?_eq_none_iff]
      intro y hy
      obtain ⟨j, hj, rfl⟩ := List.getElem_of_mem hy
      have := hin j hj
      simp [hj] at this
      simp [this]
    rw [q]
    (have hg : (987654321 : Nat) - 987654321 = 0 := rfl; have hr := hg; repeat' (first | refine aw_seq ?_ | (refine aw_skip ?_; with_reducible repeat' (first | refine thenQ_n ?_ | refine blockQ_n ?_ | refine thenQ_e ?_ | refine blockQ_t ?_ | refine blockQ_f (by decide) ?_)) | (refine aw_exit ?_; with_reducible repeat' (first | refine thenQ_n ?_ | refine blockQ_n ?_ | refine thenQ_e ?_ | refine blockQ_t ?_ | refine blockQ_f (by decide) ?_)) | refine aw_ret ?_ | refine aw_block ?_ | refine aw_condT rfl ?_ | refine aw_condF rfl ?_ | (refine aw_cond rfl (fun hg => ?_) (fun hg => ?_) <;> (try (have hq := hg; simp only [Bool.not_eq_true', Bool.not_eq_false', Bool.and_eq_true, Bool.and_eq_false_iff, Bool.or_eq_true, Bool.or_eq_false_iff, decide_eq_true_eq, decide_eq_false_iff_not, bne_iff_ne, beq_iff_eq, beq_eq_false_iff_ne, bne_eq_false_iff_eq, ne_eq, Int.not_lt, Int.not_le, Decidable.not_not] at hq)) <;> (try (have hr := hg; simp only [decide_eq_true_eq, decide_eq_false_iff_not] at hr)) <;> (try (exfalso; omega))) | ((first | refine aw_hide fun K hK => aw_region ?_ | refine ago_if (by omega) ?_ | skip); simp (config := {maxSteps := 10000000}) (disch := first | exact okYes (by kernel_rfl) | omega) only [List.length, Nat.zero_add, Nat.reduceMul, Nat.reduceAdd, dI, ARun_none, AOpRun, aexec, FSt.ev, St.F, eget_c, Nat.reduceBEq, ↓eget_h, cond_false, isSh, Bool.false_eq_true, ↓reduceIte, Option.map, abin, AGo_ok, St.app, putO, eput_c, eput_n, hups, List.map, ARun_nil, dropE_c, inL_n, dropE_n, Int.reduceNeg, hr, decide_false]) | (subst hK; with_reducible repeat' (first | refine thenQ_n ?_ | refine blockQ_n ?_ | refine thenQ_e ?_ | refine blockQ_t ?_ | refine blockQ_f (by decide) ?_))))
    all_goals (refine end_to [] [(0, 0), (8, 8)] (by first | exact .inl rfl | exact .inr rfl) rfl (by kernel_rfl) (by kernel_rfl) (by kernel_rfl) ?_ ?_ <;> repeat' (first | exact trivial | exact vr_val _ | exact vr_list _ | exact vr_ptr _ _ _ rfl | apply vr_fn | refine And.intro ⟨_, rfl, _, rfl, by decide, ?_⟩ ?_ | apply And.intro))
theorem fnD_in (S : Nat → Prop) (h : S 0) : In S fnD := .fn _ _ _ (by simp) (by intro d hd; simp at hd; subst hd; exact .ptr _ _ h)
set_option maxRecDepth 100000 in
set_option maxHeartbeats 2000000 in
theorem roCont_ac (l : List Int) (t : Tb) (lo hi : Int) (hl : l.length ≤ 1000000) : AC Try.prog 94 [.list (ints l), fnD] [(0, limC t lo hi), (8, [fnD])] [(0, some (limC t lo hi)), (8, some [fnD])] (dB (!allI l lo hi)) := by
  refine kslices_ContainsFunc_L_L_Jint_Kint_J.ac (n0 := 200) (by simp) ⟨.list _, fnD_in _ (by omega), trivial⟩ ⟨⟨by omega, limC_in _ _ _ _⟩, ⟨by omega, by intro d hd; simp at hd; subst hd; exact fnD_in _ (by omega)⟩, trivial⟩ rfl ?_
  unfold cslices_ContainsFunc_L_L_Jint_Kint_J
  have hf := roIdx_ac l t lo hi hl
  unfold limC fnD at *
  cases h : l.findIdx? (fun x => !wI x lo hi) with
  | none =>
    have ha : allI l lo hi = true := by
      rw [List.findIdx?_eq_none_iff] at h
      refine List.all_eq_true.2 fun x hx => ?_
      have := h x hx
      simpa using this
    rw [h] at hf
    rw [ha]
    (have hg : (987654321 : Nat) - 987654321 = 0 := rfl; have hr := hg; repeat' (first | refine aw_seq ?_ | (refine aw_skip ?_; with_reducible repeat' (first | refine thenQ_n ?_ | refine blockQ_n ?_ | refine thenQ_e ?_ | refine blockQ_t ?_ | refine blockQ_f (by decide) ?_)) | (refine aw_exit ?_; with_reducible repeat' (first | refine thenQ_n ?_ | refine blockQ_n ?_ | refine thenQ_e ?_ | refine blockQ_t ?_ | refine blockQ_f (by decide) ?_)) | refine aw_ret ?_ | refine aw_block ?_ | refine aw_condT rfl ?_ | refine aw_condF rfl ?_ | ((first | refine aw_hide fun K hK => aw_region ?_ | refine acallB (hf) (by repeat' (first | exact trivial | exact rfl | refine And.intro ?_ ?_)) (by kernel_rfl) (by kernel_rfl) (by kernel_rfl) ?_ | refine ago_if (by omega) ?_ | skip); simp (config := {maxSteps := 10000000}) (disch := first | exact okYes (by kernel_rfl) | omega) only [List.length, Nat.zero_add, Nat.reduceMul, Nat.reduceAdd, envOf, dI, ARun_none, AOpRun, aexec, FSt.ev, AGo_ok, St.app, putO, eput_c, Nat.reduceBEq, eput_n, cond_false, hups, List.map, ARun_nil, dropE_c, inL_n, dropE_n, St.F, ↓eget_h, eget_c, Int.reduceNeg, hput_c, beq_self_eq_true, hput_n, cond_true, List.append_nil, isSh, Bool.false_eq_true, ↓reduceIte, Option.map, abin, inL_c, dB, Bool.not_true]) | (subst hK; with_reducible repeat' (first | refine thenQ_n ?_ | refine blockQ_n ?_ | refine thenQ_e ?_ | refine blockQ_t ?_ | refine blockQ_f (by decide) ?_))))
    all_goals (refine end_to [] [(0, 0), (8, 8)] (by first | exact .inl rfl | exact .inr rfl) rfl (by kernel_rfl) (by kernel_rfl) (by kernel_rfl) ?_ ?_ <;> repeat' (first | exact trivial | exact vr_val _ | exact vr_list _ | exact vr_ptr _ _ _ rfl | apply vr_fn | refine And.intro ⟨_, rfl, _, rfl, by decide, ?_⟩ ?_ | apply And.intro))
  | some k =>
    have ha : allI l lo hi = false := by
      rw [List.findIdx?_eq_some_iff_getElem] at h
      obtain ⟨hk, he, _⟩ := h
      refine List.all_eq_false.2 ⟨l[k], List.getElem_mem hk, by simpa using he⟩
    rw [h] at hf
    rw [ha]
    have q : decide ((k : Int) ≥ 0) = true := decide_eq_true (by omega)
    (have hg : (987654321 : Nat) - 987654321 = 0 := rfl; have hr := hg; repeat' (first | refine aw_seq ?_ | (refine aw_skip ?_; with_reducible repeat' (first | refine thenQ_n ?_ | refine blockQ_n ?_ | refine thenQ_e ?_ | refine blockQ_t ?_ | refine blockQ_f (by decide) ?_)) | (refine aw_exit ?_; with_reducible repeat' (first | refine thenQ_n ?_ | refine blockQ_n ?_ | refine thenQ_e ?_ | refine blockQ_t ?_ | refine blockQ_f (by decide) ?_)) | refine aw_ret ?_ | refine aw_block ?_ | refine aw_condT rfl ?_ | refine aw_condF rfl ?_ | ((first | refine aw_hide fun K hK => aw_region ?_ | refine acallB (hf) (by repeat' (first | exact trivial | exact rfl | refine And.intro ?_ ?_)) (by kernel_rfl) (by kernel_rfl) (by kernel_rfl) ?_ | refine ago_if (by omega) ?_ | skip); simp (config := {maxSteps := 10000000}) (disch := first | exact okYes (by kernel_rfl) | omega) only [List.length, Nat.zero_add, Nat.reduceMul, Nat.reduceAdd, envOf, dI, ARun_none, AOpRun, aexec, FSt.ev, AGo_ok, St.app, putO, eput_c, Nat.reduceBEq, eput_n, cond_false, hups, List.map, ARun_nil, dropE_c, inL_n, dropE_n, St.F, ↓eget_h, eget_c, hput_c, beq_self_eq_true, hput_n, cond_true, List.append_nil, isSh, Bool.false_eq_true, ↓reduceIte, Option.map, abin, Int.natCast_nonneg, decide_true, inL_c, dB, Bool.not_false]) | (subst hK; with_reducible repeat' (first | refine thenQ_n ?_ | refine blockQ_n ?_ | refine thenQ_e ?_ | refine blockQ_t ?_ | refine blockQ_f (by decide) ?_))))
    all_goals (refine end_to [] [(0, 0), (8, 8)] (by first | exact .inl rfl | exact .inr rfl) rfl (by kernel_rfl) (by kernel_rfl) (by kernel_rfl) ?_ ?_ <;> repeat' (first | exact trivial | exact vr_val _ | exact vr_list _ | exact vr_ptr _ _ _ rfl | apply vr_fn | refine And.intro ⟨_, rfl, _, rfl, by decide, ?_⟩ ?_ | apply And.intro))
set_option maxRecDepth 100000 in
set_option maxHeartbeats 2000000 in
theorem right2_ac (l : List Int) (t : Tb) (lo hi : Int) (hl : l.length ≤ 1000000) : AC Try.prog 152 [.list (ints l), .ptr 8 0] [(0, limC t lo hi), (8, [fnD])] [(0, some (limC t lo hi)), (8, some [fnD])] (dB (!allI l lo hi)) := by
  refine krotor_limits_right_S2.ac (n0 := 200) (by simp) ⟨.list _, .ptr _ _ (by omega), trivial⟩ ⟨⟨by omega, limC_in _ _ _ _⟩, ⟨by omega, by intro d hd; simp at hd; subst hd; exact fnD_in _ (by omega)⟩, trivial⟩ rfl ?_
  unfold crotor_limits_right_S2
  have hf := roCont_ac l t lo hi hl
  unfold limC fnD at *
  (have hg : (987654321 : Nat) - 987654321 = 0 := rfl; have hr := hg; repeat' (first | refine aw_seq ?_ | (refine aw_skip ?_; with_reducible repeat' (first | refine thenQ_n ?_ | refine blockQ_n ?_ | refine thenQ_e ?_ | refine blockQ_t ?_ | refine blockQ_f (by decide) ?_)) | (refine aw_exit ?_; with_reducible repeat' (first | refine thenQ_n ?_ | refine blockQ_n ?_ | refine thenQ_e ?_ | refine blockQ_t ?_ | refine blockQ_f (by decide) ?_)) | refine aw_ret ?_ | refine aw_block ?_ | refine aw_condT rfl ?_ | refine aw_condF rfl ?_ | ((first | refine aw_hide fun K hK => aw_region ?_ | refine acallB (hf) (by repeat' (first | exact trivial | exact rfl | refine And.intro ?_ ?_)) (by kernel_rfl) (by kernel_rfl) (by kernel_rfl) ?_ | refine ago_if (by omega) ?_ | skip); simp (config := {maxSteps := 10000000}) (disch := first | exact okYes (by kernel_rfl) | omega) only [List.length, Nat.zero_add, Nat.reduceMul, Nat.reduceAdd, envOf, dI, ARun_none, AOpRun, aexec, FSt.ev, AGo_ok, St.app, putO, eput_c, Nat.reduceBEq, eput_n, cond_false, hups, List.map, ARun_nil, dropE_c, inL_n, dropE_n, St.F, ↓eget_h, Option.map, run1, eget_c, hget_c, ↓hget_h, List.getElem?_cons_zero, dB, hput_c, beq_self_eq_true, hput_n, cond_true, List.append_nil, inL_c]) | (subst hK; with_reducible repeat' (first | refine thenQ_n ?_ | refine blockQ_n ?_ | refine thenQ_e ?_ | refine blockQ_t ?_ | refine blockQ_f (by decide) ?_))))
  all_goals (refine end_to [] [(0, 0), (8, 8)] (by first | exact .inl rfl | exact .inr rfl) rfl (by kernel_rfl) (by kernel_rfl) (by kernel_rfl) ?_ ?_ <;> repeat' (first | exact trivial | exact vr_val _ | exact vr_list _ | exact vr_ptr _ _ _ rfl | apply vr_fn | refine And.intro ⟨_, rfl, _, rfl, by decide, ?_⟩ ?_ | apply And.intro))
set_option maxRecDepth 100000 in
set_option maxHeartbeats 4000000 in
theorem roIdx2_ac (vs : List (List Int)) (t : Tb) (lo hi : Int) (hl : vs.length ≤ 1000000) (hr : ∀ k : Nat, (vs[k]?.getD []).length ≤ 1000000) : AC Try.prog 149 [.list (rows vs), .fn 152 [] [.ptr 8 0]] [(0, limC t lo hi), (8, [fnD])] [(0, some (limC t lo hi)), (8, some [fnD])] (dI (match vs.findIdx? (fun r => !allI r lo hi) with
    | some k => (k : Int)
    | none => -1)) := by
  refine kslices_IndexFunc_L_L_J_L_Jint_K_L_Jint_J.ac (n0 := 200) (by simp) ⟨.list _, .fn _ _ _ (by simp) (by intro d hd; simp at hd; subst hd; exact .ptr _ _ (by omega)), trivial⟩ ⟨⟨by omega, limC_in _ _ _ _⟩, ⟨by omega, by intro d hd; simp at hd; subst hd; exact fnD_in _ (by omega)⟩, trivial⟩ rfl ?_
  have r1 := fun k => right2_ac (vs[k]?.getD []) t lo hi (hr k)
  unfold cslices_IndexFunc_L_L_J_L_Jint_K_L_Jint_J
  unfold limC fnD at *
  (have hg : (987654321 : Nat) - 987654321 = 0 := rfl; have hr := hg; repeat' (first | refine aw_seq ?_ | (refine aw_skip ?_; with_reducible repeat' (first | refine thenQ_n ?_ | refine blockQ_n ?_ | refine thenQ_e ?_ | refine blockQ_t ?_ | refine blockQ_f (by decide) ?_)) | (refine aw_exit ?_; with_reducible repeat' (first | refine thenQ_n ?_ | refine blockQ_n ?_ | refine thenQ_e ?_ | refine blockQ_t ?_ | refine blockQ_f (by decide) ?_)) | refine aw_ret ?_ | refine aw_block ?_ | refine aw_condT rfl ?_ | refine aw_condF rfl ?_ | ((first | refine aw_hide fun K hK => aw_region ?_ | refine ago_if (by omega) ?_ | skip); simp (config := {maxSteps := 10000000}) (disch := first | exact okYes (by kernel_rfl) | omega) only [List.length, Nat.zero_add, Nat.reduceMul, Nat.reduceAdd, envOf, dI, ARun_none, AOpRun, aexec, FSt.ev, AGo_ok, St.app, putO, eput_c, Nat.reduceBEq, eput_n, cond_false, hups, List.map, ARun_nil, dropE_c, inL_n, dropE_n, St.F, ↓eget_h, eget_c, rows_len, inL_c, beq_self_eq_true, cond_true, Int.reduceNeg]) | (subst hK; with_reducible repeat' (first | refine thenQ_n ?_ | refine blockQ_n ?_ | refine thenQ_e ?_ | refine blockQ_t ?_ | refine blockQ_f (by decide) ?_))))
  refine aw_loop (fun k : Nat => ⟨[(0, .list (rows vs)), (1, .fn 152 [] [.ptr 8 0]), (7, dI vs.length), (8, dI k)], [(0, [.list (ints t.x), .list (ints t.y), .list (rows t.v), dI lo, dI hi]), (8, [.fn 151 [] [.ptr 0 0]])], 400⟩) (fun k => k ≤ vs.length ∧ ∀ j, j < k → allI (vs[j]?.getD []) lo hi = true) (fun k => vs.length - k) ⟨0, ⟨by omega, fun j hj => by omega⟩, ?_⟩ ?_
  · unfold dI
    refine wk_to [] [(0, 0), (8, 8)] (by kernel_rfl) (by kernel_rfl) (by kernel_rfl) (by kernel_rfl) (by kernel_rfl) ?_ ?_ <;> repeat' (first | exact trivial | exact vr_val _ | exact vr_list _ | exact vr_ptr _ _ _ rfl | apply vr_fn | refine And.intro ⟨_, rfl, .inl ⟨_, rfl, by decide, ?_⟩⟩ ?_ | apply And.intro)
  rintro k ⟨hk, hin⟩
  by_cases hk2 : k < vs.length
  · have g1 := rows_gd vs k hk2
    have rk := r1 k
    cases he : allI (vs[k]?.getD []) lo hi with
    | false =>
      rw [he] at rk
      have q : vs.findIdx? (fun r => !allI r lo hi) = some k := by
        rw [List.findIdx?_eq_some_iff_getElem]
        refine ⟨hk2, by have := he; simp [hk2] at this; simp [this], fun j hj => ?_⟩
        have := hin j hj
        simpa [show j < vs.length by omega] using this
      rw [q]
      generalize vs[k]?.getD [] = row at *
      (have hg : (987654321 : Nat) - 987654321 = 0 := rfl; have hr := hg; repeat' (first | refine aw_seq ?_ | (refine aw_skip ?_; with_reducible repeat' (first | refine thenQ_n ?_ | refine blockQ_n ?_ | refine thenQ_e ?_ | refine blockQ_t ?_ | refine blockQ_f (by decide) ?_)) | (refine aw_exit ?_; with_reducible repeat' (first | refine thenQ_n ?_ | refine blockQ_n ?_ | refine thenQ_e ?_ | refine blockQ_t ?_ | refine blockQ_f (by decide) ?_)) | refine aw_ret ?_ | refine aw_block ?_ | refine aw_condT rfl ?_ | refine aw_condF rfl ?_ | (refine aw_cond rfl (fun hg => ?_) (fun hg => ?_) <;> (try (have hq := hg; simp only [Bool.not_eq_true', Bool.not_eq_false', Bool.and_eq_true, Bool.and_eq_false_iff, Bool.or_eq_true, Bool.or_eq_false_iff, decide_eq_true_eq, decide_eq_false_iff_not, bne_iff_ne, beq_iff_eq, beq_eq_false_iff_ne, bne_eq_false_iff_eq, ne_eq, Int.not_lt, Int.not_le, Decidable.not_not] at hq)) <;> (try (have hr := hg; simp only [decide_eq_true_eq, decide_eq_false_iff_not] at hr)) <;> (try (exfalso; omega))) | ((first | refine aw_hide fun K hK => aw_region ?_ | refine acallB (rk) (by repeat' (first | exact trivial | exact rfl | refine And.intro ?_ ?_)) (by kernel_rfl) (by kernel_rfl) (by kernel_rfl) ?_ | refine ago_if (by omega) ?_ | skip); simp (config := {maxSteps := 10000000}) (disch := first | exact okYes (by kernel_rfl) | omega) only [List.length, Nat.zero_add, Nat.reduceMul, Nat.reduceAdd, dI, ARun_none, AOpRun, aexec, FSt.ev, St.F, eget_c, Nat.reduceBEq, ↓eget_h, cond_false, isSh, Bool.false_eq_true, ↓reduceIte, Option.map, abin, AGo_ok, St.app, putO, eput_c, eput_n, hups, List.map, ARun_nil, dropE_c, inL_n, dropE_n, hr, decide_true, inL_c, beq_self_eq_true, cond_true, Int.natCast_nonneg, rows_all, and_self, opt1, Int.toNat_natCast, g1, run1, List.getElem?_cons_zero, dB, Bool.not_false, hput_c, hput_n, List.append_nil, blockQ, thenQ]) | (subst hK; with_reducible repeat' (first | refine thenQ_n ?_ | refine blockQ_n ?_ | refine thenQ_e ?_ | refine blockQ_t ?_ | refine blockQ_f (by decide) ?_))))
      all_goals (refine end_to [] [(0, 0), (8, 8)] (by first | exact .inl rfl | exact .inr rfl) rfl (by kernel_rfl) (by kernel_rfl) (by kernel_rfl) ?_ ?_ <;> repeat' (first | exact trivial | exact vr_val _ | exact vr_list _ | exact vr_ptr _ _ _ rfl | apply vr_fn | refine And.intro ⟨_, rfl, _, rfl, by decide, ?_⟩ ?_ | apply And.intro))
    | true =>
      rw [he] at rk
      have hstep : ∀ j, j < k + 1 → allI (vs[j]?.getD []) lo hi = true := fun j hj => by
        rcases (by omega : j < k ∨ j = k) with h | rfl
        · exact hin j h
        · exact he
      generalize vs[k]?.getD [] = row at *
      (have hg : (987654321 : Nat) - 987654321 = 0 := rfl; have hr := hg; repeat' (first | refine aw_seq ?_ | (refine aw_skip ?_; with_reducible repeat' (first | refine thenQ_n ?_ | refine blockQ_n ?_ | refine thenQ_e ?_ | refine blockQ_t ?_ | refine blockQ_f (by decide) ?_)) | (refine aw_exit ?_; with_reducible repeat' (first | refine thenQ_n ?_ | refine blockQ_n ?_ | refine thenQ_e ?_ | refine blockQ_t ?_ | refine blockQ_f (by decide) ?_)) | refine aw_ret ?_ | refine aw_block ?_ | refine aw_condT rfl ?_ | refine aw_condF rfl ?_ | (refine aw_cond rfl (fun hg => ?_) (fun hg => ?_) <;> (try (have hq := hg; simp only [Bool.not_eq_true', Bool.not_eq_false', Bool.and_eq_true, Bool.and_eq_false_iff, Bool.or_eq_true, Bool.or_eq_false_iff, decide_eq_true_eq, decide_eq_false_iff_not, bne_iff_ne, beq_iff_eq, beq_eq_false_iff_ne, bne_eq_false_iff_eq, ne_eq, Int.not_lt, Int.not_le, Decidable.not_not] at hq)) <;> (try (have hr := hg; simp only [decide_eq_true_eq, decide_eq_false_iff_not] at hr)) <;> (try (exfalso; omega))) | ((first | refine aw_hide fun K hK => aw_region ?_ | refine acallB (rk) (by repeat' (first | exact trivial | exact rfl | refine And.intro ?_ ?_)) (by kernel_rfl) (by kernel_rfl) (by kernel_rfl) ?_ | refine ago_if (by omega) ?_ | skip); simp (config := {maxSteps := 10000000}) (disch := first | exact okYes (by kernel_rfl) | omega) only [List.length, Nat.zero_add, Nat.reduceMul, Nat.reduceAdd, dI, ARun_none, AOpRun, aexec, FSt.ev, St.F, eget_c, Nat.reduceBEq, ↓eget_h, cond_false, isSh, Bool.false_eq_true, ↓reduceIte, Option.map, abin, AGo_ok, St.app, putO, eput_c, eput_n, hups, List.map, ARun_nil, dropE_c, inL_n, dropE_n, hr, decide_true, inL_c, beq_self_eq_true, cond_true, Int.natCast_nonneg, rows_all, and_self, opt1, Int.toNat_natCast, g1, run1, List.getElem?_cons_zero, dB, Bool.not_true, hput_c, hput_n, List.append_nil, fits]) | (subst hK; with_reducible repeat' (first | refine thenQ_n ?_ | refine blockQ_n ?_ | refine thenQ_e ?_ | refine blockQ_t ?_ | refine blockQ_f (by decide) ?_))))
      refine ⟨k + 1, ⟨by omega, hstep⟩, by omega, ?_⟩
      refine wk_to [] [(0, 0), (8, 8)] (by kernel_rfl) (by kernel_rfl) (by kernel_rfl) (by kernel_rfl) (by kernel_rfl) ?_ ?_ <;> repeat' (first | exact trivial | exact vr_val _ | exact vr_list _ | exact vr_ptr _ _ _ rfl | apply vr_fn | refine And.intro ⟨_, rfl, .inl ⟨_, rfl, by decide, ?_⟩⟩ ?_ | apply And.intro)
  · obtain rfl : k = vs.length := by omega
    have q : vs.findIdx? (fun r => !allI r lo hi) = none := by
      rw [List.findIdx?_eq_none_iff]
      intro y hy
      obtain ⟨j, hj, rfl⟩ := List.getElem_of_mem hy
      have := hin j hj
      simp [hj] at this
      simp [this]
    rw [q]
    (have hg : (987654321 : Nat) - 987654321 = 0 := rfl; have hr := hg; repeat' (first | refine aw_seq ?_ | (refine aw_skip ?_; with_reducible repeat' (first | refine thenQ_n ?_ | refine blockQ_n ?_ | refine thenQ_e ?_ | refine blockQ_t ?_ | refine blockQ_f (by decide) ?_)) | (refine aw_exit ?_; with_reducible repeat' (first | refine thenQ_n ?_ | refine blockQ_n ?_ | refine thenQ_e ?_ | refine blockQ_t ?_ | refine blockQ_f (by decide) ?_)) | refine aw_ret ?_ | refine aw_block ?_ | refine aw_condT rfl ?_ | refine aw_condF rfl ?_ | (refine aw_cond rfl (fun hg => ?_) (fun hg => ?_) <;> (try (have hq := hg; simp only [Bool.not_eq_true', Bool.not_eq_false', Bool.and_eq_true, Bool.and_eq_false_iff, Bool.or_eq_true, Bool.or_eq_false_iff, decide_eq_true_eq, decide_eq_false_iff_not, bne_iff_ne, beq_iff_eq, beq_eq_false_iff_ne, bne_eq_false_iff_eq, ne_eq, Int.not_lt, Int.not_le, Decidable.not_not] at hq)) <;> (try (have hr := hg; simp only [decide_eq_true_eq, decide_eq_false_iff_not] at hr)) <;> (try (exfalso; omega))) | ((first | refine aw_hide fun K hK => aw_region ?_ | refine ago_if (by omega) ?_ | skip); simp (config := {maxSteps := 10000000}) (disch := first | exact okYes (by kernel_rfl) | omega) only [List.length, Nat.zero_add, Nat.reduceMul, Nat.reduceAdd, dI, ARun_none, AOpRun, aexec, FSt.ev, St.F, eget_c, Nat.reduceBEq, ↓eget_h, cond_false, isSh, Bool.false_eq_true, ↓reduceIte, Option.map, abin, AGo_ok, St.app, putO, eput_c, eput_n, hups, List.map, ARun_nil, dropE_c, inL_n, dropE_n, Int.reduceNeg, hr, decide_false]) | (subst hK; with_reducible repeat' (first | refine thenQ_n ?_ | refine blockQ_n ?_ | refine thenQ_e ?_ | refine blockQ_t ?_ | refine blockQ_f (by decide) ?_))))
    all_goals (refine end_to [] [(0, 0), (8, 8)] (by first | exact .inl rfl | exact .inr rfl) rfl (by kernel_rfl) (by kernel_rfl) (by kernel_rfl) ?_ ?_ <;> repeat' (first | exact trivial | exact vr_val _ | exact vr_list _ | exact vr_ptr _ _ _ rfl | apply vr_fn | refine And.intro ⟨_, rfl, _, rfl, by decide, ?_⟩ ?_ | apply And.intro))
set_option maxRecDepth 100000 in
set_option maxHeartbeats 2000000 in
theorem roCont2_ac (vs : List (List Int)) (t : Tb) (lo hi : Int) (hl : vs.length ≤ 1000000) (hr : ∀ k : Nat, (vs[k]?.getD []).length ≤ 1000000) : AC Try.prog 138 [.list (rows vs), .fn 152 [] [.ptr 8 0]] [(0, limC t lo hi), (8, [fnD])] [(0, some (limC t lo hi)), (8, some [fnD])] (dB (!(vs.all fun r => allI r lo hi))) := by
  refine kslices_ContainsFunc_L_L_J_L_Jint_K_L_Jint_J.ac (n0 := 200) (by simp) ⟨.list _, .fn _ _ _ (by simp) (by intro d hd; simp at hd; subst hd; exact .ptr _ _ (by omega)), trivial⟩ ⟨⟨by omega, limC_in _ _ _ _⟩, ⟨by omega, by intro d hd; simp at hd; subst hd; exact fnD_in _ (by omega)⟩, trivial⟩ rfl ?_
  unfold cslices_ContainsFunc_L_L_J_L_Jint_K_L_Jint_J
  have hf := roIdx2_ac vs t lo hi hl hr
  unfold limC fnD at *
  cases h : vs.findIdx? (fun r => !allI r lo hi) with
  | none =>
    have ha : (vs.all fun r => allI r lo hi) = true := by
      rw [List.findIdx?_eq_none_iff] at h
      refine List.all_eq_true.2 fun x hx => ?_
      have := h x hx
      simpa using this
    rw [h] at hf
    rw [ha]
    (have hg : (987654321 : Nat) - 987654321 = 0 := rfl; have hr := hg; repeat' (first | refine aw_seq ?_ | (refine aw_skip ?_; with_reducible repeat' (first | refine thenQ_n ?_ | refine blockQ_n ?_ | refine thenQ_e ?_ | refine blockQ_t ?_ | refine blockQ_f (by decide) ?_)) | (refine aw_exit ?_; with_reducible repeat' (first | refine thenQ_n ?_ | refine blockQ_n ?_ | refine thenQ_e ?_ | refine blockQ_t ?_ | refine blockQ_f (by decide) ?_)) | refine aw_ret ?_ | refine aw_block ?_ | refine aw_condT rfl ?_ | refine aw_condF rfl ?_ | ((first | refine aw_hide fun K hK => aw_region ?_ | refine acallB (hf) (by repeat' (first | exact trivial | exact rfl | refine And.intro ?_ ?_)) (by kernel_rfl) (by kernel_rfl) (by kernel_rfl) ?_ | refine ago_if (by omega) ?_ | skip); simp (config := {maxSteps := 10000000}) (disch := first | exact okYes (by kernel_rfl) | omega) only [List.length, Nat.zero_add, Nat.reduceMul, Nat.reduceAdd, envOf, dI, ARun_none, AOpRun, aexec, FSt.ev, AGo_ok, St.app, putO, eput_c, Nat.reduceBEq, eput_n, cond_false, hups, List.map, ARun_nil, dropE_c, inL_n, dropE_n, St.F, ↓eget_h, eget_c, Int.reduceNeg, hput_c, beq_self_eq_true, hput_n, cond_true, List.append_nil, isSh, Bool.false_eq_true, ↓reduceIte, Option.map, abin, inL_c, dB, Bool.not_true]) | (subst hK; with_reducible repeat' (first | refine thenQ_n ?_ | refine blockQ_n ?_ | refine thenQ_e ?_ | refine blockQ_t ?_ | refine blockQ_f (by decide) ?_))))
    all_goals (refine end_to [] [(0, 0), (8, 8)] (by first | exact .inl rfl | exact .inr rfl) rfl (by kernel_rfl) (by kernel_rfl) (by kernel_rfl) ?_ ?_ <;> repeat' (first | exact trivial | exact vr_val _ | exact vr_list _ | exact vr_ptr _ _ _ rfl | apply vr_fn | refine And.intro ⟨_, rfl, _, rfl, by decide, ?_⟩ ?_ | apply And.intro))
  | some k =>
    have ha : (vs.all fun r => allI r lo hi) = false := by
      rw [List.findIdx?_eq_some_iff_getElem] at h
      obtain ⟨hk, he, _⟩ := h
      refine List.all_eq_false.2 ⟨vs[k], List.getElem_mem hk, by simpa using he⟩
    rw [h] at hf
    rw [ha]
    have q : decide ((k : Int) ≥ 0) = true := decide_eq_true (by omega)
    (have hg : (987654321 : Nat) - 987654321 = 0 := rfl; have hr := hg; repeat' (first | refine aw_seq ?_ | (refine aw_skip ?_; with_reducible repeat' (first | refine thenQ_n ?_ | refine blockQ_n ?_ | refine thenQ_e ?_ | refine blockQ_t ?_ | refine blockQ_f (by decide) ?_)) | (refine aw_exit ?_; with_reducible repeat' (first | refine thenQ_n ?_ | refine blockQ_n ?_ | refine thenQ_e ?_ | refine blockQ_t ?_ | refine blockQ_f (by decide) ?_)) | refine aw_ret ?_ | refine aw_block ?_ | refine aw_condT rfl ?_ | refine aw_condF rfl ?_ | ((first | refine aw_hide fun K hK => aw_region ?_ | refine acallB (hf) (by repeat' (first | exact trivial | exact rfl | refine And.intro ?_ ?_)) (by kernel_rfl) (by kernel_rfl) (by kernel_rfl) ?_ | refine ago_if (by omega) ?_ | skip); simp (config := {maxSteps := 10000000}) (disch := first | exact okYes (by kernel_rfl) | omega) only [List.length, Nat.zero_add, Nat.reduceMul, Nat.reduceAdd, envOf, dI, ARun_none, AOpRun, aexec, FSt.ev, AGo_ok, St.app, putO, eput_c, Nat.reduceBEq, eput_n, cond_false, hups, List.map, ARun_nil, dropE_c, inL_n, dropE_n, St.F, ↓eget_h, eget_c, hput_c, beq_self_eq_true, hput_n, cond_true, List.append_nil, isSh, Bool.false_eq_true, ↓reduceIte, Option.map, abin, Int.natCast_nonneg, decide_true, inL_c, dB, Bool.not_false]) | (subst hK; with_reducible repeat' (first | refine thenQ_n ?_ | refine blockQ_n ?_ | refine thenQ_e ?_ | refine blockQ_t ?_ | refine blockQ_f (by decide) ?_))))
    all_goals (refine end_to [] [(0, 0), (8, 8)] (by first | exact .inl rfl | exact .inr rfl) rfl (by kernel_rfl) (by kernel_rfl) (by kernel_rfl) ?_ ?_ <;> repeat' (first | exact trivial | exact vr_val _ | exact vr_list _ | exact vr_ptr _ _ _ rfl | apply vr_fn | refine And.intro ⟨_, rfl, _, rfl, by decide, ?_⟩ ?_ | apply And.intro))
set_option maxRecDepth 100000 in
set_option maxHeartbeats 4000000 in
theorem right_ac (t : Tb) (lo hi : Int) (hs : TbSm t) : AC Try.prog 143 [.agg (limC t lo hi)] [] [] (dB (limB t lo hi)) := by
  refine krotor_limits_right.ac (n0 := 0) (by simp) ⟨.agg _ (limC_in _ _ _ _), trivial⟩ trivial rfl ?_
  have ct := checkT_ac hs.sz
  have cc := roCont2_ac t.v t lo hi (by have := hs.2.2.1; omega) (fun k => by have := hs.row k; omega)
  unfold crotor_limits_right limB
  unfold tabD at ct
  unfold limC fnD at *
  refine aw_seq (aw_region ?_)
  simp (config := {maxSteps := 10000000}) (disch := first | exact okYes (by kernel_rfl) | omega) only [thenQ, List.map, dB, List.length, Nat.zero_add, Nat.reduceAdd, Nat.reduceMul, envOf, dI, ARun_none, AOpRun, aexec, D.isBot, FSt.ev, St.F, ↓eget_h, Bool.false_eq_true, Option.isSome, hget_n, or_self, ↓reduceIte, D.cells, AGo_ok, St.app, putO, eput_c, Nat.reduceBEq, eput_n, cond_false, hups, hput_n, ARun_nil, dropE_c, inL_n, dropE_n]
  refine aw_seq (aw_region ?_)
  simp (config := {maxSteps := 10000000}) (disch := first | exact okYes (by kernel_rfl) | omega) only [thenQ, List.length, Nat.zero_add, Nat.reduceAdd, Nat.reduceMul, ARun_none, AOpRun, aexec, List.map, FSt.ev, St.F, eget_c, Nat.reduceBEq, ↓eget_h, cond_false, AGo_ok, St.app, putO, eput_c, eput_n, hups, Option.isSome, hget_c, hget_n, Bool.false_eq_true, ↓reduceIte, hput_c, hput_n, ↓hget_h, D.isBot, D.cells, Nat.reduceLeDiff, List.all, D.leaf, Bool.and_true, and_self, splice, List.take, List.nil_append, List.drop, List.append_nil, beq_self_eq_true, cond_true, ARun_nil, dropE_c, inL_c, inL_n, dropE_n]
  refine aw_wk (s' := ⟨[(1, .ptr 0 0), (3, .ptr 8 0)], [(0, [.list (ints t.x), .list (ints t.y), .list (rows t.v), dI lo, dI hi]), (8, [.fn 151 [] [.ptr 0 0]])], 400⟩) ?_ ?_
  · unfold dI
    refine wk_to [] [(0, 0), (8, 24)] (by kernel_rfl) (by kernel_rfl) (by kernel_rfl) (by kernel_rfl) (by kernel_rfl) ?_ ?_ <;> repeat' (first | exact trivial | exact vr_val _ | exact vr_list _ | exact vr_ptr _ _ _ rfl | apply vr_fn | refine And.intro ⟨_, rfl, .inl ⟨_, rfl, by decide, ?_⟩⟩ ?_ | apply And.intro)
  by_cases he : tabErr t.x t.y t.v = 0
  · rw [he] at ct
    rw [decide_eq_true he, Bool.true_and]
    cases hv : (t.v.all fun r => allI r lo hi)
    all_goals
      rw [hv] at cc
      (have hg : (987654321 : Nat) - 987654321 = 0 := rfl; have hr := hg; repeat' (first | refine aw_seq ?_ | (refine aw_skip ?_; with_reducible repeat' (first | refine thenQ_n ?_ | refine blockQ_n ?_ | refine thenQ_e ?_ | refine blockQ_t ?_ | refine blockQ_f (by decide) ?_)) | (refine aw_exit ?_; with_reducible repeat' (first | refine thenQ_n ?_ | refine blockQ_n ?_ | refine thenQ_e ?_ | refine blockQ_t ?_ | refine blockQ_f (by decide) ?_)) | refine aw_ret ?_ | refine aw_block ?_ | refine aw_condT rfl ?_ | refine aw_condF rfl ?_ | ((first | refine aw_hide fun K hK => aw_region ?_ | refine acall0 (ct) ?_ | refine acallB (cc) (by repeat' (first | exact trivial | exact rfl | refine And.intro ?_ ?_)) (by kernel_rfl) (by kernel_rfl) (by kernel_rfl) ?_ | refine ago_if (by omega) ?_ | skip); simp (config := {maxSteps := 10000000}) (disch := first | exact okYes (by kernel_rfl) | omega) only [List.length, Nat.zero_add, Nat.reduceAdd, Nat.reduceMul, dI, ARun_none, AOpRun, aexec, FSt.ev, St.F, ↓eget_h, AGo_ok, St.app, putO, eput_c, Nat.reduceBEq, eput_n, cond_false, hups, List.map, eget_c, hget_c, beq_self_eq_true, hget_n, cond_true, Nat.reduceLeDiff, ↓reduceIte, List.drop, List.take, isSh, Bool.false_eq_true, Option.map, abin, ARun_some, AG_tt, run1, List.getElem?_cons_succ, List.getElem?_cons_zero, dB, Bool.not_false, hput_c, hput_n, List.append_nil, Bool.not_true, ARun_nil, dropE_c, inL_c, inL_n, dropE_n]) | (subst hK; with_reducible repeat' (first | refine thenQ_n ?_ | refine blockQ_n ?_ | refine thenQ_e ?_ | refine blockQ_t ?_ | refine blockQ_f (by decide) ?_))))
      all_goals (refine end_to [] [] (by first | exact .inl rfl | exact .inr rfl) rfl (by kernel_rfl) (by kernel_rfl) (by kernel_rfl) ?_ ?_ <;> repeat' (first | exact trivial | exact vr_val _))
  · rw [decide_eq_false he, Bool.false_and]
    have q : (tabErr t.x t.y t.v == 0) = false := by simpa using he
    generalize tabErr t.x t.y t.v = E at *
    (have hg : (987654321 : Nat) - 987654321 = 0 := rfl; have hr := hg; repeat' (first | refine aw_seq ?_ | (refine aw_skip ?_; with_reducible repeat' (first | refine thenQ_n ?_ | refine blockQ_n ?_ | refine thenQ_e ?_ | refine blockQ_t ?_ | refine blockQ_f (by decide) ?_)) | (refine aw_exit ?_; with_reducible repeat' (first | refine thenQ_n ?_ | refine blockQ_n ?_ | refine thenQ_e ?_ | refine blockQ_t ?_ | refine blockQ_f (by decide) ?_)) | refine aw_ret ?_ | refine aw_block ?_ | refine aw_condT rfl ?_ | refine aw_condF rfl ?_ | ((first | refine aw_hide fun K hK => aw_region ?_ | refine acall0 (ct) ?_ | refine ago_if (by omega) ?_ | skip); simp (config := {maxSteps := 10000000}) (disch := first | exact okYes (by kernel_rfl) | omega) only [List.length, Nat.zero_add, Nat.reduceAdd, Nat.reduceMul, dI, ARun_none, AOpRun, aexec, FSt.ev, St.F, ↓eget_h, AGo_ok, St.app, putO, eput_c, Nat.reduceBEq, eput_n, cond_false, hups, List.map, eget_c, hget_c, beq_self_eq_true, hget_n, cond_true, Nat.reduceLeDiff, ↓reduceIte, List.drop, List.take, isSh, Bool.false_eq_true, Option.map, abin, q, ARun_some, AG_ft, ARun_nil, dropE_c, inL_c, inL_n, dropE_n]) | (subst hK; with_reducible repeat' (first | refine thenQ_n ?_ | refine blockQ_n ?_ | refine thenQ_e ?_ | refine blockQ_t ?_ | refine blockQ_f (by decide) ?_))))
    all_goals (refine end_to [] [] (by first | exact .inl rfl | exact .inr rfl) rfl (by kernel_rfl) (by kernel_rfl) (by kernel_rfl) ?_ ?_ <;> repeat' (first | exact trivial | exact vr_val _))
end Go.Proofs.Ytgibbaadjbohdaa
/- The functions' bodies, translated. Written by a program; no conditions. -/
namespace Go.Proofs.Ytgibbaadjbohdaa
open Go.RowKit Lift

/-- rotor_check -/
def crotor_check : ACode :=
  (.seq
   (.region false [⟨some 4, .box (.tmp 0), none, []⟩,
     ⟨some 5, .box (.tmp 1), none, []⟩,
     ⟨some 8, .mv (.const (.int .i64 0)), none, []⟩] [])
  (.seq
   (.seq
    (.region false [⟨some 12, .loadN 26 (.tmp 4), none, []⟩,
      ⟨some 13, .call (.func 119) [(.tmp 12)], none, []⟩,
      ⟨some 9, .mv (.tmp 13), none, []⟩] [12, 13])
   (.seq
    (.region false [⟨some 14, .mv (.tmp 9), none, []⟩,
      ⟨some 15, .bin .neq (.tmp 14) (.const (.int .i64 0)), none, []⟩] [14])
   (.cond (.tmp 15)
     (.seq
      (.region false [⟨some 16, .mv (.tmp 9), none, []⟩,
        ⟨some 8, .mv (.tmp 16), none, []⟩] [16])
     .ret)
     .skip)))
  (.seq
   (.seq
    (.region false [⟨some 17, .fad 0 (.tmp 5), none, []⟩,
      ⟨some 18, .loadN 2 (.tmp 17), none, []⟩,
      ⟨some 19, .fad 2 (.tmp 5), none, []⟩,
      ⟨some 20, .loadN 2 (.tmp 19), none, []⟩,
      ⟨some 21, .fad 4 (.tmp 5), none, []⟩,
      ⟨some 22, .loadN 2 (.tmp 21), none, []⟩,
      ⟨some 23, .fad 6 (.tmp 5), none, []⟩,
      ⟨some 24, .loadN 2 (.tmp 23), none, []⟩,
      ⟨some 25, .buildSl 2 4 [(.val (.int .i64 0)), (.val (.int .i64 0)), (.val (.int .i64 0)), (.val (.int .i64 0)), (.val (.int .i64 0)), (.val (.int .i64 0)), (.val (.int .i64 0)), (.val (.int .i64 0))] [(0, 2, (.tmp 18)), (2, 2, (.tmp 20)), (4, 2, (.tmp 22)), (6, 2, (.tmp 24))], none, []⟩,
      ⟨some 26, .len_ (.tmp 25), none, []⟩,
      ⟨some 27, .mv (.const (.int .i64 0)), none, []⟩] [17, 18, 19, 20, 21, 22, 23, 24])
   (.block 0
     (.loop
       (.seq
        (.region false [⟨some 28, .bin .lss (.tmp 27) (.tmp 26), none, []⟩] [])
       (.seq
        (.cond (.tmp 28)
          .skip
          (.exit 0))
       (.seq
        (.block 1
          (.seq
           (.region false [⟨some 29, .iadS 2 (.tmp 25) (.tmp 27), none, []⟩,
             ⟨some 30, .loadN 2 (.tmp 29), none, []⟩,
             ⟨some 11, .mem [(.val (.int .i64 0)), (.val (.int .i64 0))], none, []⟩,
             ⟨none, .store 2 (.tmp 11) (.tmp 30), none, []⟩] [29, 30])
          (.seq
           (.region false [⟨some 31, .loadN 2 (.tmp 11), none, []⟩,
             ⟨some 32, .call (.func 120) [(.tmp 31)], none, []⟩,
             ⟨some 33, .un .not (.tmp 32), none, []⟩] [31, 32])
          (.cond (.tmp 33)
            (.seq
             (.region false [⟨some 8, .mv (.const (.int .i64 21)), none, []⟩] [])
            .ret)
            .skip))))
       (.region false [⟨some 34, .bin .add (.tmp 27) (.const (.int .i64 1)), none, []⟩,
         ⟨some 27, .mv (.tmp 34), none, []⟩] [34])))))))
  (.seq
   (.seq
    (.region false [⟨some 35, .mv (.tmp 2), none, []⟩,
      ⟨some 36, .call (.func 80) [(.tmp 35), (.func 121)], none, []⟩,
      ⟨some 37, .mv (.tmp 36), none, []⟩,
      ⟨some 38, .mv (.tmp 3), (some (some 37, false)), []⟩,
      ⟨some 39, .call (.tmp 38) [], (some (some 37, false)), []⟩,
      ⟨some 40, .call (.func 122) [(.tmp 39), (.func 123)], (some (some 37, false)), []⟩,
      ⟨some 41, .pick (.tmp 37) (.const (.bool true)) (.tmp 40), none, []⟩] [35, 36, 37, 38, 39, 40])
   (.cond (.tmp 41)
     (.seq
      (.region false [⟨some 8, .mv (.const (.int .i64 1)), none, []⟩] [])
     .ret)
     .skip))
  (.seq
   (.region false [⟨some 8, .mv (.const (.int .i64 0)), none, []⟩] [])
  .ret)))))
set_option maxRecDepth 100000 in
theorem krotor_check : IsCode Try.prog 83 42 crotor_check [.tmp 8] :=
  ⟨Try.f83, _, [41, 33, 28, 15, 0, 1, 4, 9, 5, 27, 26, 25, 11, 2, 3, 8], Try.func83, rfl, by decide, rfl, by kernel_rfl, by kernel_rfl⟩
/-- law02_Far -/
def claw02_Far : ACode :=
  (.seq
   (.region false [⟨some 1, .box (.tmp 0), none, []⟩,
     ⟨some 2, .mv (.const (.bool false)), none, []⟩] [])
  (.seq
   (.region false [⟨some 3, .fad 0 (.tmp 1), none, []⟩,
     ⟨some 4, .loadN 3 (.tmp 3), none, []⟩,
     ⟨some 5, .call (.func 31) [(.tmp 4)], none, []⟩,
     ⟨some 6, .mv (.tmp 5), none, []⟩,
     ⟨some 7, .fad 3 (.tmp 1), (some (some 6, false)), []⟩,
     ⟨some 8, .loadN 3 (.tmp 7), (some (some 6, false)), []⟩,
     ⟨some 9, .call (.func 31) [(.tmp 8)], (some (some 6, false)), []⟩,
     ⟨some 10, .pick (.tmp 6) (.const (.bool true)) (.tmp 9), none, []⟩,
     ⟨some 11, .mv (.tmp 10), none, []⟩,
     ⟨some 12, .fad 6 (.tmp 1), (some (some 11, false)), []⟩,
     ⟨some 13, .loadN 3 (.tmp 12), (some (some 11, false)), []⟩,
     ⟨some 14, .call (.func 31) [(.tmp 13)], (some (some 11, false)), []⟩,
     ⟨some 15, .pick (.tmp 11) (.const (.bool true)) (.tmp 14), none, []⟩,
     ⟨some 16, .mv (.tmp 15), none, []⟩,
     ⟨some 17, .fad 9 (.tmp 1), (some (some 16, false)), []⟩,
     ⟨some 18, .loadN 3 (.tmp 17), (some (some 16, false)), []⟩,
     ⟨some 19, .call (.func 31) [(.tmp 18)], (some (some 16, false)), []⟩,
     ⟨some 20, .pick (.tmp 16) (.const (.bool true)) (.tmp 19), none, []⟩,
     ⟨some 21, .mv (.tmp 20), none, []⟩,
     ⟨some 22, .fad 12 (.tmp 1), (some (some 21, false)), []⟩,
     ⟨some 23, .loadN 3 (.tmp 22), (some (some 21, false)), []⟩,
     ⟨some 24, .call (.func 31) [(.tmp 23)], (some (some 21, false)), []⟩,
     ⟨some 25, .pick (.tmp 21) (.const (.bool true)) (.tmp 24), none, []⟩,
     ⟨some 26, .mv (.tmp 25), none, []⟩,
     ⟨some 27, .fad 15 (.tmp 1), (some (some 26, false)), []⟩,
     ⟨some 28, .loadN 3 (.tmp 27), (some (some 26, false)), []⟩,
     ⟨some 29, .call (.func 31) [(.tmp 28)], (some (some 26, false)), []⟩,
     ⟨some 30, .pick (.tmp 26) (.const (.bool true)) (.tmp 29), none, []⟩,
     ⟨some 31, .mv (.tmp 30), none, []⟩,
     ⟨some 32, .fad 18 (.tmp 1), (some (some 31, false)), []⟩,
     ⟨some 33, .loadN 3 (.tmp 32), (some (some 31, false)), []⟩,
     ⟨some 34, .call (.func 31) [(.tmp 33)], (some (some 31, false)), []⟩,
     ⟨some 35, .pick (.tmp 31) (.const (.bool true)) (.tmp 34), none, []⟩,
     ⟨some 36, .mv (.tmp 35), none, []⟩,
     ⟨some 37, .fad 21 (.tmp 1), (some (some 36, false)), []⟩,
     ⟨some 38, .loadN 3 (.tmp 37), (some (some 36, false)), []⟩,
     ⟨some 39, .call (.func 31) [(.tmp 38)], (some (some 36, false)), []⟩,
     ⟨some 40, .pick (.tmp 36) (.const (.bool true)) (.tmp 39), none, []⟩,
     ⟨some 2, .mv (.tmp 40), none, []⟩] [3, 4, 5, 6, 7, 8, 9, 10, 11, 12, 13, 14, 15, 16, 17, 18, 19, 20, 21, 22, 23, 24, 25, 26, 27, 28, 29, 30, 31, 32, 33, 34, 35, 36, 37, 38, 39, 40])
  .ret))
set_option maxRecDepth 100000 in
theorem klaw02_Far : IsCode Try.prog 7 41 claw02_Far [.tmp 2] :=
  ⟨Try.f7, _, [0, 1, 2], Try.func7, rfl, by decide, rfl, by kernel_rfl, by kernel_rfl⟩
/-- ref02_CheckAir -/
def cref02_CheckAir : ACode :=
  (.seq
   (.region false [⟨some 2, .box (.tmp 0), none, []⟩,
     ⟨some 3, .box (.tmp 1), none, []⟩,
     ⟨some 4, .mv (.const (.int .i64 0)), none, []⟩] [])
  (.seq
   (.region false [⟨some 6, .loadN 26 (.tmp 2), none, []⟩,
     ⟨some 7, .call (.func 32) [(.tmp 6)], none, []⟩,
     ⟨some 5, .mv (.tmp 7), none, []⟩] [6, 7])
  (.seq
   (.seq
    (.region false [⟨some 8, .mv (.tmp 5), none, []⟩,
      ⟨some 9, .bin .neq (.tmp 8) (.const (.int .i64 0)), none, []⟩] [8])
   (.cond (.tmp 9)
     (.seq
      (.region false [⟨some 10, .mv (.tmp 5), none, []⟩,
        ⟨some 4, .mv (.tmp 10), none, []⟩] [10])
     .ret)
     .skip))
  (.seq
   (.seq
    (.region false [⟨some 11, .fad 0 (.tmp 3), none, []⟩,
      ⟨some 12, .loadN 2 (.tmp 11), none, []⟩,
      ⟨some 13, .call (.func 17) [(.tmp 12)], none, []⟩,
      ⟨some 14, .un .not (.tmp 13), none, []⟩,
      ⟨some 15, .mv (.tmp 14), none, []⟩,
      ⟨some 16, .fad 2 (.tmp 3), (some (some 15, false)), []⟩,
      ⟨some 17, .loadN 2 (.tmp 16), (some (some 15, false)), []⟩,
      ⟨some 18, .call (.func 17) [(.tmp 17)], (some (some 15, false)), []⟩,
      ⟨some 19, .un .not (.tmp 18), (some (some 15, false)), []⟩,
      ⟨some 20, .pick (.tmp 15) (.const (.bool true)) (.tmp 19), none, []⟩,
      ⟨some 21, .mv (.tmp 20), none, []⟩,
      ⟨some 22, .fad 4 (.tmp 3), (some (some 21, false)), []⟩,
      ⟨some 23, .loadN 2 (.tmp 22), (some (some 21, false)), []⟩,
      ⟨some 24, .call (.func 17) [(.tmp 23)], (some (some 21, false)), []⟩,
      ⟨some 25, .un .not (.tmp 24), (some (some 21, false)), []⟩,
      ⟨some 26, .pick (.tmp 21) (.const (.bool true)) (.tmp 25), none, []⟩,
      ⟨some 27, .mv (.tmp 26), none, []⟩,
      ⟨some 28, .fad 6 (.tmp 3), (some (some 27, false)), []⟩,
      ⟨some 29, .loadN 2 (.tmp 28), (some (some 27, false)), []⟩,
      ⟨some 30, .call (.func 17) [(.tmp 29)], (some (some 27, false)), []⟩,
      ⟨some 31, .un .not (.tmp 30), (some (some 27, false)), []⟩,
      ⟨some 32, .pick (.tmp 27) (.const (.bool true)) (.tmp 31), none, []⟩] [11, 12, 13, 14, 15, 16, 17, 18, 19, 20, 21, 22, 23, 24, 25, 26, 27, 28, 29, 30, 31])
   (.cond (.tmp 32)
     (.seq
      (.region false [⟨some 4, .mv (.const (.int .i64 21)), none, []⟩] [])
     .ret)
     .skip))
  (.seq
   (.region false [⟨some 4, .mv (.const (.int .i64 0)), none, []⟩] [])
  .ret)))))
set_option maxRecDepth 100000 in
theorem kref02_CheckAir : IsCode Try.prog 8 33 cref02_CheckAir [.tmp 4] :=
  ⟨Try.f8, _, [32, 9, 0, 1, 2, 5, 3, 4], Try.func8, rfl, by decide, rfl, by kernel_rfl, by kernel_rfl⟩
/-- ref02_Check -/
def cref02_Check : ACode :=
  (.seq
   (.region false [⟨some 1, .box (.tmp 0), none, []⟩,
     ⟨some 2, .mv (.const (.int .i64 0)), none, []⟩] [])
  (.seq
   (.seq
    (.region false [⟨some 5, .fad 0 (.tmp 1), none, []⟩,
      ⟨some 6, .loadN 3 (.tmp 5), none, []⟩,
      ⟨some 7, .call (.func 64) [(.tmp 6), (.const (.int .i64 0)), (.const (.int .i64 100000))], none, []⟩,
      ⟨some 8, .un .not (.tmp 7), none, []⟩,
      ⟨some 9, .mv (.tmp 8), none, []⟩,
      ⟨some 10, .fad 3 (.tmp 1), (some (some 9, false)), []⟩,
      ⟨some 11, .loadN 3 (.tmp 10), (some (some 9, false)), []⟩,
      ⟨some 12, .call (.func 64) [(.tmp 11), (.const (.int .i64 0)), (.const (.int .i64 100))], (some (some 9, false)), []⟩,
      ⟨some 13, .un .not (.tmp 12), (some (some 9, false)), []⟩,
      ⟨some 14, .pick (.tmp 9) (.const (.bool true)) (.tmp 13), none, []⟩,
      ⟨some 15, .mv (.tmp 14), none, []⟩,
      ⟨some 16, .fad 6 (.tmp 1), (some (some 15, false)), []⟩,
      ⟨some 17, .loadN 3 (.tmp 16), (some (some 15, false)), []⟩,
      ⟨some 18, .call (.func 64) [(.tmp 17), (.const (.int .i64 0)), (.const (.int .i64 100000))], (some (some 15, false)), []⟩,
      ⟨some 19, .un .not (.tmp 18), (some (some 15, false)), []⟩,
      ⟨some 20, .pick (.tmp 15) (.const (.bool true)) (.tmp 19), none, []⟩,
      ⟨some 21, .mv (.tmp 20), none, []⟩,
      ⟨some 22, .fad 9 (.tmp 1), (some (some 21, false)), []⟩,
      ⟨some 23, .loadN 3 (.tmp 22), (some (some 21, false)), []⟩,
      ⟨some 24, .call (.func 64) [(.tmp 23), (.const (.int .i64 0)), (.const (.int .i64 100000))], (some (some 21, false)), []⟩,
      ⟨some 25, .un .not (.tmp 24), (some (some 21, false)), []⟩,
      ⟨some 26, .pick (.tmp 21) (.const (.bool true)) (.tmp 25), none, []⟩] [5, 6, 7, 8, 9, 10, 11, 12, 13, 14, 15, 16, 17, 18, 19, 20, 21, 22, 23, 24, 25])
   (.cond (.tmp 26)
     (.seq
      (.region false [⟨some 2, .mv (.const (.int .i64 20)), none, []⟩] [])
     .ret)
     .skip))
  (.seq
   (.seq
    (.region false [⟨some 27, .fad 12 (.tmp 1), none, []⟩,
      ⟨some 28, .loadN 3 (.tmp 27), none, []⟩,
      ⟨some 29, .call (.func 64) [(.tmp 28), (.const (.int .i64 0)), (.const (.int .i64 10000))], none, []⟩,
      ⟨some 30, .un .not (.tmp 29), none, []⟩,
      ⟨some 31, .mv (.tmp 30), none, []⟩,
      ⟨some 32, .fad 15 (.tmp 1), (some (some 31, false)), []⟩,
      ⟨some 33, .loadN 3 (.tmp 32), (some (some 31, false)), []⟩,
      ⟨some 34, .call (.func 64) [(.tmp 33), (.const (.int .i64 0)), (.const (.int .i64 10000))], (some (some 31, false)), []⟩,
      ⟨some 35, .un .not (.tmp 34), (some (some 31, false)), []⟩,
      ⟨some 36, .pick (.tmp 31) (.const (.bool true)) (.tmp 35), none, []⟩,
      ⟨some 37, .mv (.tmp 36), none, []⟩,
      ⟨some 38, .fad 18 (.tmp 1), (some (some 37, false)), []⟩,
      ⟨some 39, .loadN 3 (.tmp 38), (some (some 37, false)), []⟩,
      ⟨some 40, .call (.func 64) [(.tmp 39), (.const (.int .i64 0)), (.const (.int .i64 10000))], (some (some 37, false)), []⟩,
      ⟨some 41, .un .not (.tmp 40), (some (some 37, false)), []⟩,
      ⟨some 42, .pick (.tmp 37) (.const (.bool true)) (.tmp 41), none, []⟩,
      ⟨some 43, .mv (.tmp 42), none, []⟩,
      ⟨some 44, .fad 21 (.tmp 1), (some (some 43, false)), []⟩,
      ⟨some 45, .loadN 3 (.tmp 44), (some (some 43, false)), []⟩,
      ⟨some 46, .call (.func 64) [(.tmp 45), (.const (.int .i64 1)), (.const (.int .i64 10000))], (some (some 43, false)), []⟩,
      ⟨some 47, .un .not (.tmp 46), (some (some 43, false)), []⟩,
      ⟨some 48, .pick (.tmp 43) (.const (.bool true)) (.tmp 47), none, []⟩] [27, 28, 29, 30, 31, 32, 33, 34, 35, 36, 37, 38, 39, 40, 41, 42, 43, 44, 45, 46, 47])
   (.cond (.tmp 48)
     (.seq
      (.region false [⟨some 2, .mv (.const (.int .i64 20)), none, []⟩] [])
     .ret)
     .skip))
  (.seq
   (.seq
    (.region false [⟨some 49, .fad 15 (.tmp 1), none, []⟩,
      ⟨some 50, .fad 0 (.tmp 49), none, []⟩,
      ⟨some 51, .load1 (.tmp 50), none, []⟩,
      ⟨some 52, .fad 18 (.tmp 1), none, []⟩,
      ⟨some 53, .fad 0 (.tmp 52), none, []⟩,
      ⟨some 54, .load1 (.tmp 53), none, []⟩,
      ⟨some 55, .call (.func 65) [(.tmp 51), (.tmp 54)], none, []⟩,
      ⟨some 56, .un .not (.tmp 55), none, []⟩,
      ⟨some 57, .mv (.tmp 56), none, []⟩,
      ⟨some 58, .fad 15 (.tmp 1), (some (some 57, false)), []⟩,
      ⟨some 59, .fad 1 (.tmp 58), (some (some 57, false)), []⟩,
      ⟨some 60, .load1 (.tmp 59), (some (some 57, false)), []⟩,
      ⟨some 61, .fad 18 (.tmp 1), (some (some 57, false)), []⟩,
      ⟨some 62, .fad 1 (.tmp 61), (some (some 57, false)), []⟩,
      ⟨some 63, .load1 (.tmp 62), (some (some 57, false)), []⟩,
      ⟨some 64, .call (.func 65) [(.tmp 60), (.tmp 63)], (some (some 57, false)), []⟩,
      ⟨some 65, .un .not (.tmp 64), (some (some 57, false)), []⟩,
      ⟨some 66, .pick (.tmp 57) (.const (.bool true)) (.tmp 65), none, []⟩,
      ⟨some 67, .mv (.tmp 66), none, []⟩,
      ⟨some 68, .fad 24 (.tmp 1), (some (some 67, false)), []⟩,
      ⟨some 69, .load1 (.tmp 68), (some (some 67, false)), []⟩,
      ⟨some 70, .call (.func 66) [(.tmp 69), (.const (.int .i64 1)), (.const (.int .i64 1000))], (some (some 67, false)), []⟩,
      ⟨some 71, .un .not (.tmp 70), (some (some 67, false)), []⟩,
      ⟨some 72, .pick (.tmp 67) (.const (.bool true)) (.tmp 71), none, []⟩,
      ⟨some 73, .mv (.tmp 72), none, []⟩,
      ⟨some 74, .fad 25 (.tmp 1), (some (some 73, false)), []⟩,
      ⟨some 75, .load1 (.tmp 74), (some (some 73, false)), []⟩,
      ⟨some 76, .call (.func 66) [(.tmp 75), (.const (.int .i64 1)), (.const (.int .i64 1000))], (some (some 73, false)), []⟩,
      ⟨some 77, .un .not (.tmp 76), (some (some 73, false)), []⟩,
      ⟨some 78, .pick (.tmp 73) (.const (.bool true)) (.tmp 77), none, []⟩] [49, 50, 51, 52, 53, 54, 55, 56, 57, 58, 59, 60, 61, 62, 63, 64, 65, 66, 67, 68, 69, 70, 71, 72, 73, 74, 75, 76, 77])
   (.cond (.tmp 78)
     (.seq
      (.region false [⟨some 2, .mv (.const (.int .i64 20)), none, []⟩] [])
     .ret)
     .skip))
  (.seq
   (.seq
    (.region false [⟨some 3, .mv (.const (.int .i64 0)), none, []⟩] [])
   (.block 0
     (.loop
       (.seq
        (.seq
         (.region false [⟨some 79, .mv (.tmp 3), none, []⟩,
           ⟨some 80, .fad 15 (.tmp 1), none, []⟩,
           ⟨some 81, .fad 0 (.tmp 80), none, []⟩,
           ⟨some 82, .load1 (.tmp 81), none, []⟩,
           ⟨some 83, .len_ (.tmp 82), none, []⟩,
           ⟨some 84, .bin .lss (.tmp 79) (.tmp 83), none, []⟩] [79, 80, 81, 82, 83])
        (.cond (.tmp 84)
          .skip
          (.exit 0)))
       (.seq
        (.block 1
          (.seq
           (.region false [⟨some 4, .mv (.const (.int .i64 0)), none, []⟩] [])
          (.block 2
            (.loop
              (.seq
               (.seq
                (.region false [⟨some 87, .mv (.tmp 4), none, []⟩,
                  ⟨some 88, .fad 15 (.tmp 1), none, []⟩,
                  ⟨some 89, .fad 1 (.tmp 88), none, []⟩,
                  ⟨some 90, .load1 (.tmp 89), none, []⟩,
                  ⟨some 91, .len_ (.tmp 90), none, []⟩,
                  ⟨some 92, .bin .lss (.tmp 87) (.tmp 91), none, []⟩] [87, 88, 89, 90, 91])
               (.cond (.tmp 92)
                 .skip
                 (.exit 2)))
              (.seq
               (.block 3
                 (.seq
                  (.region true [⟨some 95, .fad 15 (.tmp 1), none, []⟩,
                    ⟨some 96, .fad 2 (.tmp 95), none, [0]⟩,
                    ⟨some 97, .load1 (.tmp 96), none, [1, 0]⟩,
                    ⟨some 98, .mv (.tmp 3), none, []⟩,
                    ⟨some 99, .iadS 1 (.tmp 97) (.tmp 98), none, [2, 1, 0, 3]⟩,
                    ⟨some 100, .load1 (.tmp 99), none, [4, 2, 1, 0, 3]⟩,
                    ⟨some 101, .mv (.tmp 4), none, []⟩,
                    ⟨some 102, .iadS 1 (.tmp 100) (.tmp 101), none, [5, 4, 2, 1, 0, 3, 6]⟩,
                    ⟨some 103, .load1 (.tmp 102), none, [7, 5, 4, 2, 1, 0, 3, 6]⟩,
                    ⟨some 104, .fad 18 (.tmp 1), none, []⟩,
                    ⟨some 105, .fad 2 (.tmp 104), none, [9]⟩,
                    ⟨some 106, .load1 (.tmp 105), none, [10, 9]⟩,
                    ⟨some 107, .mv (.tmp 3), none, []⟩,
                    ⟨some 108, .iadS 1 (.tmp 106) (.tmp 107), none, [11, 10, 9, 12]⟩,
                    ⟨some 109, .load1 (.tmp 108), none, [13, 11, 10, 9, 12]⟩,
                    ⟨some 110, .mv (.tmp 4), none, []⟩,
                    ⟨some 111, .iadS 1 (.tmp 109) (.tmp 110), none, [14, 13, 11, 10, 9, 12, 15]⟩,
                    ⟨some 112, .load1 (.tmp 111), none, [16, 14, 13, 11, 10, 9, 12, 15]⟩,
                    ⟨some 113, .bin .gtr (.tmp 103) (.tmp 112), none, [8, 7, 5, 4, 2, 1, 0, 3, 6, 17, 16, 14, 13, 11, 10, 9, 12, 15]⟩] [95, 96, 97, 98, 99, 100, 101, 102, 103, 104, 105, 106, 107, 108, 109, 110, 111, 112])
                 (.cond (.tmp 113)
                   (.seq
                    (.region false [⟨some 2, .mv (.const (.int .i64 20)), none, []⟩] [])
                   .ret)
                   .skip)))
              (.region false [⟨some 93, .mv (.tmp 4), none, []⟩,
                ⟨some 94, .bin .add (.tmp 93) (.const (.int .i64 1)), none, []⟩,
                ⟨some 4, .mv (.tmp 94), none, []⟩] [93, 94])))))))
       (.region false [⟨some 85, .mv (.tmp 3), none, []⟩,
         ⟨some 86, .bin .add (.tmp 85) (.const (.int .i64 1)), none, []⟩,
         ⟨some 3, .mv (.tmp 86), none, []⟩] [85, 86]))))))
  (.seq
   (.region false [⟨some 2, .mv (.const (.int .i64 0)), none, []⟩] [])
  .ret))))))
set_option maxRecDepth 100000 in
theorem kref02_Check : IsCode Try.prog 32 114 cref02_Check [.tmp 2] :=
  ⟨Try.f32, _, [113, 92, 84, 78, 48, 26, 0, 1, 3, 4, 2], Try.func32, rfl, by decide, rfl, by kernel_rfl, by kernel_rfl⟩
/-- ref02_filled -/
def cref02_filled : ACode :=
  (.seq
   (.region false [⟨some 3, .box (.tmp 0), none, []⟩,
     ⟨some 6, .mv (.const (.bool false)), none, []⟩] [])
  (.seq
   (.seq
    (.region false [⟨some 9, .loadN 3 (.tmp 3), none, []⟩,
      ⟨some 10, .call (.func 109) [(.tmp 9)], none, []⟩,
      ⟨some 11, .bin .neq (.tmp 10) (.const (.int .i64 0)), none, []⟩] [9, 10])
   (.cond (.tmp 11)
     (.seq
      (.region false [⟨some 6, .mv (.const (.bool false)), none, []⟩] [])
     .ret)
     .skip))
  (.seq
   (.seq
    (.region false [⟨some 7, .mv (.const (.int .i64 0)), none, []⟩] [])
   (.block 0
     (.loop
       (.seq
        (.seq
         (.region false [⟨some 12, .mv (.tmp 7), none, []⟩,
           ⟨some 13, .fad 0 (.tmp 3), none, []⟩,
           ⟨some 14, .load1 (.tmp 13), none, []⟩,
           ⟨some 15, .len_ (.tmp 14), none, []⟩,
           ⟨some 16, .bin .lss (.tmp 12) (.tmp 15), none, []⟩] [12, 13, 14, 15])
        (.cond (.tmp 16)
          .skip
          (.exit 0)))
       (.seq
        (.block 1
          (.seq
           (.region false [⟨some 8, .mv (.const (.int .i64 0)), none, []⟩] [])
          (.block 2
            (.loop
              (.seq
               (.seq
                (.region false [⟨some 19, .mv (.tmp 8), none, []⟩,
                  ⟨some 20, .fad 1 (.tmp 3), none, []⟩,
                  ⟨some 21, .load1 (.tmp 20), none, []⟩,
                  ⟨some 22, .len_ (.tmp 21), none, []⟩,
                  ⟨some 23, .bin .lss (.tmp 19) (.tmp 22), none, []⟩] [19, 20, 21, 22])
               (.cond (.tmp 23)
                 .skip
                 (.exit 2)))
              (.seq
               (.block 3
                 (.seq
                  (.region false [⟨some 26, .fad 2 (.tmp 3), none, []⟩,
                    ⟨some 27, .load1 (.tmp 26), none, []⟩,
                    ⟨some 28, .mv (.tmp 7), none, []⟩,
                    ⟨some 29, .iadS 1 (.tmp 27) (.tmp 28), none, []⟩,
                    ⟨some 30, .load1 (.tmp 29), none, []⟩,
                    ⟨some 31, .mv (.tmp 8), none, []⟩,
                    ⟨some 32, .iadS 1 (.tmp 30) (.tmp 31), none, []⟩,
                    ⟨some 33, .load1 (.tmp 32), none, []⟩,
                    ⟨some 34, .mv (.tmp 1), none, []⟩,
                    ⟨some 35, .mv (.tmp 2), none, []⟩,
                    ⟨some 36, .call (.func 66) [(.tmp 33), (.tmp 34), (.tmp 35)], none, []⟩,
                    ⟨some 37, .un .not (.tmp 36), none, []⟩] [26, 27, 28, 29, 30, 31, 32, 33, 34, 35, 36])
                 (.cond (.tmp 37)
                   (.seq
                    (.region false [⟨some 6, .mv (.const (.bool false)), none, []⟩] [])
                   .ret)
                   .skip)))
              (.region false [⟨some 24, .mv (.tmp 8), none, []⟩,
                ⟨some 25, .bin .add (.tmp 24) (.const (.int .i64 1)), none, []⟩,
                ⟨some 8, .mv (.tmp 25), none, []⟩] [24, 25])))))))
       (.region false [⟨some 17, .mv (.tmp 7), none, []⟩,
         ⟨some 18, .bin .add (.tmp 17) (.const (.int .i64 1)), none, []⟩,
         ⟨some 7, .mv (.tmp 18), none, []⟩] [17, 18]))))))
  (.seq
   (.region false [⟨some 6, .mv (.const (.bool true)), none, []⟩] [])
  .ret))))
set_option maxRecDepth 100000 in
theorem kref02_filled : IsCode Try.prog 64 38 cref02_filled [.tmp 6] :=
  ⟨Try.f64, _, [37, 23, 16, 11, 0, 3, 7, 8, 1, 2, 6], Try.func64, rfl, by decide, rfl, by kernel_rfl, by kernel_rfl⟩
/-- ref02_from -/
def cref02_from : ACode :=
  (.seq
   (.region false [⟨some 6, .mv (.const (.bool false)), none, []⟩] [])
  (.seq
   (.region false [⟨some 7, .mv (.tmp 0), none, []⟩,
     ⟨some 8, .mv (.tmp 1), none, []⟩,
     ⟨some 9, .bin .geq (.tmp 7) (.tmp 8), none, []⟩,
     ⟨some 10, .mv (.tmp 9), none, []⟩,
     ⟨some 11, .mv (.tmp 0), (some (some 10, true)), []⟩,
     ⟨some 12, .mv (.tmp 2), (some (some 10, true)), []⟩,
     ⟨some 13, .bin .leq (.tmp 11) (.tmp 12), (some (some 10, true)), []⟩,
     ⟨some 14, .pick (.tmp 10) (.tmp 13) (.const (.bool false)), none, []⟩,
     ⟨some 6, .mv (.tmp 14), none, []⟩] [7, 8, 9, 10, 11, 12, 13, 14])
  .ret))
set_option maxRecDepth 100000 in
theorem kref02_from : IsCode Try.prog 66 15 cref02_from [.tmp 6] :=
  ⟨Try.f66, _, [0, 1, 2, 6], Try.func66, rfl, by decide, rfl, by kernel_rfl, by kernel_rfl⟩
/-- ref02_sameInts -/
def cref02_sameInts : ACode :=
  (.seq
   (.region false [⟨some 4, .mv (.const (.bool false)), none, []⟩] [])
  (.seq
   (.seq
    (.region false [⟨some 6, .mv (.tmp 0), none, []⟩,
      ⟨some 7, .len_ (.tmp 6), none, []⟩,
      ⟨some 8, .mv (.tmp 1), none, []⟩,
      ⟨some 9, .len_ (.tmp 8), none, []⟩,
      ⟨some 10, .bin .neq (.tmp 7) (.tmp 9), none, []⟩] [6, 7, 8, 9])
   (.cond (.tmp 10)
     (.seq
      (.region false [⟨some 4, .mv (.const (.bool false)), none, []⟩] [])
     .ret)
     .skip))
  (.seq
   (.seq
    (.region false [⟨some 5, .mv (.const (.int .i64 0)), none, []⟩] [])
   (.block 0
     (.loop
       (.seq
        (.seq
         (.region false [⟨some 11, .mv (.tmp 5), none, []⟩,
           ⟨some 12, .mv (.tmp 0), none, []⟩,
           ⟨some 13, .len_ (.tmp 12), none, []⟩,
           ⟨some 14, .bin .lss (.tmp 11) (.tmp 13), none, []⟩] [11, 12, 13])
        (.cond (.tmp 14)
          .skip
          (.exit 0)))
       (.seq
        (.block 1
          (.seq
           (.region true [⟨some 17, .mv (.tmp 0), none, []⟩,
             ⟨some 18, .mv (.tmp 5), none, []⟩,
             ⟨some 19, .iadS 1 (.tmp 17) (.tmp 18), none, [0, 1]⟩,
             ⟨some 20, .load1 (.tmp 19), none, [2, 0, 1]⟩,
             ⟨some 21, .mv (.tmp 1), none, []⟩,
             ⟨some 22, .mv (.tmp 5), none, []⟩,
             ⟨some 23, .iadS 1 (.tmp 21) (.tmp 22), none, [4, 5]⟩,
             ⟨some 24, .load1 (.tmp 23), none, [6, 4, 5]⟩,
             ⟨some 25, .bin .neq (.tmp 20) (.tmp 24), none, [3, 2, 0, 1, 7, 6, 4, 5]⟩] [17, 18, 19, 20, 21, 22, 23, 24])
          (.cond (.tmp 25)
            (.seq
             (.region false [⟨some 4, .mv (.const (.bool false)), none, []⟩] [])
            .ret)
            .skip)))
       (.region false [⟨some 15, .mv (.tmp 5), none, []⟩,
         ⟨some 16, .bin .add (.tmp 15) (.const (.int .i64 1)), none, []⟩,
         ⟨some 5, .mv (.tmp 16), none, []⟩] [15, 16]))))))
  (.seq
   (.region false [⟨some 4, .mv (.const (.bool true)), none, []⟩] [])
  .ret))))
set_option maxRecDepth 100000 in
theorem kref02_sameInts : IsCode Try.prog 65 26 cref02_sameInts [.tmp 4] :=
  ⟨Try.f65, _, [25, 14, 10, 0, 1, 5, 4], Try.func65, rfl, by decide, rfl, by kernel_rfl, by kernel_rfl⟩
end Go.Proofs.Ytgibbaadjbohdaa
