/- Texts of the law RecordHolds, part 10. No conditions. -/
import Derived.Test.YtdcodicoclecnaaPRecordHolds09
/- The document's Renew: which list comes before, and its parts. No conditions. -/
set_option linter.unusedSimpArgs false
set_option linter.unusedVariables false
namespace Go.Proofs.Ytdcodicoclecnaa
open Go Go.RowKit Lift

theorem ci_len (l : List Nat) : (ci l).length = l.length := by unfold ci; rw [List.length_map]
theorem ci_gd (l : List Nat) (k : Nat) (h : k < l.length) : (ints (ci l))[k]? = some [dI ((l[k]'h : Nat) : Int)] := by
  rw [ints_gd _ _ (by rw [ci_len]; exact h)]
  unfold ci
  simp [h, dI]
set_option maxRecDepth 100000 in
set_option maxHeartbeats 2000000 in
theorem before_ac (a b : List Nat) (ha : a.length ≤ 1000000) (hb : b.length ≤ 1000000) : AC Try.prog 91 [.list (ints (ci a)), .list (ints (ci b))] [] [] (dB (befB a b)) := by
  refine kref12_before.ac (n0 := 0) (by simp) ⟨.list _, .list _, trivial⟩ trivial rfl ?_
  unfold cref12_before
  have al : (ints (ci a)).length = a.length := by rw [ints_len, ci_len]
  have bl : (ints (ci b)).length = b.length := by rw [ints_len, ci_len]
  have aa := ints_all (ci a)
  have ba := ints_all (ci b)
  unfold befB
  by_cases hl : a.length = b.length
  case neg =>
    have q : ((a.length : Int) != (b.length : Int)) = true := by simp only [bne_iff_ne, ne_eq]; omega
    rw [decide_eq_false hl, Bool.false_and, Bool.or_false, show decide (a.length < b.length) = decide ((a.length : Int) < (b.length : Int)) from decide_eq_decide.2 (by omega)]
    (have hg : (987654321 : Nat) - 987654321 = 0 := rfl; have hr := hg; repeat' (first | refine aw_seq ?_ | (refine aw_skip ?_; repeat' (first | with_reducible refine thenQ_n ?_ | with_reducible refine blockQ_n ?_ | with_reducible refine thenQ_e ?_ | with_reducible refine blockQ_t ?_ | with_reducible refine blockQ_f (by decide) ?_)) | (refine aw_exit ?_; repeat' (first | with_reducible refine thenQ_n ?_ | with_reducible refine blockQ_n ?_ | with_reducible refine thenQ_e ?_ | with_reducible refine blockQ_t ?_ | with_reducible refine blockQ_f (by decide) ?_)) | refine aw_ret ?_ | refine aw_block ?_ | refine aw_condT rfl ?_ | refine aw_condF rfl ?_ | ((first | refine aw_hide fun K hK => aw_region ?_ | refine ago_if (by omega) ?_ | skip); simp (config := {maxSteps := 10000000}) (disch := first | exact okYes (by kernel_rfl) | omega) only [List.length, Nat.zero_add, Nat.reduceMul, envOf, ARun_none, AOpRun, aexec, FSt.ev, AGo_ok, St.app, putO, eput_c, Nat.reduceBEq, eput_n, cond_false, hups, List.map, ARun_nil, dropE_c, inL_n, dropE_n, Nat.reduceAdd, St.F, ↓eget_h, eget_c, al, bl, isSh, Bool.false_eq_true, ↓reduceIte, Option.map, abin, q, inL_c, beq_self_eq_true, cond_true, thenQ, dB]) | (subst hK; repeat' (first | with_reducible refine thenQ_n ?_ | with_reducible refine blockQ_n ?_ | with_reducible refine thenQ_e ?_ | with_reducible refine blockQ_t ?_ | with_reducible refine blockQ_f (by decide) ?_))))
    all_goals (refine end_to [] [] (by first | exact .inl rfl | exact .inr rfl) rfl (by kernel_rfl) (by kernel_rfl) (by kernel_rfl) ?_ ?_ <;> repeat' (first | exact trivial | exact vr_val _))
  have q : ((a.length : Int) != (b.length : Int)) = false := by simp only [bne_eq_false_iff_eq]; omega
  rw [decide_eq_false (show ¬ a.length < b.length by omega), decide_eq_true hl, Bool.false_or, Bool.true_and]
  (have hg : (987654321 : Nat) - 987654321 = 0 := rfl; have hr := hg; repeat' (first | refine aw_seq ?_ | (refine aw_skip ?_; repeat' (first | with_reducible refine thenQ_n ?_ | with_reducible refine blockQ_n ?_ | with_reducible refine thenQ_e ?_ | with_reducible refine blockQ_t ?_ | with_reducible refine blockQ_f (by decide) ?_)) | (refine aw_exit ?_; repeat' (first | with_reducible refine thenQ_n ?_ | with_reducible refine blockQ_n ?_ | with_reducible refine thenQ_e ?_ | with_reducible refine blockQ_t ?_ | with_reducible refine blockQ_f (by decide) ?_)) | refine aw_ret ?_ | refine aw_block ?_ | refine aw_condT rfl ?_ | refine aw_condF rfl ?_ | ((first | refine aw_hide fun K hK => aw_region ?_ | refine ago_if (by omega) ?_ | skip); simp (config := {maxSteps := 10000000}) (disch := first | exact okYes (by kernel_rfl) | omega) only [List.length, Nat.zero_add, Nat.reduceMul, envOf, ARun_none, AOpRun, aexec, FSt.ev, AGo_ok, St.app, putO, eput_c, Nat.reduceBEq, eput_n, cond_false, hups, List.map, ARun_nil, dropE_c, inL_n, dropE_n, Nat.reduceAdd, St.F, ↓eget_h, eget_c, al, bl, isSh, Bool.false_eq_true, ↓reduceIte, Option.map, abin, q, inL_c, beq_self_eq_true, cond_true, dB]) | (subst hK; repeat' (first | with_reducible refine thenQ_n ?_ | with_reducible refine blockQ_n ?_ | with_reducible refine thenQ_e ?_ | with_reducible refine blockQ_t ?_ | with_reducible refine blockQ_f (by decide) ?_))))
  refine aw_loop (fun k : Nat => ⟨[(0, .list (ints (ci a))), (1, .list (ints (ci b))), (5, dI k)], [], 400⟩) (fun k => k ≤ a.length ∧ lexB (a.drop k) (b.drop k) = lexB a b) (fun k => a.length - k) ⟨0, ⟨by omega, rfl⟩, ?_⟩ ?_
  · unfold dI
    refine wk_to [] [] (by kernel_rfl) (by kernel_rfl) (by kernel_rfl) (by kernel_rfl) (by kernel_rfl) ?_ ?_ <;> repeat' (first | exact trivial | exact vr_val _ | exact vr_list _ | apply And.intro)
  rintro k ⟨hk, hin⟩
  by_cases hk2 : k < a.length
  case neg =>
    obtain rfl : k = a.length := by omega
    rw [← hin, List.drop_length]
    rw [show lexB [] (b.drop a.length) = false from rfl]
    (have hg : (987654321 : Nat) - 987654321 = 0 := rfl; have hr := hg; repeat' (first | refine aw_seq ?_ | (refine aw_skip ?_; repeat' (first | with_reducible refine thenQ_n ?_ | with_reducible refine blockQ_n ?_ | with_reducible refine thenQ_e ?_ | with_reducible refine blockQ_t ?_ | with_reducible refine blockQ_f (by decide) ?_)) | (refine aw_exit ?_; repeat' (first | with_reducible refine thenQ_n ?_ | with_reducible refine blockQ_n ?_ | with_reducible refine thenQ_e ?_ | with_reducible refine blockQ_t ?_ | with_reducible refine blockQ_f (by decide) ?_)) | refine aw_ret ?_ | refine aw_block ?_ | refine aw_condT rfl ?_ | refine aw_condF rfl ?_ | (refine aw_cond rfl (fun hg => ?_) (fun hg => ?_) <;> (try (have hq := hg; simp only [Bool.not_eq_true', Bool.not_eq_false', Bool.and_eq_true, Bool.and_eq_false_iff, Bool.or_eq_true, Bool.or_eq_false_iff, decide_eq_true_eq, decide_eq_false_iff_not, bne_iff_ne, beq_iff_eq, beq_eq_false_iff_ne, bne_eq_false_iff_eq, ne_eq, Int.not_lt, Int.not_le, Decidable.not_not] at hq)) <;> (try (have hr := hg; simp only [decide_eq_true_eq, decide_eq_false_iff_not] at hr)) <;> (try (exfalso; omega))) | ((first | refine aw_hide fun K hK => aw_region ?_ | refine ago_if (by omega) ?_ | skip); simp (config := {maxSteps := 10000000}) (disch := first | exact okYes (by kernel_rfl) | omega) only [List.length, Nat.zero_add, Nat.reduceAdd, Nat.reduceMul, dI, ARun_none, AOpRun, aexec, FSt.ev, St.F, eget_c, Nat.reduceBEq, ↓eget_h, cond_false, AGo_ok, St.app, putO, eput_c, eput_n, hups, List.map, al, isSh, Bool.false_eq_true, ↓reduceIte, Option.map, abin, ARun_nil, dropE_c, inL_c, inL_n, beq_self_eq_true, cond_true, dropE_n, hr, decide_false]) | (subst hK; repeat' (first | with_reducible refine thenQ_n ?_ | with_reducible refine blockQ_n ?_ | with_reducible refine thenQ_e ?_ | with_reducible refine blockQ_t ?_ | with_reducible refine blockQ_f (by decide) ?_))))
    all_goals (refine end_to [] [] (by first | exact .inl rfl | exact .inr rfl) rfl (by kernel_rfl) (by kernel_rfl) (by kernel_rfl) ?_ ?_ <;> repeat' (first | exact trivial | exact vr_val _))
  have g1 := ci_gd a k hk2
  have g2 := ci_gd b k (by omega)
  have ki : (k : Int) < (a.length : Int) := by omega
  have kj : (k : Int) < (b.length : Int) := by omega
  rw [List.drop_eq_getElem_cons hk2, List.drop_eq_getElem_cons (show k < b.length by omega), lexB] at hin
  generalize a[k] = x at *
  generalize b[k]'_ = y at *
  cases q2 : ((x : Int) != (y : Int)) with
  | true =>
    have n2 : x ≠ y := by simp only [bne_iff_ne, ne_eq] at q2; omega
    rw [← hin, decide_eq_false n2, Bool.false_and, Bool.or_false, show decide (x < y) = decide ((x : Int) < (y : Int)) from decide_eq_decide.2 (by omega)]
    (have hg : (987654321 : Nat) - 987654321 = 0 := rfl; have hr := hg; repeat' (first | refine aw_seq ?_ | (refine aw_skip ?_; repeat' (first | with_reducible refine thenQ_n ?_ | with_reducible refine blockQ_n ?_ | with_reducible refine thenQ_e ?_ | with_reducible refine blockQ_t ?_ | with_reducible refine blockQ_f (by decide) ?_)) | (refine aw_exit ?_; repeat' (first | with_reducible refine thenQ_n ?_ | with_reducible refine blockQ_n ?_ | with_reducible refine thenQ_e ?_ | with_reducible refine blockQ_t ?_ | with_reducible refine blockQ_f (by decide) ?_)) | refine aw_ret ?_ | refine aw_block ?_ | refine aw_condT rfl ?_ | refine aw_condF rfl ?_ | ((first | refine aw_hide fun K hK => aw_region ?_ | refine ago_if (by omega) ?_ | skip); simp (config := {maxSteps := 10000000}) (disch := first | exact okYes (by kernel_rfl) | omega) only [List.length, Nat.zero_add, Nat.reduceAdd, Nat.reduceMul, dI, ARun_none, AOpRun, aexec, FSt.ev, St.F, eget_c, Nat.reduceBEq, ↓eget_h, cond_false, AGo_ok, St.app, putO, eput_c, eput_n, hups, List.map, al, isSh, Bool.false_eq_true, ↓reduceIte, Option.map, abin, ki, decide_true, ARun_nil, dropE_c, inL_c, inL_n, beq_self_eq_true, cond_true, dropE_n, Int.natCast_nonneg, aa, and_self, opt1, Int.toNat_natCast, g1, run1, List.getElem?_cons_zero, ba, g2, q2, blockQ, thenQ]) | (subst hK; repeat' (first | with_reducible refine thenQ_n ?_ | with_reducible refine blockQ_n ?_ | with_reducible refine thenQ_e ?_ | with_reducible refine blockQ_t ?_ | with_reducible refine blockQ_f (by decide) ?_))))
    all_goals (refine end_to [] [] (by first | exact .inl rfl | exact .inr rfl) rfl (by kernel_rfl) (by kernel_rfl) (by kernel_rfl) ?_ ?_ <;> repeat' (first | exact trivial | exact vr_val _))
  | false =>
    have n2 : x = y := by simp only [bne_eq_false_iff_eq] at q2; omega
    rw [decide_eq_false (show ¬ x < y by omega), decide_eq_true n2, Bool.false_or, Bool.true_and] at hin
    (have hg : (987654321 : Nat) - 987654321 = 0 := rfl; have hr := hg; repeat' (first | refine aw_seq ?_ | (refine aw_skip ?_; repeat' (first | with_reducible refine thenQ_n ?_ | with_reducible refine blockQ_n ?_ | with_reducible refine thenQ_e ?_ | with_reducible refine blockQ_t ?_ | with_reducible refine blockQ_f (by decide) ?_)) | (refine aw_exit ?_; repeat' (first | with_reducible refine thenQ_n ?_ | with_reducible refine blockQ_n ?_ | with_reducible refine thenQ_e ?_ | with_reducible refine blockQ_t ?_ | with_reducible refine blockQ_f (by decide) ?_)) | refine aw_ret ?_ | refine aw_block ?_ | refine aw_condT rfl ?_ | refine aw_condF rfl ?_ | ((first | refine aw_hide fun K hK => aw_region ?_ | refine ago_if (by omega) ?_ | skip); simp (config := {maxSteps := 10000000}) (disch := first | exact okYes (by kernel_rfl) | omega) only [List.length, Nat.zero_add, Nat.reduceAdd, Nat.reduceMul, dI, ARun_none, AOpRun, aexec, FSt.ev, St.F, eget_c, Nat.reduceBEq, ↓eget_h, cond_false, AGo_ok, St.app, putO, eput_c, eput_n, hups, List.map, al, isSh, Bool.false_eq_true, ↓reduceIte, Option.map, abin, ki, decide_true, ARun_nil, dropE_c, inL_c, inL_n, beq_self_eq_true, cond_true, dropE_n, Int.natCast_nonneg, aa, and_self, opt1, Int.toNat_natCast, g1, run1, List.getElem?_cons_zero, ba, g2, q2, fits]) | (subst hK; repeat' (first | with_reducible refine thenQ_n ?_ | with_reducible refine blockQ_n ?_ | with_reducible refine thenQ_e ?_ | with_reducible refine blockQ_t ?_ | with_reducible refine blockQ_f (by decide) ?_))))
    refine ⟨k + 1, ⟨by omega, hin⟩, by omega, ?_⟩
    refine wk_to [] [] (by kernel_rfl) (by kernel_rfl) (by kernel_rfl) (by kernel_rfl) (by kernel_rfl) ?_ ?_ <;> repeat' (first | exact trivial | exact vr_val _ | exact vr_list _ | apply And.intro)
/-- the proofs that count, and some more of a set -/
def cnS (c : Cas) (tick : Int) (s k : Nat) : List Bool := (List.range c.pf.length).map fun j => cntT c tick j || (decide (j < k) && s.testBit j)
theorem cnS_len (c : Cas) (tick : Int) (s k : Nat) : (cnS c tick s k).length = c.pf.length := by simp [cnS]
theorem cnS_zero (c : Cas) (tick : Int) (s : Nat) : cnS c tick s 0 = cnL c tick := by
  unfold cnS cnL
  refine List.map_congr_left fun j _ => ?_
  simp
theorem cnS_at (c : Cas) (tick : Int) (s k j : Nat) (h : j < c.pf.length) : (cnS c tick s k)[j]?.getD false = (cntT c tick j || (decide (j < k) && s.testBit j)) := by
  unfold cnS; simp [h]
theorem cnS_set (c : Cas) (tick : Int) (s k : Nat) (h : k < c.pf.length) (hs : s.testBit k = true) : cnS c tick s (k + 1) = (cnS c tick s k).set k true := by
  unfold cnS
  refine List.ext_getElem (by simp) fun j h1 h2 => ?_
  rw [List.getElem_set]
  simp only [List.getElem_map, List.getElem_range]
  by_cases e : k = j
  · subst e; simp [hs]
  · rw [if_neg e]
    congr 2
    exact decide_eq_decide.2 (by omega)
theorem cnS_not (c : Cas) (tick : Int) (s k : Nat) (hs : s.testBit k = false) : cnS c tick s (k + 1) = cnS c tick s k := by
  unfold cnS
  refine List.map_congr_left fun j _ => ?_
  by_cases e : j = k
  · subst e; simp [hs]
  · congr 2
    exact decide_eq_decide.2 (by omega)
theorem cnS_had (c : Cas) (tick : Int) (s k : Nat) (hs : cntT c tick k = true) : cnS c tick s (k + 1) = cnS c tick s k := by
  unfold cnS
  refine List.map_congr_left fun j _ => ?_
  by_cases e : j = k
  · subst e; simp [hs]
  · congr 2
    exact decide_eq_decide.2 (by omega)
def moK (now s k : Nat) : List Nat := (List.range k).filter fun i => s.testBit i && !now.testBit i
theorem moK_len (now s k : Nat) : (moK now s k).length ≤ k := Nat.le_trans (List.length_filter_le _ _) (by simp)
theorem moK_t {now s k : Nat} (h : (s.testBit k && !now.testBit k) = true) : moK now s (k + 1) = moK now s k ++ [k] := by
  unfold moK
  rw [List.range_succ, List.filter_append, List.filter_cons, if_pos h]; rfl
theorem moK_f {now s k : Nat} (h : (s.testBit k && !now.testBit k) = false) : moK now s (k + 1) = moK now s k := by
  unfold moK
  rw [List.range_succ, List.filter_append, List.filter_cons, if_neg (by rw [h]; simp)]
  simp
theorem mo_holds {c : Cas} (hc : CasOk c) {cl : Nat} (hcl : cl < c.cl.length) (tick : Int) (s : Nat) : holdC c cl (fun j : Nat => (cnS c tick s c.pf.length)[j]?.getD false) = hlB c cl (maskN (cntN c tick) (moreL (cntN c tick) c.pf.length s)) := by
  unfold hlB
  refine holdC_same hc (fun j hj => ?_) hcl
  rw [cnS_at c tick s _ j hj, maskN_test, cntN_test, decide_eq_true hj, Bool.true_and]
  unfold moreL
  cases hb : cntT c tick j with
  | true => simp
  | false =>
    rw [Bool.false_or, Bool.false_or, Bool.eq_iff_iff, List.contains_iff_mem, List.mem_filter]
    simp [hj, cntN_test, hb]
end Go.Proofs.Ytdcodicoclecnaa
/- record: the search for proofs to renew, walked. No conditions. -/
set_option linter.unusedSimpArgs false
set_option linter.unusedVariables false
namespace Go.Proofs.Ytdcodicoclecnaa
open Go Go.RowKit Lift

set_option maxRecDepth 100000 in
set_option maxHeartbeats 8000000 in
theorem lookB_zero (c : Cas) (hc : CasOk c) (cl : Nat) (hcl : cl < c.cl.length) (now : Nat) (hnow : now < 4096) (p f : Nat) (L J : List Int) (hp : p < 4096) (hLm : L.length + (0) ≤ 1000) (hne : L ++ J ≠ []) : AC Try.prog 88 [dI p, dI f, dI 0, .ptr 0 0, .ptr 8 0, .ptr 16 0, .ptr 24 0, .ptr 32 0] (hpB c cl now 40 L J) (upB c cl now 40 L J (lkE (hlB c cl) now c.pf.length 0 p f) (lkN (hlB c cl) now c.pf.length 0 p f)) (dB (lookF (hlB c cl) now c.pf.length 0 p f).isSome) := by
  have hE : lkE (hlB c cl) now c.pf.length 0 p f = [] := by
    unfold lkE lookF
    cases h : hlB c cl p <;> simp [stl]
  have hS : (lookF (hlB c cl) now c.pf.length 0 p f).isSome = hlB c cl p := by
    unfold lookF
    cases h : hlB c cl p <;> simp
  rw [hE, hS]
  have hh := holds_ac c hc cl hcl p hp
  unfold hpB upB hlB
  have hie := ic_ne hne
  generalize holdC c cl p.testBit = V at *
  unfold casD at *
  have hcin := icells_in (L ++ J)
  refine krecord_Renew_S1.ac (n0 := 200) (by simp) ⟨.val _, .val _, .val _, .ptr _ _ (by omega), .ptr _ _ (by omega), .ptr _ _ (by omega), .ptr _ _ (by omega), .ptr _ _ (by omega), trivial⟩ ⟨⟨by omega, ca_in c⟩, ⟨by omega, one_in _⟩, ⟨by omega, one_in _⟩, ⟨by omega, by intro d hd; simp at hd; subst hd; exact .vec _ _ _ (by omega)⟩, ⟨by omega, fn_in⟩, ⟨by omega, fun d h => (icells_in _ d h).mono fun _ h => h.elim⟩, trivial⟩ (by simp [okUp, hie]) ?_
  unfold crecord_Renew_S1
  (have hg : (987654321 : Nat) - 987654321 = 0 := rfl; have hr := hg; repeat' (first | refine aw_seq ?_ | (refine aw_skip ?_; repeat' (first | with_reducible refine thenQ_n ?_ | with_reducible refine blockQ_n ?_ | with_reducible refine thenQ_e ?_ | with_reducible refine blockQ_t ?_ | with_reducible refine blockQ_f (by decide) ?_)) | (refine aw_exit ?_; repeat' (first | with_reducible refine thenQ_n ?_ | with_reducible refine blockQ_n ?_ | with_reducible refine thenQ_e ?_ | with_reducible refine blockQ_t ?_ | with_reducible refine blockQ_f (by decide) ?_)) | refine aw_ret ?_ | refine aw_block ?_ | refine aw_condT rfl ?_ | refine aw_condF rfl ?_ | ((first | refine aw_hide fun K hK => aw_region ?_ | refine acall0 (hh) ?_ | refine ago_if (by omega) ?_ | skip); simp (config := {maxSteps := 10000000}) (disch := first | exact okYes (by kernel_rfl) | omega) only [List.length, Nat.zero_add, Nat.reduceMul, Nat.reduceAdd, envOf, dI, ARun_none, AOpRun, aexec, FSt.ev, AGo_ok, St.app, putO, eput_c, Nat.reduceBEq, eput_n, cond_false, hups, List.map, ARun_nil, dropE_c, inL_n, dropE_n, St.F, eget_c, ↓eget_h, isSh, Bool.false_eq_true, ↓reduceIte, Option.map, abin, beq_self_eq_true, inL_c, cond_true, hget_c, hget_n, Nat.reduceLeDiff, List.drop, List.take, run1, ↓hget_h, List.getElem?_cons_zero, dB, thenQ]) | (subst hK; repeat' (first | with_reducible refine thenQ_n ?_ | with_reducible refine blockQ_n ?_ | with_reducible refine thenQ_e ?_ | with_reducible refine blockQ_t ?_ | with_reducible refine blockQ_f (by decide) ?_))))
  refine end_to [] [(0, 0), (8, 8), (16, 16), (24, 24), (32, 32), (40, 40)] (by first | exact .inl rfl | exact .inr rfl) rfl (by kernel_rfl) (by kernel_rfl) (by kernel_rfl) ?_ ?_ <;> repeat' (first | exact trivial | exact vr_val _ | exact vr_list _ | exact vr_vec _ _ _ _ rfl | exact vr_ptr _ _ _ rfl | apply vr_fn | refine And.intro ⟨_, rfl, _, rfl, by decide, ?_⟩ ?_ | apply And.intro | exact vrl_flat _ (by first | exact icells_in _ | exact rcells_in _ | exact scells_in _ | exact bcells_in _ | assumption))
set_option maxRecDepth 100000 in
set_option maxHeartbeats 8000000 in
theorem lookC_zero (c : Cas) (hc : CasOk c) (cl : Nat) (hcl : cl < c.cl.length) (now : Nat) (hnow : now < 4096) (p f : Nat) (L J : List Int) (hp : p < 4096) (hLm : L.length + (0) ≤ 1000) (hne : L ++ J ≠ []) : AC Try.prog 88 [dI p, dI f, dI 0, .ptr 0 0, .ptr 8 0, .ptr 16 0, .ptr 24 0, .ptr 32 0] (hpB c cl now 48 L J) (upB c cl now 48 L J (lkE (hlB c cl) now c.pf.length 0 p f) (lkN (hlB c cl) now c.pf.length 0 p f)) (dB (lookF (hlB c cl) now c.pf.length 0 p f).isSome) := by
  have hE : lkE (hlB c cl) now c.pf.length 0 p f = [] := by
    unfold lkE lookF
    cases h : hlB c cl p <;> simp [stl]
  have hS : (lookF (hlB c cl) now c.pf.length 0 p f).isSome = hlB c cl p := by
    unfold lookF
    cases h : hlB c cl p <;> simp
  rw [hE, hS]
  have hh := holds_ac c hc cl hcl p hp
  unfold hpB upB hlB
  have hie := ic_ne hne
  generalize holdC c cl p.testBit = V at *
  unfold casD at *
  have hcin := icells_in (L ++ J)
  refine krecord_Renew_S1.ac (n0 := 200) (by simp) ⟨.val _, .val _, .val _, .ptr _ _ (by omega), .ptr _ _ (by omega), .ptr _ _ (by omega), .ptr _ _ (by omega), .ptr _ _ (by omega), trivial⟩ ⟨⟨by omega, ca_in c⟩, ⟨by omega, one_in _⟩, ⟨by omega, one_in _⟩, ⟨by omega, by intro d hd; simp at hd; subst hd; exact .vec _ _ _ (by omega)⟩, ⟨by omega, fn_in⟩, ⟨by omega, fun d h => (icells_in _ d h).mono fun _ h => h.elim⟩, trivial⟩ (by simp [okUp, hie]) ?_
  unfold crecord_Renew_S1
  (have hg : (987654321 : Nat) - 987654321 = 0 := rfl; have hr := hg; repeat' (first | refine aw_seq ?_ | (refine aw_skip ?_; repeat' (first | with_reducible refine thenQ_n ?_ | with_reducible refine blockQ_n ?_ | with_reducible refine thenQ_e ?_ | with_reducible refine blockQ_t ?_ | with_reducible refine blockQ_f (by decide) ?_)) | (refine aw_exit ?_; repeat' (first | with_reducible refine thenQ_n ?_ | with_reducible refine blockQ_n ?_ | with_reducible refine thenQ_e ?_ | with_reducible refine blockQ_t ?_ | with_reducible refine blockQ_f (by decide) ?_)) | refine aw_ret ?_ | refine aw_block ?_ | refine aw_condT rfl ?_ | refine aw_condF rfl ?_ | ((first | refine aw_hide fun K hK => aw_region ?_ | refine acall0 (hh) ?_ | refine ago_if (by omega) ?_ | skip); simp (config := {maxSteps := 10000000}) (disch := first | exact okYes (by kernel_rfl) | omega) only [List.length, Nat.zero_add, Nat.reduceMul, Nat.reduceAdd, envOf, dI, ARun_none, AOpRun, aexec, FSt.ev, AGo_ok, St.app, putO, eput_c, Nat.reduceBEq, eput_n, cond_false, hups, List.map, ARun_nil, dropE_c, inL_n, dropE_n, St.F, eget_c, ↓eget_h, isSh, Bool.false_eq_true, ↓reduceIte, Option.map, abin, beq_self_eq_true, inL_c, cond_true, hget_c, hget_n, Nat.reduceLeDiff, List.drop, List.take, run1, ↓hget_h, List.getElem?_cons_zero, dB, thenQ]) | (subst hK; repeat' (first | with_reducible refine thenQ_n ?_ | with_reducible refine blockQ_n ?_ | with_reducible refine thenQ_e ?_ | with_reducible refine blockQ_t ?_ | with_reducible refine blockQ_f (by decide) ?_))))
  refine end_to [] [(0, 0), (8, 8), (16, 16), (24, 24), (32, 32), (48, 48)] (by first | exact .inl rfl | exact .inr rfl) rfl (by kernel_rfl) (by kernel_rfl) (by kernel_rfl) ?_ ?_ <;> repeat' (first | exact trivial | exact vr_val _ | exact vr_list _ | exact vr_vec _ _ _ _ rfl | exact vr_ptr _ _ _ rfl | apply vr_fn | refine And.intro ⟨_, rfl, _, rfl, by decide, ?_⟩ ?_ | apply And.intro | exact vrl_flat _ (by first | exact icells_in _ | exact rcells_in _ | exact scells_in _ | exact bcells_in _ | assumption))
set_option maxRecDepth 100000 in
set_option maxHeartbeats 8000000 in
theorem lookA_zero (c : Cas) (hc : CasOk c) (cl : Nat) (hcl : cl < c.cl.length) (now : Nat) (hnow : now < 4096) (p f : Nat) (L : List Int) (hL : L = []) (hp : p < 4096) (hLm : L.length + (0) ≤ 1000) : AC Try.prog 88 [dI p, dI f, dI 0, .ptr 0 0, .ptr 8 0, .ptr 16 0, .ptr 24 0, .ptr 32 0] (hpA c cl now) (upA c cl now L (lkE (hlB c cl) now c.pf.length 0 p f) (lkN (hlB c cl) now c.pf.length 0 p f)) (dB (lookF (hlB c cl) now c.pf.length 0 p f).isSome) := by
  have hE : lkE (hlB c cl) now c.pf.length 0 p f = [] := by
    unfold lkE lookF
    cases h : hlB c cl p <;> simp [stl]
  have hS : (lookF (hlB c cl) now c.pf.length 0 p f).isSome = hlB c cl p := by
    unfold lookF
    cases h : hlB c cl p <;> simp
  rw [hE, hS]
  have hh := holds_ac c hc cl hcl p hp
  unfold hpA upA hlB
  generalize holdC c cl p.testBit = V at *
  unfold casD at *
  refine krecord_Renew_S1.ac (n0 := 200) (by simp) ⟨.val _, .val _, .val _, .ptr _ _ (by omega), .ptr _ _ (by omega), .ptr _ _ (by omega), .ptr _ _ (by omega), .ptr _ _ (by omega), trivial⟩ ⟨⟨by omega, ca_in c⟩, ⟨by omega, one_in _⟩, ⟨by omega, one_in _⟩, ⟨by omega, by intro d hd; simp at hd; subst hd; exact .val _⟩, ⟨by omega, fn_in⟩, trivial⟩ (by simp [okUp]) ?_
  unfold crecord_Renew_S1
  (have hg : (987654321 : Nat) - 987654321 = 0 := rfl; have hr := hg; repeat' (first | refine aw_seq ?_ | (refine aw_skip ?_; repeat' (first | with_reducible refine thenQ_n ?_ | with_reducible refine blockQ_n ?_ | with_reducible refine thenQ_e ?_ | with_reducible refine blockQ_t ?_ | with_reducible refine blockQ_f (by decide) ?_)) | (refine aw_exit ?_; repeat' (first | with_reducible refine thenQ_n ?_ | with_reducible refine blockQ_n ?_ | with_reducible refine thenQ_e ?_ | with_reducible refine blockQ_t ?_ | with_reducible refine blockQ_f (by decide) ?_)) | refine aw_ret ?_ | refine aw_block ?_ | refine aw_condT rfl ?_ | refine aw_condF rfl ?_ | ((first | refine aw_hide fun K hK => aw_region ?_ | refine acall0 (hh) ?_ | refine ago_if (by omega) ?_ | skip); simp (config := {maxSteps := 10000000}) (disch := first | exact okYes (by kernel_rfl) | omega) only [List.length, Nat.zero_add, Nat.reduceMul, Nat.reduceAdd, envOf, dI, ARun_none, AOpRun, aexec, FSt.ev, AGo_ok, St.app, putO, eput_c, Nat.reduceBEq, eput_n, cond_false, hups, List.map, ARun_nil, dropE_c, inL_n, dropE_n, St.F, eget_c, ↓eget_h, isSh, Bool.false_eq_true, ↓reduceIte, Option.map, abin, beq_self_eq_true, inL_c, cond_true, hget_c, hget_n, Nat.reduceLeDiff, List.drop, List.take, run1, ↓hget_h, List.getElem?_cons_zero, dB, thenQ]) | (subst hK; repeat' (first | with_reducible refine thenQ_n ?_ | with_reducible refine blockQ_n ?_ | with_reducible refine thenQ_e ?_ | with_reducible refine blockQ_t ?_ | with_reducible refine blockQ_f (by decide) ?_))))
  refine end_to [] [(0, 0), (8, 8), (16, 16), (24, 24), (32, 32)] (by first | exact .inl rfl | exact .inr rfl) rfl (by kernel_rfl) (by kernel_rfl) (by kernel_rfl) ?_ ?_ <;> repeat' (first | exact trivial | exact vr_val _ | exact vr_list _ | exact vr_ptr _ _ _ rfl | apply vr_fn | refine And.intro ⟨_, rfl, _, rfl, by decide, ?_⟩ ?_ | apply And.intro)
end Go.Proofs.Ytdcodicoclecnaa
/- record: a round of the search for proofs to renew, walked. No conditions. -/
set_option linter.unusedSimpArgs false
set_option linter.unusedVariables false
namespace Go.Proofs.Ytdcodicoclecnaa
open Go Go.RowKit Lift

set_option maxRecDepth 100000 in
set_option maxHeartbeats 8000000 in
theorem lookA_succ (c : Cas) (hc : CasOk c) (cl : Nat) (hcl : cl < c.cl.length) (now : Nat) (hnow : now < 4096) (m : Nat) (ih : ∀ (p f : Nat) (L J : List Int), p < 4096 → L.length + m ≤ 1000 → L ++ J ≠ [] → AC Try.prog 88 [dI p, dI f, dI m, .ptr 0 0, .ptr 8 0, .ptr 16 0, .ptr 24 0, .ptr 32 0] (hpB c cl now 40 L J) (upB c cl now 40 L J (lkE (hlB c cl) now c.pf.length m p f) (lkN (hlB c cl) now c.pf.length m p f)) (dB (lookF (hlB c cl) now c.pf.length m p f).isSome)) (p f : Nat) (L : List Int) (hL : L = []) (hp : p < 4096) (hLm : L.length + (m + 1) ≤ 1000) : AC Try.prog 88 [dI p, dI f, dI ((m + 1 : Nat) : Int), .ptr 0 0, .ptr 8 0, .ptr 16 0, .ptr 24 0, .ptr 32 0] (hpA c cl now) (upA c cl now L (lkE (hlB c cl) now c.pf.length (m + 1) p f) (lkN (hlB c cl) now c.pf.length (m + 1) p f)) (dB (lookF (hlB c cl) now c.pf.length (m + 1) p f).isSome) := by
  have n2 := hc.n2
  have pfl := sps_len c.pf
  have hlk := look_succ (hlB c cl) now c.pf.length m p f
  generalize hG : (fun i : Nat => if f ≤ i ∧ now.testBit i = false then (lookF (hlB c cl) now c.pf.length m (p ||| 2 ^ i) (i + 1)).map (i :: ·) else none) = G at hlk
  have hGi : ∀ i : Nat, G i = if f ≤ i ∧ now.testBit i = false then (lookF (hlB c cl) now c.pf.length m (p ||| 2 ^ i) (i + 1)).map (i :: ·) else none := fun i => by rw [← hG]
  clear hG
  have hG0 : ∀ j, j < f → G j = none := fun j hj => by rw [hGi, if_neg (by omega)]
  have hokU : ∀ E e, okUp (hpA c cl now) (upA c cl now L E e) = true := by
    intro E e
    skip
    cases E <;> simp [okUp, hpA, upA]
  have hup : ∀ r, lookF (hlB c cl) now c.pf.length (m + 1) p f = some r → lkE (hlB c cl) now c.pf.length (m + 1) p f = r ∧ lkN (hlB c cl) now c.pf.length (m + 1) p f = r.length := fun r hr => by unfold lkE lkN; rw [hr]; exact ⟨rfl, rfl⟩
  have hun : lookF (hlB c cl) now c.pf.length (m + 1) p f = none → lkE (hlB c cl) now c.pf.length (m + 1) p f = stl now c.pf.length (m + 1) f ∧ lkN (hlB c cl) now c.pf.length (m + 1) p f = 0 := fun hr => by unfold lkE lkN; rw [hr]; exact ⟨rfl, rfl⟩
  generalize hEE : lkE (hlB c cl) now c.pf.length (m + 1) p f = EE at *
  generalize hNN : lkN (hlB c cl) now c.pf.length (m + 1) p f = NN at *
  generalize hLL : lookF (hlB c cl) now c.pf.length (m + 1) p f = LL at *
  have em : ((m + 1 : Nat) : Int) - 1 = (m : Int) := by omega
  have hm0 : (((m + 1 : Nat) : Int) == 0) = false := by simp only [beq_eq_false_iff_ne]; omega
  refine krecord_Renew_S1.ac (n0 := 200) (by simp) ⟨.val _, .val _, .val _, .ptr _ _ (by omega), .ptr _ _ (by omega), .ptr _ _ (by omega), .ptr _ _ (by omega), .ptr _ _ (by omega), trivial⟩ ⟨⟨by omega, ca_in c⟩, ⟨by omega, one_in _⟩, ⟨by omega, one_in _⟩, ⟨by omega, by intro d hd; simp at hd; subst hd; exact .val _⟩, ⟨by omega, fn_in⟩, trivial⟩ (hokU EE NN) ?_
  clear hokU
  unfold crecord_Renew_S1 hpA
  (have hg : (987654321 : Nat) - 987654321 = 0 := rfl; have hr := hg; repeat' (first | refine aw_seq ?_ | (refine aw_skip ?_; repeat' (first | with_reducible refine thenQ_n ?_ | with_reducible refine blockQ_n ?_ | with_reducible refine thenQ_e ?_ | with_reducible refine blockQ_t ?_ | with_reducible refine blockQ_f (by decide) ?_)) | (refine aw_exit ?_; repeat' (first | with_reducible refine thenQ_n ?_ | with_reducible refine blockQ_n ?_ | with_reducible refine thenQ_e ?_ | with_reducible refine blockQ_t ?_ | with_reducible refine blockQ_f (by decide) ?_)) | refine aw_ret ?_ | refine aw_block ?_ | refine aw_condT rfl ?_ | refine aw_condF rfl ?_ | ((first | refine aw_hide fun K hK => aw_region ?_ | refine ago_if (by omega) ?_ | skip); simp (config := {maxSteps := 10000000}) (disch := first | exact okYes (by kernel_rfl) | omega) only [List.length, Nat.zero_add, Nat.reduceMul, Nat.reduceAdd, envOf, dI, ARun_none, AOpRun, aexec, FSt.ev, AGo_ok, St.app, putO, eput_c, Nat.reduceBEq, eput_n, cond_false, hups, List.map, ARun_nil, dropE_c, inL_n, dropE_n, St.F, eget_c, ↓eget_h, isSh, Bool.false_eq_true, ↓reduceIte, Option.map, abin, hm0, inL_c, beq_self_eq_true, cond_true, dB, Option.isSome]) | (subst hK; repeat' (first | with_reducible refine thenQ_n ?_ | with_reducible refine blockQ_n ?_ | with_reducible refine thenQ_e ?_ | with_reducible refine blockQ_t ?_ | with_reducible refine blockQ_f (by decide) ?_))))
  refine aw_loop (fun i : Nat => match lastK now f i with
    | none => ⟨[(0, dI p), (2, dI ((m + 1 : Nat) : Int)), (3, .ptr 0 0), (4, .ptr 8 0), (5, .ptr 16 0), (6, .ptr 24 0), (7, .ptr 32 0), (12, dI i)], [(0, [.list (cls c.cl), .list (sps c.pf)]), (8, [dI cl]), (16, [dI now]), (24, [.val (.slice none 0 0)]), (32, [.fn 88 [] [.ptr 0 0, .ptr 8 0, .ptr 16 0, .ptr 24 0, .ptr 32 0]])], 600⟩
    | some j => ⟨[(0, dI p), (2, dI ((m + 1 : Nat) : Int)), (3, .ptr 0 0), (4, .ptr 8 0), (5, .ptr 16 0), (6, .ptr 24 0), (7, .ptr 32 0), (12, dI i)], [(0, [.list (cls c.cl), .list (sps c.pf)]), (8, [dI cl]), (16, [dI now]), (24, [.vec 500 L.length 1]), (32, [.fn 88 [] [.ptr 0 0, .ptr 8 0, .ptr 16 0, .ptr 24 0, .ptr 32 0]]), (500, icells (L ++ ci (j :: stl now c.pf.length m (j + 1))))], 600⟩) (fun i => f ≤ i ∧ (i ≤ c.pf.length ∨ i = f) ∧ ∀ j, j < i → G j = none) (fun i => c.pf.length - i) ⟨f, ⟨Nat.le_refl _, .inr rfl, hG0⟩, ?_⟩ ?_
  · show Wk _ _ (match lastK now f f with
    | none => _
    | some j => _)
    rw [last_none (Nat.le_refl f)]
    unfold dI
    refine wk_to [] [(0, 0), (8, 8), (16, 16), (24, 24), (32, 32)] (by kernel_rfl) (by kernel_rfl) (by kernel_rfl) (by kernel_rfl) (by kernel_rfl) ?_ ?_ <;> repeat' (first | exact trivial | exact vr_val _ | exact vr_list _ | exact vr_ptr _ _ _ rfl | apply vr_fn | refine And.intro ⟨_, rfl, .inl ⟨_, rfl, by decide, ?_⟩⟩ ?_ | apply And.intro)
  rintro i ⟨hfi, hif, hin⟩
  by_cases hi2 : i < c.pf.length
  case neg =>
    have hl : lastK now f i = lastK now f c.pf.length := by
      rcases (by omega : i = c.pf.length ∨ (i = f ∧ c.pf.length ≤ f)) with rfl | ⟨rfl, h⟩
      · rfl
      · rw [last_none (Nat.le_refl _), last_none h]
    rw [hl]
    have hgn : LL = none := by rw [hlk]; exact first_none fun j hj => hin j (by omega)
    obtain ⟨e1, e2⟩ := hun hgn
    rw [e1, e2, hgn]
    clear e1 e2 hgn hEE hNN hLL hup hun hlk hGi hG0 hin ih
    have ki : decide ((i : Int) < (c.pf.length : Int)) = false := decide_eq_false (by omega)
    cases hk : lastK now f c.pf.length with
    | none =>
      have hs : stl now c.pf.length (m + 1) f = [] := by rw [stl, hk]
      rw [hs]
      dsimp only [upA, Option.isSome_none]
      (have hg : (987654321 : Nat) - 987654321 = 0 := rfl; have hr := hg; repeat' (first | refine aw_seq ?_ | (refine aw_skip ?_; repeat' (first | with_reducible refine thenQ_n ?_ | with_reducible refine blockQ_n ?_ | with_reducible refine thenQ_e ?_ | with_reducible refine blockQ_t ?_ | with_reducible refine blockQ_f (by decide) ?_)) | (refine aw_exit ?_; repeat' (first | with_reducible refine thenQ_n ?_ | with_reducible refine blockQ_n ?_ | with_reducible refine thenQ_e ?_ | with_reducible refine blockQ_t ?_ | with_reducible refine blockQ_f (by decide) ?_)) | refine aw_ret ?_ | refine aw_block ?_ | refine aw_condT rfl ?_ | refine aw_condF rfl ?_ | ((first | refine aw_hide fun K hK => aw_region ?_ | refine ago_if (by omega) ?_ | skip); simp (config := {maxSteps := 10000000}) (disch := first | exact okYes (by kernel_rfl) | omega) only [List.length, Nat.zero_add, Nat.reduceAdd, Nat.reduceMul, dI, ARun_none, AOpRun, aexec, FSt.ev, St.F, eget_c, Nat.reduceBEq, ↓eget_h, cond_false, AGo_ok, St.app, putO, eput_c, eput_n, hups, List.map, Option.map, run1, hget_c, beq_self_eq_true, hget_n, cond_true, List.getElem?_cons_succ, List.getElem?_cons_zero, pfl, isSh, Bool.false_eq_true, ↓reduceIte, abin, ki, ARun_nil, dropE_c, inL_c, inL_n, dropE_n]) | (subst hK; repeat' (first | with_reducible refine thenQ_n ?_ | with_reducible refine blockQ_n ?_ | with_reducible refine thenQ_e ?_ | with_reducible refine blockQ_t ?_ | with_reducible refine blockQ_f (by decide) ?_))))
      refine end_to [] [(0, 0), (8, 8), (16, 16), (24, 24), (32, 32)] (by first | exact .inl rfl | exact .inr rfl) rfl (by kernel_rfl) (by kernel_rfl) (by kernel_rfl) ?_ ?_ <;> repeat' (first | exact trivial | exact vr_val _ | exact vr_list _ | exact vr_ptr _ _ _ rfl | apply vr_fn | refine And.intro ⟨_, rfl, _, rfl, by decide, ?_⟩ ?_ | apply And.intro)
    | some j =>
      have hs : stl now c.pf.length (m + 1) f = j :: stl now c.pf.length m (j + 1) := by rw [stl, hk]
      rw [hs]
      dsimp only [upA, Option.isSome_none]
      rw [Nat.add_zero]
      generalize stl now c.pf.length m (j + 1) = Z at *
      have hcin := icells_in (L ++ ci (j :: Z))
      (have hg : (987654321 : Nat) - 987654321 = 0 := rfl; have hr := hg; repeat' (first | refine aw_seq ?_ | (refine aw_skip ?_; repeat' (first | with_reducible refine thenQ_n ?_ | with_reducible refine blockQ_n ?_ | with_reducible refine thenQ_e ?_ | with_reducible refine blockQ_t ?_ | with_reducible refine blockQ_f (by decide) ?_)) | (refine aw_exit ?_; repeat' (first | with_reducible refine thenQ_n ?_ | with_reducible refine blockQ_n ?_ | with_reducible refine thenQ_e ?_ | with_reducible refine blockQ_t ?_ | with_reducible refine blockQ_f (by decide) ?_)) | refine aw_ret ?_ | refine aw_block ?_ | refine aw_condT rfl ?_ | refine aw_condF rfl ?_ | ((first | refine aw_hide fun K hK => aw_region ?_ | refine ago_if (by omega) ?_ | skip); simp (config := {maxSteps := 10000000}) (disch := first | exact okYes (by kernel_rfl) | omega) only [List.length, Nat.zero_add, Nat.reduceAdd, Nat.reduceMul, dI, ARun_none, AOpRun, aexec, FSt.ev, St.F, eget_c, Nat.reduceBEq, ↓eget_h, cond_false, AGo_ok, St.app, putO, eput_c, eput_n, hups, List.map, Option.map, run1, hget_c, beq_self_eq_true, hget_n, cond_true, List.getElem?_cons_succ, List.getElem?_cons_zero, pfl, isSh, Bool.false_eq_true, ↓reduceIte, abin, ki, ARun_nil, dropE_c, inL_c, inL_n, dropE_n]) | (subst hK; repeat' (first | with_reducible refine thenQ_n ?_ | with_reducible refine blockQ_n ?_ | with_reducible refine thenQ_e ?_ | with_reducible refine blockQ_t ?_ | with_reducible refine blockQ_f (by decide) ?_))))
      refine end_to [] [(0, 0), (8, 8), (16, 16), (24, 24), (32, 32), (296, 500)] (by first | exact .inl rfl | exact .inr rfl) rfl (by kernel_rfl) (by kernel_rfl) (by kernel_rfl) ?_ ?_ <;> repeat' (first | exact trivial | exact vr_val _ | exact vr_list _ | exact vr_vec _ _ _ _ rfl | exact vr_ptr _ _ _ rfl | apply vr_fn | refine And.intro ⟨_, rfl, _, rfl, by decide, ?_⟩ ?_ | apply And.intro | exact vrl_flat _ (by first | exact icells_in _ | exact rcells_in _ | exact scells_in _ | exact bcells_in _ | assumption))
  have hno : now.testBit i = true → G i = none := fun h => by rw [hGi, if_neg (by simp [h])]
  have hin1 : G i = none → ∀ j, j < i + 1 → G j = none := fun h j hj => by
    rcases (by omega : j < i ∨ j = i) with h1 | rfl
    · exact hin j h1
    · exact h
  have ki : (i : Int) < (c.pf.length : Int) := by omega
  have w := phas_ac now i hnow (by omega)
  have w2 := pwith_ac p i hp (by omega)
  cases hb : now.testBit i with
  | true =>
    rw [hb] at w
    have hl1 : lastK now f (i + 1) = lastK now f i := by
      show (if _ then _ else _) = _
      rw [if_neg (by simp [hb])]
    have hnx := hin1 (hno hb)
    clear hEE hNN hLL hup hun hlk hGi hG0 hin ih
    cases hk : lastK now f i with
    | none =>
      dsimp only
      (have hg : (987654321 : Nat) - 987654321 = 0 := rfl; have hr := hg; repeat' (first | refine aw_seq ?_ | (refine aw_skip ?_; repeat' (first | with_reducible refine thenQ_n ?_ | with_reducible refine blockQ_n ?_ | with_reducible refine thenQ_e ?_ | with_reducible refine blockQ_t ?_ | with_reducible refine blockQ_f (by decide) ?_)) | (refine aw_exit ?_; repeat' (first | with_reducible refine thenQ_n ?_ | with_reducible refine blockQ_n ?_ | with_reducible refine thenQ_e ?_ | with_reducible refine blockQ_t ?_ | with_reducible refine blockQ_f (by decide) ?_)) | refine aw_ret ?_ | refine aw_block ?_ | refine aw_condT rfl ?_ | refine aw_condF rfl ?_ | ((first | refine aw_hide fun K hK => aw_region ?_ | refine acall0 (w) ?_ | refine ago_if (by omega) ?_ | skip); simp (config := {maxSteps := 10000000}) (disch := first | exact okYes (by kernel_rfl) | omega) only [List.length, Nat.zero_add, Nat.reduceAdd, Nat.reduceMul, dI, ARun_none, AOpRun, aexec, FSt.ev, St.F, eget_c, Nat.reduceBEq, ↓eget_h, cond_false, AGo_ok, St.app, putO, eput_c, eput_n, hups, List.map, Option.map, run1, hget_c, beq_self_eq_true, hget_n, cond_true, List.getElem?_cons_succ, List.getElem?_cons_zero, pfl, isSh, Bool.false_eq_true, ↓reduceIte, abin, ki, decide_true, ARun_nil, dropE_c, inL_c, inL_n, dropE_n, ↓hget_h, dB, fits]) | (subst hK; repeat' (first | with_reducible refine thenQ_n ?_ | with_reducible refine blockQ_n ?_ | with_reducible refine thenQ_e ?_ | with_reducible refine blockQ_t ?_ | with_reducible refine blockQ_f (by decide) ?_))))
      refine ⟨i + 1, ⟨by omega, .inl (by omega), hnx⟩, by omega, ?_⟩
      rw [hl1, hk]
      refine wk_to [] [(0, 0), (8, 8), (16, 16), (24, 24), (32, 32)] (by kernel_rfl) (by kernel_rfl) (by kernel_rfl) (by kernel_rfl) (by kernel_rfl) ?_ ?_ <;> repeat' (first | exact trivial | exact vr_val _ | exact vr_list _ | exact vr_ptr _ _ _ rfl | apply vr_fn | refine And.intro ⟨_, rfl, .inl ⟨_, rfl, by decide, ?_⟩⟩ ?_ | apply And.intro)
    | some j =>
      dsimp only
      generalize hC : L ++ ci (j :: stl now c.pf.length m (j + 1)) = C at *
      have hcin := icells_in C
      (have hg : (987654321 : Nat) - 987654321 = 0 := rfl; have hr := hg; repeat' (first | refine aw_seq ?_ | (refine aw_skip ?_; repeat' (first | with_reducible refine thenQ_n ?_ | with_reducible refine blockQ_n ?_ | with_reducible refine thenQ_e ?_ | with_reducible refine blockQ_t ?_ | with_reducible refine blockQ_f (by decide) ?_)) | (refine aw_exit ?_; repeat' (first | with_reducible refine thenQ_n ?_ | with_reducible refine blockQ_n ?_ | with_reducible refine thenQ_e ?_ | with_reducible refine blockQ_t ?_ | with_reducible refine blockQ_f (by decide) ?_)) | refine aw_ret ?_ | refine aw_block ?_ | refine aw_condT rfl ?_ | refine aw_condF rfl ?_ | ((first | refine aw_hide fun K hK => aw_region ?_ | refine acall0 (w) ?_ | refine ago_if (by omega) ?_ | skip); simp (config := {maxSteps := 10000000}) (disch := first | exact okYes (by kernel_rfl) | omega) only [List.length, Nat.zero_add, Nat.reduceAdd, Nat.reduceMul, dI, ARun_none, AOpRun, aexec, FSt.ev, St.F, eget_c, Nat.reduceBEq, ↓eget_h, cond_false, AGo_ok, St.app, putO, eput_c, eput_n, hups, List.map, Option.map, run1, hget_c, beq_self_eq_true, hget_n, cond_true, List.getElem?_cons_succ, List.getElem?_cons_zero, pfl, isSh, Bool.false_eq_true, ↓reduceIte, abin, ki, decide_true, ARun_nil, dropE_c, inL_c, inL_n, dropE_n, ↓hget_h, dB, fits]) | (subst hK; repeat' (first | with_reducible refine thenQ_n ?_ | with_reducible refine blockQ_n ?_ | with_reducible refine thenQ_e ?_ | with_reducible refine blockQ_t ?_ | with_reducible refine blockQ_f (by decide) ?_))))
      refine ⟨i + 1, ⟨by omega, .inl (by omega), hnx⟩, by omega, ?_⟩
      rw [hl1, hk]
      dsimp only
      rw [hC]
      refine wk_to [] [(0, 0), (8, 8), (16, 16), (24, 24), (32, 32), (500, 500)] (by kernel_rfl) (by kernel_rfl) (by kernel_rfl) (by kernel_rfl) (by kernel_rfl) ?_ ?_ <;> repeat' (first | exact trivial | exact vr_val _ | exact vr_list _ | exact vr_vec _ _ _ _ rfl | exact vr_ptr _ _ _ rfl | apply vr_fn | refine And.intro ⟨_, rfl, .inl ⟨_, rfl, by decide, ?_⟩⟩ ?_ | apply And.intro | exact vrl_flat _ (by first | exact icells_in _ | exact rcells_in _ | exact scells_in _ | exact bcells_in _ | assumption))
  | false =>
  rw [hb] at w
  have hl1 : lastK now f (i + 1) = some i := by
    show (if _ then _ else _) = _
    rw [if_pos ⟨hfi, hb⟩]
  have hGp : G i = (lookF (hlB c cl) now c.pf.length m (p ||| 2 ^ i) (i + 1)).map (i :: ·) := by rw [hGi, if_pos ⟨hfi, hb⟩]
  have ihx := ih (p ||| 2 ^ i) (i + 1) (L ++ [(i : Int)]) [] (or_lt hp (by omega)) (by rw [List.length_append, List.length_singleton]; omega) (by simp)
  unfold hpB at ihx
  rw [List.append_nil, ← ic_app, show ((i + 1 : Nat) : Int) = (i : Int) + 1 by omega] at ihx
  rw [show (L ++ [(i : Int)]).length = L.length + 1 by simp] at ihx
  have hct : ∀ K : List Int, (icells (L ++ K)).take L.length = icells L := fun K => by
    unfold icells
    rw [List.map_append, List.take_append_of_le_length (by simp), List.take_of_length_le (by simp)]
  have hle : ∀ K : List Int, L.length ≤ (icells (L ++ K)).length := fun K => by rw [icells_len, List.length_append]; omega
  have hlf : (icells L).all D.leaf = true := icells_leaf L
  have hin2 : ∀ y ∈ icells L ++ [.val (.int .i64 (i : Int))], In (fun _ => False) y := by rw [ic_app]; exact icells_in _
  clear hGi hG0 hno ih
  cases hk : lastK now f i
  all_goals dsimp only
  case' some j =>
    have hct := hct (ci (j :: stl now c.pf.length m (j + 1)))
    have hle := hle (ci (j :: stl now c.pf.length m (j + 1)))
    have hcin := icells_in (L ++ ci (j :: stl now c.pf.length m (j + 1)))
    generalize icells (L ++ ci (j :: stl now c.pf.length m (j + 1))) = CK at *
  all_goals
    clear hk
    refine aw_seq (aw_seq (aw_region ?_))
    simp (config := {maxSteps := 10000000}) (disch := first | exact okYes (by kernel_rfl) | omega) only [thenQ, dI, List.length, Nat.zero_add, Nat.reduceAdd, Nat.reduceMul, ARun_none, AOpRun, aexec, FSt.ev, St.F, eget_c, Nat.reduceBEq, ↓eget_h, cond_false, AGo_ok, St.app, putO, eput_c, eput_n, hups, List.map, Option.map, run1, hget_c, beq_self_eq_true, hget_n, cond_true, List.getElem?_cons_succ, List.getElem?_cons_zero, pfl, isSh, Bool.false_eq_true, ↓reduceIte, abin, ki, decide_true, ARun_nil, dropE_c, inL_c, inL_n, dropE_n]
    refine aw_condT rfl (aw_skip ?_)
    refine aw_seq (aw_block (aw_seq (aw_seq (aw_region ?_))))
    simp (config := {maxSteps := 10000000}) (disch := first | exact okYes (by kernel_rfl) | omega) only [thenQ, List.length, Nat.zero_add, Nat.reduceAdd, Nat.reduceMul, ARun_none, AOpRun, aexec, Option.map, run1, FSt.ev, St.F, eget_c, Nat.reduceBEq, ↓eget_h, cond_false, hget_c, ↓hget_h, List.getElem?_cons_zero, AGo_ok, St.app, putO, eput_c, eput_n, hups, List.map]
    refine acall0 w ?_
    simp (config := {maxSteps := 10000000}) (disch := first | exact okYes (by kernel_rfl) | omega) only [Nat.reduceAdd, St.app, putO, dB, eput_c, Nat.reduceBEq, eput_n, cond_false, hups, ARun_nil, dropE_c, inL_c, inL_n, beq_self_eq_true, cond_true, dropE_n]
    refine aw_condF rfl (aw_skip ?_)
    refine aw_seq (aw_region ?_)
    simp (config := {maxSteps := 10000000}) (disch := first | exact okYes (by kernel_rfl) | omega) only [thenQ, List.length, Nat.zero_add, Nat.reduceAdd, Nat.reduceMul, ARun_none, AOpRun, aexec, Option.map, run1, FSt.ev, St.F, eget_c, Nat.reduceBEq, ↓eget_h, cond_false, hget_c, ↓hget_h, List.getElem?_cons_zero, AGo_ok, St.app, putO, eput_c, eput_n, hups, List.map, Option.isSome, hget_n, Bool.false_eq_true, ↓reduceIte, fillD, D.isBot, D.cells, ne_eq, not_true_eq_false, Nat.reduceGT, or_self, splice, List.take, List.nil_append, List.drop, List.append_nil, hput_c, hput_n, base, Nat.mul_one, hle, and_self, hct, elems, Nat.reduceLeDiff, List.all, D.leaf, Bool.and_true, and_true, ups, List.cons_append]
    refine ago_if (by omega) ?_
    simp (config := {maxSteps := 10000000}) (disch := first | exact okYes (by kernel_rfl) | omega) only [AGo_ok, Nat.reduceAdd, St.app, putO, eput_c, Nat.reduceBEq, eput_n, cond_false, hups, hput_c, hput_n, hdel_c, beq_self_eq_true, hdel_n, cond_true, List.map, ARun_none, AOpRun, aexec, FSt.ev, St.F, eget_c, ↓eget_h, hget_c, ↓hget_h, D.isBot, D.cells, List.length, Nat.zero_add, Nat.reduceLeDiff, List.all, D.leaf, Bool.and_true, and_self, ↓reduceIte, splice, List.take, List.nil_append, List.drop, List.append_nil, ARun_nil, dropE_c, inL_c, inL_n, dropE_n]
  all_goals
    refine aw_wk (s' := ⟨[(0, dI p), (2, dI ((m + 1 : Nat) : Int)), (3, .ptr 0 0), (4, .ptr 8 0), (5, .ptr 16 0), (6, .ptr 24 0), (7, .ptr 32 0), (12, dI i)], [(0, [.list (cls c.cl), .list (sps c.pf)]), (8, [dI cl]), (16, [dI now]), (24, [.vec 40 (L.length + 1) 1]), (32, [.fn 88 [] [.ptr 0 0, .ptr 8 0, .ptr 16 0, .ptr 24 0, .ptr 32 0]]), (40, icells L ++ [.val (.int .i64 (i : Int))])], 232⟩) ?_ ?_
    · subst hL
      unfold dI
      refine wk_to [] [(0, 0), (8, 8), (16, 16), (24, 24), (32, 32), (40, 688)] (by kernel_rfl) (by kernel_rfl) (by kernel_rfl) (by kernel_rfl) (by kernel_rfl) ?_ ?_ <;> repeat' (first | exact trivial | exact vr_val _ | exact vr_list _ | exact vr_vec _ _ _ _ rfl | exact vr_ptr _ _ _ rfl | apply vr_fn | refine And.intro ⟨_, rfl, .inl ⟨_, rfl, by decide, ?_⟩⟩ ?_ | apply And.intro)
  all_goals
    have hlen : (L ++ [(i : Int)]).length = L.length + 1 := by simp
    clear hif
    cases hr : lookF (hlB c cl) now c.pf.length m (p ||| 2 ^ i) (i + 1) with
    | some r =>
      have hLs : LL = some (i :: r) := by rw [hlk]; exact first_some hi2 hin (by rw [hGp, hr]; rfl)
      obtain ⟨e1, e2⟩ := hup _ hLs
      have x1 : lkE (hlB c cl) now c.pf.length m (p ||| 2 ^ i) (i + 1) = r := by unfold lkE; rw [hr]
      have x2 : lkN (hlB c cl) now c.pf.length m (p ||| 2 ^ i) (i + 1) = r.length := by unfold lkN; rw [hr]
      rw [hr, x1, x2] at ihx
      rw [e1, e2, hLs]
      clear e1 e2 hLs x1 x2 hr hup hun hlk hEE hNN hLL hGp hin1 hin w
      cases r with
      | nil =>
        dsimp only [upB, upA, Option.isSome_some] at ihx ⊢
        rw [hlen, List.append_nil, ← ic_app] at ihx
        have hc1 : icells (L ++ ci [i]) = icells L ++ [.val (.int .i64 (i : Int))] := by rw [ic_app]; rfl
        rw [hc1]
        (have hg : (987654321 : Nat) - 987654321 = 0 := rfl; have hr := hg; repeat' (first | refine aw_seq ?_ | (refine aw_skip ?_; repeat' (first | with_reducible refine thenQ_n ?_ | with_reducible refine blockQ_n ?_ | with_reducible refine thenQ_e ?_ | with_reducible refine blockQ_t ?_ | with_reducible refine blockQ_f (by decide) ?_)) | (refine aw_exit ?_; repeat' (first | with_reducible refine thenQ_n ?_ | with_reducible refine blockQ_n ?_ | with_reducible refine thenQ_e ?_ | with_reducible refine blockQ_t ?_ | with_reducible refine blockQ_f (by decide) ?_)) | refine aw_ret ?_ | refine aw_block ?_ | refine aw_condT rfl ?_ | refine aw_condF rfl ?_ | ((first | refine aw_hide fun K hK => aw_region ?_ | refine acall0 (w2) ?_ | refine acallB (ihx) (by repeat' (first | exact trivial | exact rfl | refine And.intro ?_ ?_)) (by kernel_rfl) (by kernel_rfl) (by kernel_rfl) ?_ | refine ago_if (by omega) ?_ | skip); simp (config := {maxSteps := 10000000}) (disch := first | exact okYes (by kernel_rfl) | omega) only [List.length, Nat.zero_add, Nat.reduceAdd, Nat.reduceMul, dI, ARun_none, AOpRun, aexec, Option.map, run1, FSt.ev, St.F, eget_c, Nat.reduceBEq, ↓eget_h, cond_false, hget_c, ↓hget_h, List.getElem?_cons_zero, AGo_ok, St.app, putO, eput_c, eput_n, hups, List.map, isSh, Bool.false_eq_true, ↓reduceIte, abin, fits, em, dB, hput_c, beq_self_eq_true, hput_n, cond_true, List.append_nil, ARun_nil, dropE_c, inL_c, inL_n, dropE_n, thenQ, blockQ]) | (subst hK; repeat' (first | with_reducible refine thenQ_n ?_ | with_reducible refine blockQ_n ?_ | with_reducible refine thenQ_e ?_ | with_reducible refine blockQ_t ?_ | with_reducible refine blockQ_f (by decide) ?_))))
        refine end_to [] [(0, 0), (8, 8), (16, 16), (24, 24), (32, 32), (296, 40)] (by first | exact .inl rfl | exact .inr rfl) rfl (by kernel_rfl) (by kernel_rfl) (by kernel_rfl) ?_ ?_ <;> repeat' (first | exact trivial | exact vr_val _ | exact vr_list _ | exact vr_vec _ _ _ _ rfl | exact vr_ptr _ _ _ rfl | apply vr_fn | refine And.intro ⟨_, rfl, _, rfl, by decide, ?_⟩ ?_ | apply And.intro | exact vrl_flat _ (by first | exact icells_in _ | exact rcells_in _ | exact scells_in _ | exact bcells_in _ | assumption))
      | cons x xs =>
        dsimp only [upB, upA, Option.isSome_some] at ihx ⊢
        rw [hlen] at ihx
        have hc1 : icells (L ++ ci (i :: x :: xs)) = icells (L ++ [(i : Int)] ++ ci (x :: xs)) := by rw [ci_cons i, List.append_assoc]
        have hc2 : L.length + (i :: x :: xs).length = L.length + 1 + (x :: xs).length := by simp only [List.length_cons]; omega
        rw [hc1, hc2]
        have hcin3 := icells_in (L ++ [(i : Int)] ++ ci (x :: xs))
        generalize icells (L ++ [(i : Int)] ++ ci (x :: xs)) = CX at *
        generalize (x :: xs).length = N at *
        (have hg : (987654321 : Nat) - 987654321 = 0 := rfl; have hr := hg; repeat' (first | refine aw_seq ?_ | (refine aw_skip ?_; repeat' (first | with_reducible refine thenQ_n ?_ | with_reducible refine blockQ_n ?_ | with_reducible refine thenQ_e ?_ | with_reducible refine blockQ_t ?_ | with_reducible refine blockQ_f (by decide) ?_)) | (refine aw_exit ?_; repeat' (first | with_reducible refine thenQ_n ?_ | with_reducible refine blockQ_n ?_ | with_reducible refine thenQ_e ?_ | with_reducible refine blockQ_t ?_ | with_reducible refine blockQ_f (by decide) ?_)) | refine aw_ret ?_ | refine aw_block ?_ | refine aw_condT rfl ?_ | refine aw_condF rfl ?_ | ((first | refine aw_hide fun K hK => aw_region ?_ | refine acall0 (w2) ?_ | refine acallB (ihx) (by repeat' (first | exact trivial | exact rfl | refine And.intro ?_ ?_)) (by kernel_rfl) (by kernel_rfl) (by kernel_rfl) ?_ | refine ago_if (by omega) ?_ | skip); simp (config := {maxSteps := 10000000}) (disch := first | exact okYes (by kernel_rfl) | omega) only [List.length, Nat.zero_add, Nat.reduceAdd, Nat.reduceMul, dI, ARun_none, AOpRun, aexec, Option.map, run1, FSt.ev, St.F, eget_c, Nat.reduceBEq, ↓eget_h, cond_false, hget_c, ↓hget_h, List.getElem?_cons_zero, AGo_ok, St.app, putO, eput_c, eput_n, hups, List.map, isSh, Bool.false_eq_true, ↓reduceIte, abin, fits, em, dB, hput_c, hput_n, hdel_c, beq_self_eq_true, hdel_n, cond_true, List.append_nil, ARun_nil, dropE_c, inL_c, inL_n, dropE_n, thenQ, blockQ]) | (subst hK; repeat' (first | with_reducible refine thenQ_n ?_ | with_reducible refine blockQ_n ?_ | with_reducible refine thenQ_e ?_ | with_reducible refine blockQ_t ?_ | with_reducible refine blockQ_f (by decide) ?_))))
        refine end_to [] [(0, 0), (8, 8), (16, 16), (24, 24), (32, 32), (296, 296)] (by first | exact .inl rfl | exact .inr rfl) rfl (by kernel_rfl) (by kernel_rfl) (by kernel_rfl) ?_ ?_ <;> repeat' (first | exact trivial | exact vr_val _ | exact vr_list _ | exact vr_vec _ _ _ _ rfl | exact vr_ptr _ _ _ rfl | apply vr_fn | refine And.intro ⟨_, rfl, _, rfl, by decide, ?_⟩ ?_ | apply And.intro | exact vrl_flat _ (by first | exact icells_in _ | exact rcells_in _ | exact scells_in _ | exact bcells_in _ | assumption))
    | none =>
      have hnx := hin1 (by rw [hGp, hr]; rfl)
      have x1 : lkE (hlB c cl) now c.pf.length m (p ||| 2 ^ i) (i + 1) = stl now c.pf.length m (i + 1) := by unfold lkE; rw [hr]
      have x2 : lkN (hlB c cl) now c.pf.length m (p ||| 2 ^ i) (i + 1) = 0 := by unfold lkN; rw [hr]
      rw [hr, x1, x2] at ihx
      clear x1 x2 hr hup hun hlk hEE hNN hLL hGp hin1 hin w
      have s1 : (((L.length + 1 : Nat) : Int) - 1).toNat = L.length := by omega
      have s2 : (0 : Int) ≤ ((L.length + 1 : Nat) : Int) - 1 := by omega
      have s3 : ((L.length + 1 : Nat) : Int) - 1 ≤ ((L.length + 1 : Nat) : Int) := by omega
      cases hs : stl now c.pf.length m (i + 1) with
      | nil =>
        rw [hs] at ihx
        dsimp only [upB, Option.isSome_none] at ihx
        rw [hlen, List.append_nil, ← ic_app] at ihx
        have hc1 : icells (L ++ ci [i]) = icells L ++ [.val (.int .i64 (i : Int))] := by rw [ic_app]; rfl
        (have hg : (987654321 : Nat) - 987654321 = 0 := rfl; have hr := hg; repeat' (first | refine aw_seq ?_ | (refine aw_skip ?_; repeat' (first | with_reducible refine thenQ_n ?_ | with_reducible refine blockQ_n ?_ | with_reducible refine thenQ_e ?_ | with_reducible refine blockQ_t ?_ | with_reducible refine blockQ_f (by decide) ?_)) | (refine aw_exit ?_; repeat' (first | with_reducible refine thenQ_n ?_ | with_reducible refine blockQ_n ?_ | with_reducible refine thenQ_e ?_ | with_reducible refine blockQ_t ?_ | with_reducible refine blockQ_f (by decide) ?_)) | refine aw_ret ?_ | refine aw_block ?_ | refine aw_condT rfl ?_ | refine aw_condF rfl ?_ | ((first | refine aw_hide fun K hK => aw_region ?_ | refine acall0 (w2) ?_ | refine acallB (ihx) (by repeat' (first | exact trivial | exact rfl | refine And.intro ?_ ?_)) (by kernel_rfl) (by kernel_rfl) (by kernel_rfl) ?_ | refine ago_if (by omega) ?_ | skip); simp (config := {maxSteps := 10000000}) (disch := first | exact okYes (by kernel_rfl) | omega) only [List.length, Nat.zero_add, Nat.reduceAdd, Nat.reduceMul, dI, ARun_none, AOpRun, aexec, Option.map, run1, FSt.ev, St.F, eget_c, Nat.reduceBEq, ↓eget_h, cond_false, hget_c, ↓hget_h, List.getElem?_cons_zero, AGo_ok, St.app, putO, eput_c, eput_n, hups, List.map, isSh, Bool.false_eq_true, ↓reduceIte, abin, fits, em, dB, hput_c, beq_self_eq_true, hput_n, cond_true, List.append_nil, ARun_nil, dropE_c, inL_c, inL_n, dropE_n, asI, Int.le_refl, s2, s3, true_or, and_self, s1, D.isBot, D.cells, Nat.reduceLeDiff, List.all, D.leaf, Bool.and_true, splice, List.take, List.nil_append, List.drop]) | (subst hK; repeat' (first | with_reducible refine thenQ_n ?_ | with_reducible refine blockQ_n ?_ | with_reducible refine thenQ_e ?_ | with_reducible refine blockQ_t ?_ | with_reducible refine blockQ_f (by decide) ?_))))
        refine ⟨i + 1, ⟨by omega, .inl (by omega), hnx⟩, by omega, ?_⟩
        rw [hl1]
        dsimp only
        rw [hs, hc1]
        refine wk_to [] [(0, 0), (8, 8), (16, 16), (24, 24), (32, 32), (500, 40)] (by kernel_rfl) (by kernel_rfl) (by kernel_rfl) (by kernel_rfl) (by kernel_rfl) ?_ ?_ <;> repeat' (first | exact trivial | exact vr_val _ | exact vr_list _ | exact vr_vec _ _ _ _ rfl | exact vr_ptr _ _ _ rfl | apply vr_fn | refine And.intro ⟨_, rfl, .inl ⟨_, rfl, by decide, ?_⟩⟩ ?_ | apply And.intro | exact vrl_flat _ (by first | exact icells_in _ | exact rcells_in _ | exact scells_in _ | exact bcells_in _ | assumption))
      | cons x xs =>
        rw [hs] at ihx
        dsimp only [upB, Option.isSome_none] at ihx
        rw [Nat.add_zero, hlen] at ihx
        have hc1 : icells (L ++ ci (i :: x :: xs)) = icells (L ++ [(i : Int)] ++ ci (x :: xs)) := by rw [ci_cons i, List.append_assoc]
        have hcin3 := icells_in (L ++ [(i : Int)] ++ ci (x :: xs))
        generalize icells (L ++ [(i : Int)] ++ ci (x :: xs)) = CX at *
        (have hg : (987654321 : Nat) - 987654321 = 0 := rfl; have hr := hg; repeat' (first | refine aw_seq ?_ | (refine aw_skip ?_; repeat' (first | with_reducible refine thenQ_n ?_ | with_reducible refine blockQ_n ?_ | with_reducible refine thenQ_e ?_ | with_reducible refine blockQ_t ?_ | with_reducible refine blockQ_f (by decide) ?_)) | (refine aw_exit ?_; repeat' (first | with_reducible refine thenQ_n ?_ | with_reducible refine blockQ_n ?_ | with_reducible refine thenQ_e ?_ | with_reducible refine blockQ_t ?_ | with_reducible refine blockQ_f (by decide) ?_)) | refine aw_ret ?_ | refine aw_block ?_ | refine aw_condT rfl ?_ | refine aw_condF rfl ?_ | ((first | refine aw_hide fun K hK => aw_region ?_ | refine acall0 (w2) ?_ | refine acallB (ihx) (by repeat' (first | exact trivial | exact rfl | refine And.intro ?_ ?_)) (by kernel_rfl) (by kernel_rfl) (by kernel_rfl) ?_ | refine ago_if (by omega) ?_ | skip); simp (config := {maxSteps := 10000000}) (disch := first | exact okYes (by kernel_rfl) | omega) only [List.length, Nat.zero_add, Nat.reduceAdd, Nat.reduceMul, dI, ARun_none, AOpRun, aexec, Option.map, run1, FSt.ev, St.F, eget_c, Nat.reduceBEq, ↓eget_h, cond_false, hget_c, ↓hget_h, List.getElem?_cons_zero, AGo_ok, St.app, putO, eput_c, eput_n, hups, List.map, isSh, Bool.false_eq_true, ↓reduceIte, abin, fits, em, dB, hput_c, hput_n, hdel_c, beq_self_eq_true, hdel_n, cond_true, List.append_nil, ARun_nil, dropE_c, inL_c, inL_n, dropE_n, asI, Int.le_refl, s2, s3, true_or, and_self, s1, D.isBot, D.cells, Nat.reduceLeDiff, List.all, D.leaf, Bool.and_true, splice, List.take, List.nil_append, List.drop]) | (subst hK; repeat' (first | with_reducible refine thenQ_n ?_ | with_reducible refine blockQ_n ?_ | with_reducible refine thenQ_e ?_ | with_reducible refine blockQ_t ?_ | with_reducible refine blockQ_f (by decide) ?_))))
        refine ⟨i + 1, ⟨by omega, .inl (by omega), hnx⟩, by omega, ?_⟩
        rw [hl1]
        dsimp only
        rw [hs, hc1]
        refine wk_to [] [(0, 0), (8, 8), (16, 16), (24, 24), (32, 32), (500, 296)] (by kernel_rfl) (by kernel_rfl) (by kernel_rfl) (by kernel_rfl) (by kernel_rfl) ?_ ?_ <;> repeat' (first | exact trivial | exact vr_val _ | exact vr_list _ | exact vr_vec _ _ _ _ rfl | exact vr_ptr _ _ _ rfl | apply vr_fn | refine And.intro ⟨_, rfl, .inl ⟨_, rfl, by decide, ?_⟩⟩ ?_ | apply And.intro | exact vrl_flat _ (by first | exact icells_in _ | exact rcells_in _ | exact scells_in _ | exact bcells_in _ | assumption))
end Go.Proofs.Ytdcodicoclecnaa
/- record: a round of the search for proofs to renew, walked. No conditions. -/
set_option linter.unusedSimpArgs false
set_option linter.unusedVariables false
namespace Go.Proofs.Ytdcodicoclecnaa
open Go Go.RowKit Lift

set_option maxRecDepth 100000 in
set_option maxHeartbeats 8000000 in
theorem lookB_succ (c : Cas) (hc : CasOk c) (cl : Nat) (hcl : cl < c.cl.length) (now : Nat) (hnow : now < 4096) (m : Nat) (ih : ∀ (p f : Nat) (L J : List Int), p < 4096 → L.length + m ≤ 1000 → L ++ J ≠ [] → AC Try.prog 88 [dI p, dI f, dI m, .ptr 0 0, .ptr 8 0, .ptr 16 0, .ptr 24 0, .ptr 32 0] (hpB c cl now 48 L J) (upB c cl now 48 L J (lkE (hlB c cl) now c.pf.length m p f) (lkN (hlB c cl) now c.pf.length m p f)) (dB (lookF (hlB c cl) now c.pf.length m p f).isSome)) (p f : Nat) (L J : List Int) (hp : p < 4096) (hLm : L.length + (m + 1) ≤ 1000) (hne : L ++ J ≠ []) : AC Try.prog 88 [dI p, dI f, dI ((m + 1 : Nat) : Int), .ptr 0 0, .ptr 8 0, .ptr 16 0, .ptr 24 0, .ptr 32 0] (hpB c cl now 40 L J) (upB c cl now 40 L J (lkE (hlB c cl) now c.pf.length (m + 1) p f) (lkN (hlB c cl) now c.pf.length (m + 1) p f)) (dB (lookF (hlB c cl) now c.pf.length (m + 1) p f).isSome) := by
  have n2 := hc.n2
  have pfl := sps_len c.pf
  have hlk := look_succ (hlB c cl) now c.pf.length m p f
  generalize hG : (fun i : Nat => if f ≤ i ∧ now.testBit i = false then (lookF (hlB c cl) now c.pf.length m (p ||| 2 ^ i) (i + 1)).map (i :: ·) else none) = G at hlk
  have hGi : ∀ i : Nat, G i = if f ≤ i ∧ now.testBit i = false then (lookF (hlB c cl) now c.pf.length m (p ||| 2 ^ i) (i + 1)).map (i :: ·) else none := fun i => by rw [← hG]
  clear hG
  have hG0 : ∀ j, j < f → G j = none := fun j hj => by rw [hGi, if_neg (by omega)]
  have hokU : ∀ E e, okUp (hpB c cl now 40 L J) (upB c cl now 40 L J E e) = true := by
    intro E e
    have hie := ic_ne hne
    cases E <;> simp [okUp, hpB, upB, hie]
  have hup : ∀ r, lookF (hlB c cl) now c.pf.length (m + 1) p f = some r → lkE (hlB c cl) now c.pf.length (m + 1) p f = r ∧ lkN (hlB c cl) now c.pf.length (m + 1) p f = r.length := fun r hr => by unfold lkE lkN; rw [hr]; exact ⟨rfl, rfl⟩
  have hun : lookF (hlB c cl) now c.pf.length (m + 1) p f = none → lkE (hlB c cl) now c.pf.length (m + 1) p f = stl now c.pf.length (m + 1) f ∧ lkN (hlB c cl) now c.pf.length (m + 1) p f = 0 := fun hr => by unfold lkE lkN; rw [hr]; exact ⟨rfl, rfl⟩
  generalize hEE : lkE (hlB c cl) now c.pf.length (m + 1) p f = EE at *
  generalize hNN : lkN (hlB c cl) now c.pf.length (m + 1) p f = NN at *
  generalize hLL : lookF (hlB c cl) now c.pf.length (m + 1) p f = LL at *
  have em : ((m + 1 : Nat) : Int) - 1 = (m : Int) := by omega
  have hm0 : (((m + 1 : Nat) : Int) == 0) = false := by simp only [beq_eq_false_iff_ne]; omega
  refine krecord_Renew_S1.ac (n0 := 200) (by simp) ⟨.val _, .val _, .val _, .ptr _ _ (by omega), .ptr _ _ (by omega), .ptr _ _ (by omega), .ptr _ _ (by omega), .ptr _ _ (by omega), trivial⟩ ⟨⟨by omega, ca_in c⟩, ⟨by omega, one_in _⟩, ⟨by omega, one_in _⟩, ⟨by omega, by intro d hd; simp at hd; subst hd; exact .vec _ _ _ (by omega)⟩, ⟨by omega, fn_in⟩, ⟨by omega, fun d h => (icells_in _ d h).mono fun _ h => h.elim⟩, trivial⟩ (hokU EE NN) ?_
  clear hokU
  unfold crecord_Renew_S1 hpB
  have hcin0 := icells_in (L ++ J)
  (have hg : (987654321 : Nat) - 987654321 = 0 := rfl; have hr := hg; repeat' (first | refine aw_seq ?_ | (refine aw_skip ?_; repeat' (first | with_reducible refine thenQ_n ?_ | with_reducible refine blockQ_n ?_ | with_reducible refine thenQ_e ?_ | with_reducible refine blockQ_t ?_ | with_reducible refine blockQ_f (by decide) ?_)) | (refine aw_exit ?_; repeat' (first | with_reducible refine thenQ_n ?_ | with_reducible refine blockQ_n ?_ | with_reducible refine thenQ_e ?_ | with_reducible refine blockQ_t ?_ | with_reducible refine blockQ_f (by decide) ?_)) | refine aw_ret ?_ | refine aw_block ?_ | refine aw_condT rfl ?_ | refine aw_condF rfl ?_ | ((first | refine aw_hide fun K hK => aw_region ?_ | refine ago_if (by omega) ?_ | skip); simp (config := {maxSteps := 10000000}) (disch := first | exact okYes (by kernel_rfl) | omega) only [List.length, Nat.zero_add, Nat.reduceMul, Nat.reduceAdd, envOf, dI, ARun_none, AOpRun, aexec, FSt.ev, AGo_ok, St.app, putO, eput_c, Nat.reduceBEq, eput_n, cond_false, hups, List.map, ARun_nil, dropE_c, inL_n, dropE_n, St.F, eget_c, ↓eget_h, isSh, Bool.false_eq_true, ↓reduceIte, Option.map, abin, hm0, inL_c, beq_self_eq_true, cond_true, dB, Option.isSome]) | (subst hK; repeat' (first | with_reducible refine thenQ_n ?_ | with_reducible refine blockQ_n ?_ | with_reducible refine thenQ_e ?_ | with_reducible refine blockQ_t ?_ | with_reducible refine blockQ_f (by decide) ?_))))
  refine aw_loop (fun i : Nat => match lastK now f i with
    | none => ⟨[(0, dI p), (2, dI ((m + 1 : Nat) : Int)), (3, .ptr 0 0), (4, .ptr 8 0), (5, .ptr 16 0), (6, .ptr 24 0), (7, .ptr 32 0), (12, dI i)], [(0, [.list (cls c.cl), .list (sps c.pf)]), (8, [dI cl]), (16, [dI now]), (24, [.vec 40 L.length 1]), (32, [.fn 88 [] [.ptr 0 0, .ptr 8 0, .ptr 16 0, .ptr 24 0, .ptr 32 0]]), (40, icells (L ++ J))], 600⟩
    | some j => ⟨[(0, dI p), (2, dI ((m + 1 : Nat) : Int)), (3, .ptr 0 0), (4, .ptr 8 0), (5, .ptr 16 0), (6, .ptr 24 0), (7, .ptr 32 0), (12, dI i)], [(0, [.list (cls c.cl), .list (sps c.pf)]), (8, [dI cl]), (16, [dI now]), (24, [.vec 500 L.length 1]), (32, [.fn 88 [] [.ptr 0 0, .ptr 8 0, .ptr 16 0, .ptr 24 0, .ptr 32 0]]), (500, icells (L ++ ci (j :: stl now c.pf.length m (j + 1))))], 600⟩) (fun i => f ≤ i ∧ (i ≤ c.pf.length ∨ i = f) ∧ ∀ j, j < i → G j = none) (fun i => c.pf.length - i) ⟨f, ⟨Nat.le_refl _, .inr rfl, hG0⟩, ?_⟩ ?_
  · show Wk _ _ (match lastK now f f with
    | none => _
    | some j => _)
    rw [last_none (Nat.le_refl f)]
    unfold dI
    refine wk_to [] [(0, 0), (8, 8), (16, 16), (24, 24), (32, 32), (40, 40)] (by kernel_rfl) (by kernel_rfl) (by kernel_rfl) (by kernel_rfl) (by kernel_rfl) ?_ ?_ <;> repeat' (first | exact trivial | exact vr_val _ | exact vr_list _ | exact vr_vec _ _ _ _ rfl | exact vr_ptr _ _ _ rfl | apply vr_fn | refine And.intro ⟨_, rfl, .inl ⟨_, rfl, by decide, ?_⟩⟩ ?_ | apply And.intro | exact vrl_flat _ (by first | exact icells_in _ | exact rcells_in _ | exact scells_in _ | exact bcells_in _ | assumption))
  rintro i ⟨hfi, hif, hin⟩
  by_cases hi2 : i < c.pf.length
  case neg =>
    have hl : lastK now f i = lastK now f c.pf.length := by
      rcases (by omega : i = c.pf.length ∨ (i = f ∧ c.pf.length ≤ f)) with rfl | ⟨rfl, h⟩
      · rfl
      · rw [last_none (Nat.le_refl _), last_none h]
    rw [hl]
    have hgn : LL = none := by rw [hlk]; exact first_none fun j hj => hin j (by omega)
    obtain ⟨e1, e2⟩ := hun hgn
    rw [e1, e2, hgn]
    clear e1 e2 hgn hEE hNN hLL hup hun hlk hGi hG0 hin ih
    have ki : decide ((i : Int) < (c.pf.length : Int)) = false := decide_eq_false (by omega)
    cases hk : lastK now f c.pf.length with
    | none =>
      have hs : stl now c.pf.length (m + 1) f = [] := by rw [stl, hk]
      rw [hs]
      dsimp only [upB, Option.isSome_none]
      (have hg : (987654321 : Nat) - 987654321 = 0 := rfl; have hr := hg; repeat' (first | refine aw_seq ?_ | (refine aw_skip ?_; repeat' (first | with_reducible refine thenQ_n ?_ | with_reducible refine blockQ_n ?_ | with_reducible refine thenQ_e ?_ | with_reducible refine blockQ_t ?_ | with_reducible refine blockQ_f (by decide) ?_)) | (refine aw_exit ?_; repeat' (first | with_reducible refine thenQ_n ?_ | with_reducible refine blockQ_n ?_ | with_reducible refine thenQ_e ?_ | with_reducible refine blockQ_t ?_ | with_reducible refine blockQ_f (by decide) ?_)) | refine aw_ret ?_ | refine aw_block ?_ | refine aw_condT rfl ?_ | refine aw_condF rfl ?_ | ((first | refine aw_hide fun K hK => aw_region ?_ | refine ago_if (by omega) ?_ | skip); simp (config := {maxSteps := 10000000}) (disch := first | exact okYes (by kernel_rfl) | omega) only [List.length, Nat.zero_add, Nat.reduceAdd, Nat.reduceMul, dI, ARun_none, AOpRun, aexec, FSt.ev, St.F, eget_c, Nat.reduceBEq, ↓eget_h, cond_false, AGo_ok, St.app, putO, eput_c, eput_n, hups, List.map, Option.map, run1, hget_c, beq_self_eq_true, hget_n, cond_true, List.getElem?_cons_succ, List.getElem?_cons_zero, pfl, isSh, Bool.false_eq_true, ↓reduceIte, abin, ki, ARun_nil, dropE_c, inL_c, inL_n, dropE_n]) | (subst hK; repeat' (first | with_reducible refine thenQ_n ?_ | with_reducible refine blockQ_n ?_ | with_reducible refine thenQ_e ?_ | with_reducible refine blockQ_t ?_ | with_reducible refine blockQ_f (by decide) ?_))))
      refine end_to [] [(0, 0), (8, 8), (16, 16), (24, 24), (32, 32), (40, 40)] (by first | exact .inl rfl | exact .inr rfl) rfl (by kernel_rfl) (by kernel_rfl) (by kernel_rfl) ?_ ?_ <;> repeat' (first | exact trivial | exact vr_val _ | exact vr_list _ | exact vr_vec _ _ _ _ rfl | exact vr_ptr _ _ _ rfl | apply vr_fn | refine And.intro ⟨_, rfl, _, rfl, by decide, ?_⟩ ?_ | apply And.intro | exact vrl_flat _ (by first | exact icells_in _ | exact rcells_in _ | exact scells_in _ | exact bcells_in _ | assumption))
    | some j =>
      have hs : stl now c.pf.length (m + 1) f = j :: stl now c.pf.length m (j + 1) := by rw [stl, hk]
      rw [hs]
      dsimp only [upB, Option.isSome_none]
      rw [Nat.add_zero]
      generalize stl now c.pf.length m (j + 1) = Z at *
      have hcin := icells_in (L ++ ci (j :: Z))
      (have hg : (987654321 : Nat) - 987654321 = 0 := rfl; have hr := hg; repeat' (first | refine aw_seq ?_ | (refine aw_skip ?_; repeat' (first | with_reducible refine thenQ_n ?_ | with_reducible refine blockQ_n ?_ | with_reducible refine thenQ_e ?_ | with_reducible refine blockQ_t ?_ | with_reducible refine blockQ_f (by decide) ?_)) | (refine aw_exit ?_; repeat' (first | with_reducible refine thenQ_n ?_ | with_reducible refine blockQ_n ?_ | with_reducible refine thenQ_e ?_ | with_reducible refine blockQ_t ?_ | with_reducible refine blockQ_f (by decide) ?_)) | refine aw_ret ?_ | refine aw_block ?_ | refine aw_condT rfl ?_ | refine aw_condF rfl ?_ | ((first | refine aw_hide fun K hK => aw_region ?_ | refine ago_if (by omega) ?_ | skip); simp (config := {maxSteps := 10000000}) (disch := first | exact okYes (by kernel_rfl) | omega) only [List.length, Nat.zero_add, Nat.reduceAdd, Nat.reduceMul, dI, ARun_none, AOpRun, aexec, FSt.ev, St.F, eget_c, Nat.reduceBEq, ↓eget_h, cond_false, AGo_ok, St.app, putO, eput_c, eput_n, hups, List.map, Option.map, run1, hget_c, beq_self_eq_true, hget_n, cond_true, List.getElem?_cons_succ, List.getElem?_cons_zero, pfl, isSh, Bool.false_eq_true, ↓reduceIte, abin, ki, ARun_nil, dropE_c, inL_c, inL_n, dropE_n]) | (subst hK; repeat' (first | with_reducible refine thenQ_n ?_ | with_reducible refine blockQ_n ?_ | with_reducible refine thenQ_e ?_ | with_reducible refine blockQ_t ?_ | with_reducible refine blockQ_f (by decide) ?_))))
      refine end_to [] [(0, 0), (8, 8), (16, 16), (24, 24), (32, 32), (40, 40), (296, 500)] (by first | exact .inl rfl | exact .inr rfl) rfl (by kernel_rfl) (by kernel_rfl) (by kernel_rfl) ?_ ?_ <;> repeat' (first | exact trivial | exact vr_val _ | exact vr_list _ | exact vr_vec _ _ _ _ rfl | exact vr_ptr _ _ _ rfl | apply vr_fn | refine And.intro ⟨_, rfl, _, rfl, by decide, ?_⟩ ?_ | apply And.intro | exact vrl_flat _ (by first | exact icells_in _ | exact rcells_in _ | exact scells_in _ | exact bcells_in _ | assumption))
  have hno : now.testBit i = true → G i = none := fun h => by rw [hGi, if_neg (by simp [h])]
  have hin1 : G i = none → ∀ j, j < i + 1 → G j = none := fun h j hj => by
    rcases (by omega : j < i ∨ j = i) with h1 | rfl
    · exact hin j h1
    · exact h
  have ki : (i : Int) < (c.pf.length : Int) := by omega
  have w := phas_ac now i hnow (by omega)
  have w2 := pwith_ac p i hp (by omega)
  cases hb : now.testBit i with
  | true =>
    rw [hb] at w
    have hl1 : lastK now f (i + 1) = lastK now f i := by
      show (if _ then _ else _) = _
      rw [if_neg (by simp [hb])]
    have hnx := hin1 (hno hb)
    clear hEE hNN hLL hup hun hlk hGi hG0 hin ih
    cases hk : lastK now f i with
    | none =>
      dsimp only
      (have hg : (987654321 : Nat) - 987654321 = 0 := rfl; have hr := hg; repeat' (first | refine aw_seq ?_ | (refine aw_skip ?_; repeat' (first | with_reducible refine thenQ_n ?_ | with_reducible refine blockQ_n ?_ | with_reducible refine thenQ_e ?_ | with_reducible refine blockQ_t ?_ | with_reducible refine blockQ_f (by decide) ?_)) | (refine aw_exit ?_; repeat' (first | with_reducible refine thenQ_n ?_ | with_reducible refine blockQ_n ?_ | with_reducible refine thenQ_e ?_ | with_reducible refine blockQ_t ?_ | with_reducible refine blockQ_f (by decide) ?_)) | refine aw_ret ?_ | refine aw_block ?_ | refine aw_condT rfl ?_ | refine aw_condF rfl ?_ | ((first | refine aw_hide fun K hK => aw_region ?_ | refine acall0 (w) ?_ | refine ago_if (by omega) ?_ | skip); simp (config := {maxSteps := 10000000}) (disch := first | exact okYes (by kernel_rfl) | omega) only [List.length, Nat.zero_add, Nat.reduceAdd, Nat.reduceMul, dI, ARun_none, AOpRun, aexec, FSt.ev, St.F, eget_c, Nat.reduceBEq, ↓eget_h, cond_false, AGo_ok, St.app, putO, eput_c, eput_n, hups, List.map, Option.map, run1, hget_c, beq_self_eq_true, hget_n, cond_true, List.getElem?_cons_succ, List.getElem?_cons_zero, pfl, isSh, Bool.false_eq_true, ↓reduceIte, abin, ki, decide_true, ARun_nil, dropE_c, inL_c, inL_n, dropE_n, ↓hget_h, dB, fits]) | (subst hK; repeat' (first | with_reducible refine thenQ_n ?_ | with_reducible refine blockQ_n ?_ | with_reducible refine thenQ_e ?_ | with_reducible refine blockQ_t ?_ | with_reducible refine blockQ_f (by decide) ?_))))
      refine ⟨i + 1, ⟨by omega, .inl (by omega), hnx⟩, by omega, ?_⟩
      rw [hl1, hk]
      refine wk_to [] [(0, 0), (8, 8), (16, 16), (24, 24), (32, 32), (40, 40)] (by kernel_rfl) (by kernel_rfl) (by kernel_rfl) (by kernel_rfl) (by kernel_rfl) ?_ ?_ <;> repeat' (first | exact trivial | exact vr_val _ | exact vr_list _ | exact vr_vec _ _ _ _ rfl | exact vr_ptr _ _ _ rfl | apply vr_fn | refine And.intro ⟨_, rfl, .inl ⟨_, rfl, by decide, ?_⟩⟩ ?_ | apply And.intro | exact vrl_flat _ (by first | exact icells_in _ | exact rcells_in _ | exact scells_in _ | exact bcells_in _ | assumption))
    | some j =>
      dsimp only
      generalize hC : L ++ ci (j :: stl now c.pf.length m (j + 1)) = C at *
      have hcin := icells_in C
      (have hg : (987654321 : Nat) - 987654321 = 0 := rfl; have hr := hg; repeat' (first | refine aw_seq ?_ | (refine aw_skip ?_; repeat' (first | with_reducible refine thenQ_n ?_ | with_reducible refine blockQ_n ?_ | with_reducible refine thenQ_e ?_ | with_reducible refine blockQ_t ?_ | with_reducible refine blockQ_f (by decide) ?_)) | (refine aw_exit ?_; repeat' (first | with_reducible refine thenQ_n ?_ | with_reducible refine blockQ_n ?_ | with_reducible refine thenQ_e ?_ | with_reducible refine blockQ_t ?_ | with_reducible refine blockQ_f (by decide) ?_)) | refine aw_ret ?_ | refine aw_block ?_ | refine aw_condT rfl ?_ | refine aw_condF rfl ?_ | ((first | refine aw_hide fun K hK => aw_region ?_ | refine acall0 (w) ?_ | refine ago_if (by omega) ?_ | skip); simp (config := {maxSteps := 10000000}) (disch := first | exact okYes (by kernel_rfl) | omega) only [List.length, Nat.zero_add, Nat.reduceAdd, Nat.reduceMul, dI, ARun_none, AOpRun, aexec, FSt.ev, St.F, eget_c, Nat.reduceBEq, ↓eget_h, cond_false, AGo_ok, St.app, putO, eput_c, eput_n, hups, List.map, Option.map, run1, hget_c, beq_self_eq_true, hget_n, cond_true, List.getElem?_cons_succ, List.getElem?_cons_zero, pfl, isSh, Bool.false_eq_true, ↓reduceIte, abin, ki, decide_true, ARun_nil, dropE_c, inL_c, inL_n, dropE_n, ↓hget_h, dB, fits]) | (subst hK; repeat' (first | with_reducible refine thenQ_n ?_ | with_reducible refine blockQ_n ?_ | with_reducible refine thenQ_e ?_ | with_reducible refine blockQ_t ?_ | with_reducible refine blockQ_f (by decide) ?_))))
      refine ⟨i + 1, ⟨by omega, .inl (by omega), hnx⟩, by omega, ?_⟩
      rw [hl1, hk]
      dsimp only
      rw [hC]
      refine wk_to [] [(0, 0), (8, 8), (16, 16), (24, 24), (32, 32), (40, 40), (500, 500)] (by kernel_rfl) (by kernel_rfl) (by kernel_rfl) (by kernel_rfl) (by kernel_rfl) ?_ ?_ <;> repeat' (first | exact trivial | exact vr_val _ | exact vr_list _ | exact vr_vec _ _ _ _ rfl | exact vr_ptr _ _ _ rfl | apply vr_fn | refine And.intro ⟨_, rfl, .inl ⟨_, rfl, by decide, ?_⟩⟩ ?_ | apply And.intro | exact vrl_flat _ (by first | exact icells_in _ | exact rcells_in _ | exact scells_in _ | exact bcells_in _ | assumption))
  | false =>
  rw [hb] at w
  have hl1 : lastK now f (i + 1) = some i := by
    show (if _ then _ else _) = _
    rw [if_pos ⟨hfi, hb⟩]
  have hGp : G i = (lookF (hlB c cl) now c.pf.length m (p ||| 2 ^ i) (i + 1)).map (i :: ·) := by rw [hGi, if_pos ⟨hfi, hb⟩]
  have ihx := ih (p ||| 2 ^ i) (i + 1) (L ++ [(i : Int)]) [] (or_lt hp (by omega)) (by rw [List.length_append, List.length_singleton]; omega) (by simp)
  unfold hpB at ihx
  rw [List.append_nil, ← ic_app, show ((i + 1 : Nat) : Int) = (i : Int) + 1 by omega] at ihx
  rw [show (L ++ [(i : Int)]).length = L.length + 1 by simp] at ihx
  have hct : ∀ K : List Int, (icells (L ++ K)).take L.length = icells L := fun K => by
    unfold icells
    rw [List.map_append, List.take_append_of_le_length (by simp), List.take_of_length_le (by simp)]
  have hle : ∀ K : List Int, L.length ≤ (icells (L ++ K)).length := fun K => by rw [icells_len, List.length_append]; omega
  have hlf : (icells L).all D.leaf = true := icells_leaf L
  have hin2 : ∀ y ∈ icells L ++ [.val (.int .i64 (i : Int))], In (fun _ => False) y := by rw [ic_app]; exact icells_in _
  clear hGi hG0 hno ih
  cases hk : lastK now f i
  all_goals dsimp only
  case' none =>
    have hct := hct J
    have hle := hle J
    have hcin := icells_in (L ++ J)
    generalize icells (L ++ J) = CK at *
  case' some j =>
    have hct := hct (ci (j :: stl now c.pf.length m (j + 1)))
    have hle := hle (ci (j :: stl now c.pf.length m (j + 1)))
    have hcin := icells_in (L ++ ci (j :: stl now c.pf.length m (j + 1)))
    generalize icells (L ++ ci (j :: stl now c.pf.length m (j + 1))) = CK at *
  all_goals
    clear hk
    refine aw_seq (aw_seq (aw_region ?_))
    simp (config := {maxSteps := 10000000}) (disch := first | exact okYes (by kernel_rfl) | omega) only [thenQ, dI, List.length, Nat.zero_add, Nat.reduceAdd, Nat.reduceMul, ARun_none, AOpRun, aexec, FSt.ev, St.F, eget_c, Nat.reduceBEq, ↓eget_h, cond_false, AGo_ok, St.app, putO, eput_c, eput_n, hups, List.map, Option.map, run1, hget_c, beq_self_eq_true, hget_n, cond_true, List.getElem?_cons_succ, List.getElem?_cons_zero, pfl, isSh, Bool.false_eq_true, ↓reduceIte, abin, ki, decide_true, ARun_nil, dropE_c, inL_c, inL_n, dropE_n]
    refine aw_condT rfl (aw_skip ?_)
    refine aw_seq (aw_block (aw_seq (aw_seq (aw_region ?_))))
    simp (config := {maxSteps := 10000000}) (disch := first | exact okYes (by kernel_rfl) | omega) only [thenQ, List.length, Nat.zero_add, Nat.reduceAdd, Nat.reduceMul, ARun_none, AOpRun, aexec, Option.map, run1, FSt.ev, St.F, eget_c, Nat.reduceBEq, ↓eget_h, cond_false, hget_c, ↓hget_h, List.getElem?_cons_zero, AGo_ok, St.app, putO, eput_c, eput_n, hups, List.map]
    refine acall0 w ?_
    simp (config := {maxSteps := 10000000}) (disch := first | exact okYes (by kernel_rfl) | omega) only [Nat.reduceAdd, St.app, putO, dB, eput_c, Nat.reduceBEq, eput_n, cond_false, hups, ARun_nil, dropE_c, inL_c, inL_n, beq_self_eq_true, cond_true, dropE_n]
    refine aw_condF rfl (aw_skip ?_)
    refine aw_seq (aw_region ?_)
    simp (config := {maxSteps := 10000000}) (disch := first | exact okYes (by kernel_rfl) | omega) only [thenQ, List.length, Nat.zero_add, Nat.reduceAdd, Nat.reduceMul, ARun_none, AOpRun, aexec, Option.map, run1, FSt.ev, St.F, eget_c, Nat.reduceBEq, ↓eget_h, cond_false, hget_c, ↓hget_h, List.getElem?_cons_zero, AGo_ok, St.app, putO, eput_c, eput_n, hups, List.map, Option.isSome, hget_n, Bool.false_eq_true, ↓reduceIte, fillD, D.isBot, D.cells, ne_eq, not_true_eq_false, Nat.reduceGT, or_self, splice, List.take, List.nil_append, List.drop, List.append_nil, hput_c, hput_n, base, Nat.mul_one, hle, and_self, hct, elems, Nat.reduceLeDiff, List.all, D.leaf, Bool.and_true, and_true, ups, List.cons_append]
    refine ago_if (by omega) ?_
    simp (config := {maxSteps := 10000000}) (disch := first | exact okYes (by kernel_rfl) | omega) only [AGo_ok, Nat.reduceAdd, St.app, putO, eput_c, Nat.reduceBEq, eput_n, cond_false, hups, hput_c, hput_n, hdel_c, beq_self_eq_true, hdel_n, cond_true, List.map, ARun_none, AOpRun, aexec, FSt.ev, St.F, eget_c, ↓eget_h, hget_c, ↓hget_h, D.isBot, D.cells, List.length, Nat.zero_add, Nat.reduceLeDiff, List.all, D.leaf, Bool.and_true, and_self, ↓reduceIte, splice, List.take, List.nil_append, List.drop, List.append_nil, ARun_nil, dropE_c, inL_c, inL_n, dropE_n]
  all_goals
    refine aw_wk (s' := ⟨[(0, dI p), (2, dI ((m + 1 : Nat) : Int)), (3, .ptr 0 0), (4, .ptr 8 0), (5, .ptr 16 0), (6, .ptr 24 0), (7, .ptr 32 0), (12, dI i)], [(0, [.list (cls c.cl), .list (sps c.pf)]), (8, [dI cl]), (16, [dI now]), (24, [.vec 48 (L.length + 1) 1]), (32, [.fn 88 [] [.ptr 0 0, .ptr 8 0, .ptr 16 0, .ptr 24 0, .ptr 32 0]]), (48, icells L ++ [.val (.int .i64 (i : Int))])], 232⟩) ?_ ?_
    · unfold dI
      refine wk_to [] [(0, 0), (8, 8), (16, 16), (24, 24), (32, 32), (40, 40), (48, 688)] (by kernel_rfl) (by kernel_rfl) (by kernel_rfl) (by kernel_rfl) (by kernel_rfl) ?_ ?_ <;> repeat' (first | exact trivial | exact vr_val _ | exact vr_list _ | exact vr_vec _ _ _ _ rfl | exact vr_ptr _ _ _ rfl | apply vr_fn | refine And.intro ⟨_, rfl, .inl ⟨_, rfl, by decide, ?_⟩⟩ ?_ | apply And.intro | exact vrl_flat _ (by first | exact icells_in _ | exact rcells_in _ | exact scells_in _ | exact bcells_in _ | assumption))
  all_goals
    have hlen : (L ++ [(i : Int)]).length = L.length + 1 := by simp
    clear hif
    cases hr : lookF (hlB c cl) now c.pf.length m (p ||| 2 ^ i) (i + 1) with
    | some r =>
      have hLs : LL = some (i :: r) := by rw [hlk]; exact first_some hi2 hin (by rw [hGp, hr]; rfl)
      obtain ⟨e1, e2⟩ := hup _ hLs
      have x1 : lkE (hlB c cl) now c.pf.length m (p ||| 2 ^ i) (i + 1) = r := by unfold lkE; rw [hr]
      have x2 : lkN (hlB c cl) now c.pf.length m (p ||| 2 ^ i) (i + 1) = r.length := by unfold lkN; rw [hr]
      rw [hr, x1, x2] at ihx
      rw [e1, e2, hLs]
      clear e1 e2 hLs x1 x2 hr hup hun hlk hEE hNN hLL hGp hin1 hin w
      cases r with
      | nil =>
        dsimp only [upB, Option.isSome_some] at ihx ⊢
        rw [hlen, List.append_nil, ← ic_app] at ihx
        have hc1 : icells (L ++ ci [i]) = icells L ++ [.val (.int .i64 (i : Int))] := by rw [ic_app]; rfl
        rw [hc1]
        (have hg : (987654321 : Nat) - 987654321 = 0 := rfl; have hr := hg; repeat' (first | refine aw_seq ?_ | (refine aw_skip ?_; repeat' (first | with_reducible refine thenQ_n ?_ | with_reducible refine blockQ_n ?_ | with_reducible refine thenQ_e ?_ | with_reducible refine blockQ_t ?_ | with_reducible refine blockQ_f (by decide) ?_)) | (refine aw_exit ?_; repeat' (first | with_reducible refine thenQ_n ?_ | with_reducible refine blockQ_n ?_ | with_reducible refine thenQ_e ?_ | with_reducible refine blockQ_t ?_ | with_reducible refine blockQ_f (by decide) ?_)) | refine aw_ret ?_ | refine aw_block ?_ | refine aw_condT rfl ?_ | refine aw_condF rfl ?_ | ((first | refine aw_hide fun K hK => aw_region ?_ | refine acall0 (w2) ?_ | refine acallB (ihx) (by repeat' (first | exact trivial | exact rfl | refine And.intro ?_ ?_)) (by kernel_rfl) (by kernel_rfl) (by kernel_rfl) ?_ | refine ago_if (by omega) ?_ | skip); simp (config := {maxSteps := 10000000}) (disch := first | exact okYes (by kernel_rfl) | omega) only [List.length, Nat.zero_add, Nat.reduceAdd, Nat.reduceMul, dI, ARun_none, AOpRun, aexec, Option.map, run1, FSt.ev, St.F, eget_c, Nat.reduceBEq, ↓eget_h, cond_false, hget_c, ↓hget_h, List.getElem?_cons_zero, AGo_ok, St.app, putO, eput_c, eput_n, hups, List.map, isSh, Bool.false_eq_true, ↓reduceIte, abin, fits, em, dB, hput_c, beq_self_eq_true, hput_n, cond_true, List.append_nil, ARun_nil, dropE_c, inL_c, inL_n, dropE_n, thenQ, blockQ]) | (subst hK; repeat' (first | with_reducible refine thenQ_n ?_ | with_reducible refine blockQ_n ?_ | with_reducible refine thenQ_e ?_ | with_reducible refine blockQ_t ?_ | with_reducible refine blockQ_f (by decide) ?_))))
        refine end_to [] [(0, 0), (8, 8), (16, 16), (24, 24), (32, 32), (40, 40), (296, 48)] (by first | exact .inl rfl | exact .inr rfl) rfl (by kernel_rfl) (by kernel_rfl) (by kernel_rfl) ?_ ?_ <;> repeat' (first | exact trivial | exact vr_val _ | exact vr_list _ | exact vr_vec _ _ _ _ rfl | exact vr_ptr _ _ _ rfl | apply vr_fn | refine And.intro ⟨_, rfl, _, rfl, by decide, ?_⟩ ?_ | apply And.intro | exact vrl_flat _ (by first | exact icells_in _ | exact rcells_in _ | exact scells_in _ | exact bcells_in _ | assumption))
      | cons x xs =>
        dsimp only [upB, Option.isSome_some] at ihx ⊢
        rw [hlen] at ihx
        have hc1 : icells (L ++ ci (i :: x :: xs)) = icells (L ++ [(i : Int)] ++ ci (x :: xs)) := by rw [ci_cons i, List.append_assoc]
        have hc2 : L.length + (i :: x :: xs).length = L.length + 1 + (x :: xs).length := by simp only [List.length_cons]; omega
        rw [hc1, hc2]
        have hcin3 := icells_in (L ++ [(i : Int)] ++ ci (x :: xs))
        generalize icells (L ++ [(i : Int)] ++ ci (x :: xs)) = CX at *
        generalize (x :: xs).length = N at *
        (have hg : (987654321 : Nat) - 987654321 = 0 := rfl; have hr := hg; repeat' (first | refine aw_seq ?_ | (refine aw_skip ?_; repeat' (first | with_reducible refine thenQ_n ?_ | with_reducible refine blockQ_n ?_ | with_reducible refine thenQ_e ?_ | with_reducible refine blockQ_t ?_ | with_reducible refine blockQ_f (by decide) ?_)) | (refine aw_exit ?_; repeat' (first | with_reducible refine thenQ_n ?_ | with_reducible refine blockQ_n ?_ | with_reducible refine thenQ_e ?_ | with_reducible refine blockQ_t ?_ | with_reducible refine blockQ_f (by decide) ?_)) | refine aw_ret ?_ | refine aw_block ?_ | refine aw_condT rfl ?_ | refine aw_condF rfl ?_ | ((first | refine aw_hide fun K hK => aw_region ?_ | refine acall0 (w2) ?_ | refine acallB (ihx) (by repeat' (first | exact trivial | exact rfl | refine And.intro ?_ ?_)) (by kernel_rfl) (by kernel_rfl) (by kernel_rfl) ?_ | refine ago_if (by omega) ?_ | skip); simp (config := {maxSteps := 10000000}) (disch := first | exact okYes (by kernel_rfl) | omega) only [List.length, Nat.zero_add, Nat.reduceAdd, Nat.reduceMul, dI, ARun_none, AOpRun, aexec, Option.map, run1, FSt.ev, St.F, eget_c, Nat.reduceBEq, ↓eget_h, cond_false, hget_c, ↓hget_h, List.getElem?_cons_zero, AGo_ok, St.app, putO, eput_c, eput_n, hups, List.map, isSh, Bool.false_eq_true, ↓reduceIte, abin, fits, em, dB, hput_c, hput_n, hdel_c, beq_self_eq_true, hdel_n, cond_true, List.append_nil, ARun_nil, dropE_c, inL_c, inL_n, dropE_n, thenQ, blockQ]) | (subst hK; repeat' (first | with_reducible refine thenQ_n ?_ | with_reducible refine blockQ_n ?_ | with_reducible refine thenQ_e ?_ | with_reducible refine blockQ_t ?_ | with_reducible refine blockQ_f (by decide) ?_))))
        refine end_to [] [(0, 0), (8, 8), (16, 16), (24, 24), (32, 32), (40, 40), (296, 296)] (by first | exact .inl rfl | exact .inr rfl) rfl (by kernel_rfl) (by kernel_rfl) (by kernel_rfl) ?_ ?_ <;> repeat' (first | exact trivial | exact vr_val _ | exact vr_list _ | exact vr_vec _ _ _ _ rfl | exact vr_ptr _ _ _ rfl | apply vr_fn | refine And.intro ⟨_, rfl, _, rfl, by decide, ?_⟩ ?_ | apply And.intro | exact vrl_flat _ (by first | exact icells_in _ | exact rcells_in _ | exact scells_in _ | exact bcells_in _ | assumption))
    | none =>
      have hnx := hin1 (by rw [hGp, hr]; rfl)
      have x1 : lkE (hlB c cl) now c.pf.length m (p ||| 2 ^ i) (i + 1) = stl now c.pf.length m (i + 1) := by unfold lkE; rw [hr]
      have x2 : lkN (hlB c cl) now c.pf.length m (p ||| 2 ^ i) (i + 1) = 0 := by unfold lkN; rw [hr]
      rw [hr, x1, x2] at ihx
      clear x1 x2 hr hup hun hlk hEE hNN hLL hGp hin1 hin w
      have s1 : (((L.length + 1 : Nat) : Int) - 1).toNat = L.length := by omega
      have s2 : (0 : Int) ≤ ((L.length + 1 : Nat) : Int) - 1 := by omega
      have s3 : ((L.length + 1 : Nat) : Int) - 1 ≤ ((L.length + 1 : Nat) : Int) := by omega
      cases hs : stl now c.pf.length m (i + 1) with
      | nil =>
        rw [hs] at ihx
        dsimp only [upB, Option.isSome_none] at ihx
        rw [hlen, List.append_nil, ← ic_app] at ihx
        have hc1 : icells (L ++ ci [i]) = icells L ++ [.val (.int .i64 (i : Int))] := by rw [ic_app]; rfl
        (have hg : (987654321 : Nat) - 987654321 = 0 := rfl; have hr := hg; repeat' (first | refine aw_seq ?_ | (refine aw_skip ?_; repeat' (first | with_reducible refine thenQ_n ?_ | with_reducible refine blockQ_n ?_ | with_reducible refine thenQ_e ?_ | with_reducible refine blockQ_t ?_ | with_reducible refine blockQ_f (by decide) ?_)) | (refine aw_exit ?_; repeat' (first | with_reducible refine thenQ_n ?_ | with_reducible refine blockQ_n ?_ | with_reducible refine thenQ_e ?_ | with_reducible refine blockQ_t ?_ | with_reducible refine blockQ_f (by decide) ?_)) | refine aw_ret ?_ | refine aw_block ?_ | refine aw_condT rfl ?_ | refine aw_condF rfl ?_ | ((first | refine aw_hide fun K hK => aw_region ?_ | refine acall0 (w2) ?_ | refine acallB (ihx) (by repeat' (first | exact trivial | exact rfl | refine And.intro ?_ ?_)) (by kernel_rfl) (by kernel_rfl) (by kernel_rfl) ?_ | refine ago_if (by omega) ?_ | skip); simp (config := {maxSteps := 10000000}) (disch := first | exact okYes (by kernel_rfl) | omega) only [List.length, Nat.zero_add, Nat.reduceAdd, Nat.reduceMul, dI, ARun_none, AOpRun, aexec, Option.map, run1, FSt.ev, St.F, eget_c, Nat.reduceBEq, ↓eget_h, cond_false, hget_c, ↓hget_h, List.getElem?_cons_zero, AGo_ok, St.app, putO, eput_c, eput_n, hups, List.map, isSh, Bool.false_eq_true, ↓reduceIte, abin, fits, em, dB, hput_c, beq_self_eq_true, hput_n, cond_true, List.append_nil, ARun_nil, dropE_c, inL_c, inL_n, dropE_n, asI, Int.le_refl, s2, s3, true_or, and_self, s1, D.isBot, D.cells, Nat.reduceLeDiff, List.all, D.leaf, Bool.and_true, splice, List.take, List.nil_append, List.drop]) | (subst hK; repeat' (first | with_reducible refine thenQ_n ?_ | with_reducible refine blockQ_n ?_ | with_reducible refine thenQ_e ?_ | with_reducible refine blockQ_t ?_ | with_reducible refine blockQ_f (by decide) ?_))))
        refine ⟨i + 1, ⟨by omega, .inl (by omega), hnx⟩, by omega, ?_⟩
        rw [hl1]
        dsimp only
        rw [hs, hc1]
        refine wk_to [] [(0, 0), (8, 8), (16, 16), (24, 24), (32, 32), (40, 40), (500, 48)] (by kernel_rfl) (by kernel_rfl) (by kernel_rfl) (by kernel_rfl) (by kernel_rfl) ?_ ?_ <;> repeat' (first | exact trivial | exact vr_val _ | exact vr_list _ | exact vr_vec _ _ _ _ rfl | exact vr_ptr _ _ _ rfl | apply vr_fn | refine And.intro ⟨_, rfl, .inl ⟨_, rfl, by decide, ?_⟩⟩ ?_ | apply And.intro | exact vrl_flat _ (by first | exact icells_in _ | exact rcells_in _ | exact scells_in _ | exact bcells_in _ | assumption))
      | cons x xs =>
        rw [hs] at ihx
        dsimp only [upB, Option.isSome_none] at ihx
        rw [Nat.add_zero, hlen] at ihx
        have hc1 : icells (L ++ ci (i :: x :: xs)) = icells (L ++ [(i : Int)] ++ ci (x :: xs)) := by rw [ci_cons i, List.append_assoc]
        have hcin3 := icells_in (L ++ [(i : Int)] ++ ci (x :: xs))
        generalize icells (L ++ [(i : Int)] ++ ci (x :: xs)) = CX at *
        (have hg : (987654321 : Nat) - 987654321 = 0 := rfl; have hr := hg; repeat' (first | refine aw_seq ?_ | (refine aw_skip ?_; repeat' (first | with_reducible refine thenQ_n ?_ | with_reducible refine blockQ_n ?_ | with_reducible refine thenQ_e ?_ | with_reducible refine blockQ_t ?_ | with_reducible refine blockQ_f (by decide) ?_)) | (refine aw_exit ?_; repeat' (first | with_reducible refine thenQ_n ?_ | with_reducible refine blockQ_n ?_ | with_reducible refine thenQ_e ?_ | with_reducible refine blockQ_t ?_ | with_reducible refine blockQ_f (by decide) ?_)) | refine aw_ret ?_ | refine aw_block ?_ | refine aw_condT rfl ?_ | refine aw_condF rfl ?_ | ((first | refine aw_hide fun K hK => aw_region ?_ | refine acall0 (w2) ?_ | refine acallB (ihx) (by repeat' (first | exact trivial | exact rfl | refine And.intro ?_ ?_)) (by kernel_rfl) (by kernel_rfl) (by kernel_rfl) ?_ | refine ago_if (by omega) ?_ | skip); simp (config := {maxSteps := 10000000}) (disch := first | exact okYes (by kernel_rfl) | omega) only [List.length, Nat.zero_add, Nat.reduceAdd, Nat.reduceMul, dI, ARun_none, AOpRun, aexec, Option.map, run1, FSt.ev, St.F, eget_c, Nat.reduceBEq, ↓eget_h, cond_false, hget_c, ↓hget_h, List.getElem?_cons_zero, AGo_ok, St.app, putO, eput_c, eput_n, hups, List.map, isSh, Bool.false_eq_true, ↓reduceIte, abin, fits, em, dB, hput_c, hput_n, hdel_c, beq_self_eq_true, hdel_n, cond_true, List.append_nil, ARun_nil, dropE_c, inL_c, inL_n, dropE_n, asI, Int.le_refl, s2, s3, true_or, and_self, s1, D.isBot, D.cells, Nat.reduceLeDiff, List.all, D.leaf, Bool.and_true, splice, List.take, List.nil_append, List.drop]) | (subst hK; repeat' (first | with_reducible refine thenQ_n ?_ | with_reducible refine blockQ_n ?_ | with_reducible refine thenQ_e ?_ | with_reducible refine blockQ_t ?_ | with_reducible refine blockQ_f (by decide) ?_))))
        refine ⟨i + 1, ⟨by omega, .inl (by omega), hnx⟩, by omega, ?_⟩
        rw [hl1]
        dsimp only
        rw [hs, hc1]
        refine wk_to [] [(0, 0), (8, 8), (16, 16), (24, 24), (32, 32), (40, 40), (500, 296)] (by kernel_rfl) (by kernel_rfl) (by kernel_rfl) (by kernel_rfl) (by kernel_rfl) ?_ ?_ <;> repeat' (first | exact trivial | exact vr_val _ | exact vr_list _ | exact vr_vec _ _ _ _ rfl | exact vr_ptr _ _ _ rfl | apply vr_fn | refine And.intro ⟨_, rfl, .inl ⟨_, rfl, by decide, ?_⟩⟩ ?_ | apply And.intro | exact vrl_flat _ (by first | exact icells_in _ | exact rcells_in _ | exact scells_in _ | exact bcells_in _ | assumption))
end Go.Proofs.Ytdcodicoclecnaa
