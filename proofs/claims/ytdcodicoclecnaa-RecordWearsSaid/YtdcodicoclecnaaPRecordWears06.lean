/- Texts of the law RecordWears, part 6. No conditions. -/
import Derived.Test.YtdcodicoclecnaaPRecordWears05
set_option linter.unusedSimpArgs false
set_option linter.unusedVariables false
/- parts and the document: turning points (views last). No conditions. -/
namespace Go.Proofs.Ytdcodicoclecnaa
open Go.RowKit Lift

theorem wg_icells (l : List Int) (k : Nat) (h : k < l.length) : (icells l)[k]? = some (.val (.int .i64 (wg l k))) := ic_gd l k h
theorem tstep_nil (n : Int) : tstep [] n = [n] := rfl
theorem tstep_same {l : List Int} {m : Nat} {n : Int} (hl : l.length = m + 1) (h : wg l m = n) : tstep l n = l := by
  unfold tstep; rw [hl, if_pos ⟨by omega, h⟩]
theorem tstep_one {l : List Int} {n : Int} (hl : l.length = 1) (h : wg l 0 ≠ n) : tstep l n = l ++ [n] := by
  unfold tstep; rw [hl, if_neg (fun q => h q.2), if_neg (by omega)]
theorem tstep_move {l : List Int} {m : Nat} {n : Int} (hl : l.length = m + 2) (h : wg l (m + 1) ≠ n) (h2 : decide (wg l (m + 1) > wg l m) = decide (n > wg l (m + 1))) : tstep l n = l.set (m + 1) n := by
  unfold tstep; rw [hl, if_neg (fun q => h q.2), if_pos ⟨by omega, h2⟩]; rfl
theorem tstep_new {l : List Int} {m : Nat} {n : Int} (hl : l.length = m + 2) (h : wg l (m + 1) ≠ n) (h2 : decide (wg l (m + 1) > wg l m) ≠ decide (n > wg l (m + 1))) : tstep l n = l ++ [n] := by
  unfold tstep; rw [hl, if_neg (fun q => h q.2), if_neg (fun q => h2 q.2)]
set_option maxRecDepth 100000 in
set_option maxHeartbeats 4000000 in
theorem turning_ac (s : List Int) (hs : s.length ≤ 1000) : AC Try.prog 137 [.list (ints s)] [] [] (.list (ints (wturn s))) := by
  refine kparts_turning.ac (n0 := 0) (by simp) ⟨.list _, trivial⟩ trivial rfl ?_
  unfold cparts_turning wturn
  have ia := ints_all s
  (repeat' (first | (with_reducible first | refine thenQ_n ?_ | refine blockQ_n ?_ | refine thenQ_e ?_ | refine blockQ_t ?_ | refine blockQ_f (by decide) ?_) | apply aw_seq | apply aw_skip | apply aw_exit | apply aw_ret | apply aw_block | apply aw_condT rfl | apply aw_condF rfl | ((first | refine aw_hide fun K hK => aw_region ?_ | refine ago_if (by omega) ?_ | skip); simp (disch := first | exact okY | omega) only [ZU, Nat.reduceMul, AOpRun, aexec, Nat.reduceBEq, Nat.reduceAdd, ↓eget_h, ints_len]) | subst hK))
  refine aw_loop (fun i : Nat => ⟨[(2, .vec 40 (tfold s i).length 1), (6, .list (ints s)), (7, dI s.length), (8, dI i)], [(40, icells (tfold s i))], 100⟩) (fun i => i ≤ s.length) (fun i => s.length - i) ⟨0, by omega, ?_⟩ ?_
  · unfold dI
    refine wk_q [] [(40, 90)] ?_ ?_ <;> repeat' (first | exact trivial | exact vr_val _ | exact vr_list _ | exact vr_nilv _ _ _ rfl | refine And.intro ⟨_, rfl, .inr ⟨rfl, rfl, of_decide_eq_true (by kernel_rfl)⟩⟩ ?_ | apply And.intro)
  intro i hi
  by_cases hi2 : i < s.length
  case neg =>
    obtain rfl : i = s.length := by omega
    have hl := tfold_len s s.length
    generalize tfold s s.length = L at *
    (have hg : (987654321 : Nat) - 987654321 = 0 := rfl; have hr := hg; repeat' (first | (with_reducible first | refine thenQ_n ?_ | refine blockQ_n ?_ | refine thenQ_e ?_ | refine blockQ_t ?_ | refine blockQ_f (by decide) ?_) | apply aw_seq | apply aw_skip | apply aw_exit | apply aw_ret | apply aw_block | apply aw_condT rfl | apply aw_condF rfl | (refine aw_cond rfl (fun hg => ?_) (fun hg => ?_) <;> (try (have hq := hg; simp only [Bool.not_eq_true', Bool.not_eq_false', Bool.and_eq_true, Bool.and_eq_false_iff, Bool.or_eq_true, Bool.or_eq_false_iff, decide_eq_true_eq, decide_eq_false_iff_not, bne_iff_ne, beq_iff_eq, beq_eq_false_iff_ne, bne_eq_false_iff_eq, ne_eq, Int.not_lt, Int.not_le, Decidable.not_not] at hq)) <;> (try (have hr := hg; simp only [decide_eq_true_eq, decide_eq_false_iff_not] at hr)) <;> (try (exfalso; omega))) | ((first | refine aw_hide fun K hK => aw_region ?_ | refine ago_if (by omega) ?_ | skip); simp (disch := first | exact okY | omega) only [ZU, Nat.reduceMul, Nat.reduceAdd, dI, AOpRun, aexec, Nat.reduceBEq, ↓eget_h, isSh, ↓reduceIte, abin, hr, decide_false]) | subst hK))
    (refine end_q [40] [] ?_ ?_ <;> repeat' (first | exact trivial | refine vr_fl _ _ _ _ _ (by decide) rfl ?_ ?_ ?_ ?_))
    all_goals first | exact ints_one _ | exact ints_len _ | exact icells_in _ | (rw [Nat.mul_one, ic_take L _ rfl]; exact ints_flat _) | exact ints_flat _
  have gx := ints_gd s i hi2
  rw [show s[i]?.getD 0 = wg s i from rfl] at gx
  have ki : (i : Int) < (s.length : Int) := by omega
  have hl := tfold_len s i
  show AWb _ _ _ _ _ _ _
  have e1 : tfold s (i + 1) = tstep (tfold s i) (wg s i) := rfl
  have fin : i + 1 ≤ s.length := by omega
  have fin2 : s.length - (i + 1) < s.length - i := by omega
  generalize tfold s i = L at *
  generalize wg s i = n at *
  generalize hT : tfold s (i + 1) = T at *
  have hLin := icells_in L
  have hTin := icells_in T
  have hLc := icells_len L
  have hLt := ic_take L L.length rfl
  have tf : (true == false) = false := rfl
  have ft : (false == true) = false := rfl
  have hc3 : L.length = 0 ∨ L.length = 1 ∨ ∃ m, L.length = m + 2 := by
    rcases (by omega : L.length = 0 ∨ L.length = 1 ∨ 2 ≤ L.length) with h | h | h
    · exact .inl h
    · exact .inr (.inl h)
    · exact .inr (.inr ⟨L.length - 2, by omega⟩)
  rcases hc3 with h0 | h0 | ⟨m, h0⟩
  · obtain rfl : L = [] := List.length_eq_zero_iff.1 h0
    rw [tstep_nil] at e1
    subst e1
    (have hg : (987654321 : Nat) - 987654321 = 0 := rfl; have hr := hg; repeat' (first | (with_reducible first | refine thenQ_n ?_ | refine blockQ_n ?_ | refine thenQ_e ?_ | refine blockQ_t ?_ | refine blockQ_f (by decide) ?_) | apply aw_seq | apply aw_skip | apply aw_exit | apply aw_ret | apply aw_block | apply aw_condT rfl | apply aw_condF rfl | (refine ag_bool (fun hg => ?_) (fun hg => ?_) <;> (try (have hq := hg; simp only [Bool.not_eq_true', Bool.not_eq_false', Bool.and_eq_true, Bool.and_eq_false_iff, Bool.or_eq_true, Bool.or_eq_false_iff, decide_eq_true_eq, decide_eq_false_iff_not, bne_iff_ne, beq_iff_eq, beq_eq_false_iff_ne, bne_eq_false_iff_eq, ne_eq, Int.not_lt, Int.not_le, Decidable.not_not] at hq)) <;> (try (have hr := hg; simp only [decide_eq_true_eq, decide_eq_false_iff_not] at hr)) <;> (try (exfalso; omega)) <;> simp (disch := first | exact okY | omega) only [ZU, hr, decide_false, AG_ft, Nat.reduceAdd, Nat.reduceBEq, ARun_some, ↓eget_h, AOpRun, aexec, ↓reduceIte]) | ((first | refine aw_hide fun K hK => aw_region ?_ | refine ago_if (by omega) ?_ | skip); simp (disch := first | exact okY | omega) only [ZU, Nat.reduceMul, Nat.reduceAdd, dI, AOpRun, aexec, Nat.reduceBEq, ↓eget_h, isSh, ↓reduceIte, abin, ki, ia, opt1, gx, run1, cast_lit, ARun_some, fillD, D.isBot, D.cells, ne_eq, not_true_eq_false, Nat.reduceGT, or_self, splice, List.take, List.drop, base, icells_len, Nat.zero_le, elems, ↓hget_h, Nat.reduceLeDiff, List.all, D.leaf, and_true, ups, hdel_c, hdel_n, fits]) | subst hK))
    refine ⟨i + 1, fin, fin2, ?_⟩
    rw [hT]
    refine wk_q [] [(40, 468)] ?_ ?_ <;> repeat' (first | exact trivial | exact vr_val _ | exact vr_list _ | exact vr_vec _ _ _ _ rfl | refine And.intro ⟨_, rfl, .inl ⟨_, rfl, by decide, ?_⟩⟩ ?_ | apply And.intro)
  · obtain ⟨a, rfl⟩ := List.length_eq_one_iff.1 h0
    by_cases ha : a = n
    · subst ha
      rw [tstep_same (l := [a]) (m := 0) (n := a) rfl rfl] at e1
      subst e1
      have q : (a == a) = true := by simp
      (repeat' (first | (with_reducible first | refine thenQ_n ?_ | refine blockQ_n ?_ | refine thenQ_e ?_ | refine blockQ_t ?_ | refine blockQ_f (by decide) ?_) | apply aw_seq | apply aw_skip | apply aw_exit | apply aw_ret | apply aw_block | apply aw_condT rfl | apply aw_condF rfl | ((first | refine aw_hide fun K hK => aw_region ?_ | refine ago_if (by omega) ?_ | skip); simp (disch := first | exact okY | omega) only [ZU, Nat.reduceMul, Nat.reduceAdd, dI, icells, AOpRun, aexec, Nat.reduceBEq, ↓eget_h, isSh, ↓reduceIte, abin, ki, ia, opt1, gx, run1, cast_lit, Int.zero_lt_one, ARun_some, AG_tt, Int.reduceSub, fits, Int.le_refl, Int.toNat_zero]) | subst hK))
      refine ⟨i + 1, fin, fin2, ?_⟩
      rw [hT]
      refine wk_q [] [(40, 40)] ?_ ?_ <;> repeat' (first | exact trivial | exact vr_val _ | exact vr_list _ | exact vr_vec _ _ _ _ rfl | refine And.intro ⟨_, rfl, .inl ⟨_, rfl, by decide, ?_⟩⟩ ?_ | apply And.intro)
    · rw [tstep_one (l := [a]) (n := n) rfl ha] at e1
      subst e1
      have q : (a == n) = false := by simpa using ha
      (have hg : (987654321 : Nat) - 987654321 = 0 := rfl; have hr := hg; repeat' (first | (with_reducible first | refine thenQ_n ?_ | refine blockQ_n ?_ | refine thenQ_e ?_ | refine blockQ_t ?_ | refine blockQ_f (by decide) ?_) | apply aw_seq | apply aw_skip | apply aw_exit | apply aw_ret | apply aw_block | apply aw_condT rfl | apply aw_condF rfl | (refine ag_bool (fun hg => ?_) (fun hg => ?_) <;> (try (have hq := hg; simp only [Bool.not_eq_true', Bool.not_eq_false', Bool.and_eq_true, Bool.and_eq_false_iff, Bool.or_eq_true, Bool.or_eq_false_iff, decide_eq_true_eq, decide_eq_false_iff_not, bne_iff_ne, beq_iff_eq, beq_eq_false_iff_ne, bne_eq_false_iff_eq, ne_eq, Int.not_lt, Int.not_le, Decidable.not_not] at hq)) <;> (try (have hr := hg; simp only [decide_eq_true_eq, decide_eq_false_iff_not] at hr)) <;> (try (exfalso; omega)) <;> simp (disch := first | exact okY | omega) only [ZU, hr, decide_false, AG_ft, Nat.reduceAdd, Nat.reduceBEq, ARun_some, ↓eget_h, AOpRun, aexec, ↓reduceIte]) | ((first | refine aw_hide fun K hK => aw_region ?_ | refine ago_if (by omega) ?_ | skip); simp (disch := first | exact okY | omega) only [ZU, Nat.reduceMul, Nat.reduceAdd, dI, icells, AOpRun, aexec, Nat.reduceBEq, ↓eget_h, isSh, ↓reduceIte, abin, ki, ia, opt1, gx, run1, cast_lit, Int.zero_lt_one, ARun_some, AG_tt, Int.reduceSub, fits, Int.le_refl, Int.toNat_zero, q, fillD, D.isBot, D.cells, ne_eq, not_true_eq_false, Nat.reduceGT, or_self, splice, List.take, List.drop, base, Nat.reduceLeDiff, elems, ↓hget_h, List.all, D.leaf, and_true, ups, hdel_c, hdel_n]) | subst hK))
      refine ⟨i + 1, fin, fin2, ?_⟩
      rw [hT]
      refine wk_q [] [(40, 468)] ?_ ?_ <;> repeat' (first | exact trivial | exact vr_val _ | exact vr_list _ | exact vr_vec _ _ _ _ rfl | refine And.intro ⟨_, rfl, .inl ⟨_, rfl, by decide, ?_⟩⟩ ?_ | apply And.intro)
  · have ga := wg_icells L (m + 1) (by omega)
    have gb := wg_icells L m (by omega)
    have k1 : ((m + 2 : Nat) : Int) - 1 = ((m + 1 : Nat) : Int) := by omega
    have k2 : ((m + 2 : Nat) : Int) - 2 = (m : Int) := by omega
    have k3 : ((m + 1 : Nat) : Int) < ((m + 2 : Nat) : Int) := by omega
    have k4 : (m : Int) < ((m + 2 : Nat) : Int) := by omega
    have k5 : decide (((m + 2 : Nat) : Int) > 0) = true := decide_eq_true (by omega)
    have k6 : decide (((m + 2 : Nat) : Int) > 1) = true := decide_eq_true (by omega)
    have k7 : m + 1 + 1 ≤ m + 2 := by omega
    rw [h0] at hLc hLt hl
    have hit := ic_t L (m + 1) n (by omega)
    have hap := ic_app L n
    rw [h0]
    by_cases ha : wg L (m + 1) = n
    · rw [tstep_same h0 ha] at e1
      have q : (wg L (m + 1) == n) = true := by simpa using ha
      generalize wg L (m + 1) = a at *
      (repeat' (first | (with_reducible first | refine thenQ_n ?_ | refine blockQ_n ?_ | refine thenQ_e ?_ | refine blockQ_t ?_ | refine blockQ_f (by decide) ?_) | apply aw_seq | apply aw_skip | apply aw_exit | apply aw_ret | apply aw_block | apply aw_condT rfl | apply aw_condF rfl | ((first | refine aw_hide fun K hK => aw_region ?_ | refine ago_if (by omega) ?_ | skip); simp (disch := first | exact okY | omega) only [ZU, Nat.mul_one, Nat.reduceAdd, dI, AOpRun, aexec, Nat.reduceBEq, ↓eget_h, isSh, ↓reduceIte, abin, ki, Nat.reduceMul, ia, opt1, gx, run1, k5, ARun_some, AG_tt, k1, fits, k3, Nat.add_zero, ga, q]) | subst hK))
      refine ⟨i + 1, fin, fin2, ?_⟩
      rw [hT, e1, h0]
      refine wk_q [] [(40, 40)] ?_ ?_ <;> repeat' (first | exact trivial | exact vr_val _ | exact vr_list _ | exact vr_vec _ _ _ _ rfl | refine And.intro ⟨_, rfl, .inl ⟨_, rfl, by decide, ?_⟩⟩ ?_ | apply And.intro | exact vrl_flat _ (by first | exact icells_in _ | exact rcells_in _ | exact scells_in _ | exact bcells_in _ | assumption) | fail)
    · have q : (wg L (m + 1) == n) = false := by simpa using ha
      by_cases hd : decide (wg L (m + 1) > wg L m) = decide (n > wg L (m + 1))
      · rw [tstep_move h0 ha hd] at e1
        have hTl : T.length = m + 2 := by rw [e1]; simpa using h0
        rw [← e1] at hit
        generalize wg L (m + 1) = a at *
        generalize wg L m = b at *
        cases hd1 : decide (a > b) with
        | true =>
          rw [hd1] at hd
          (repeat' (first | (with_reducible first | refine thenQ_n ?_ | refine blockQ_n ?_ | refine thenQ_e ?_ | refine blockQ_t ?_ | refine blockQ_f (by decide) ?_) | apply aw_seq | apply aw_skip | apply aw_exit | apply aw_ret | apply aw_block | apply aw_condT rfl | apply aw_condF rfl | ((first | refine aw_hide fun K hK => aw_region ?_ | refine ago_if (by omega) ?_ | skip); simp (disch := first | exact okY | omega) only [ZU, Nat.mul_one, Nat.reduceAdd, dI, AOpRun, aexec, Nat.reduceBEq, ↓eget_h, isSh, ↓reduceIte, abin, ki, Nat.reduceMul, ia, opt1, gx, run1, k5, ARun_some, AG_tt, k1, fits, k3, Nat.add_zero, ga, q, k6, k2, k4, gb, hd1, ← hd, D.isBot, D.cells, hLc, k7, List.all, D.leaf, splice, hit]) | subst hK))
          refine ⟨i + 1, fin, fin2, ?_⟩
          rw [hT, hTl]
          refine wk_q [] [(40, 40)] ?_ ?_ <;> repeat' (first | exact trivial | exact vr_val _ | exact vr_list _ | exact vr_vec _ _ _ _ rfl | refine And.intro ⟨_, rfl, .inl ⟨_, rfl, by decide, ?_⟩⟩ ?_ | apply And.intro | exact vrl_flat _ (by first | exact icells_in _ | exact rcells_in _ | exact scells_in _ | exact bcells_in _ | assumption) | fail)
        | false =>
          rw [hd1] at hd
          (repeat' (first | (with_reducible first | refine thenQ_n ?_ | refine blockQ_n ?_ | refine thenQ_e ?_ | refine blockQ_t ?_ | refine blockQ_f (by decide) ?_) | apply aw_seq | apply aw_skip | apply aw_exit | apply aw_ret | apply aw_block | apply aw_condT rfl | apply aw_condF rfl | ((first | refine aw_hide fun K hK => aw_region ?_ | refine ago_if (by omega) ?_ | skip); simp (disch := first | exact okY | omega) only [ZU, Nat.mul_one, Nat.reduceAdd, dI, AOpRun, aexec, Nat.reduceBEq, ↓eget_h, isSh, ↓reduceIte, abin, ki, Nat.reduceMul, ia, opt1, gx, run1, k5, ARun_some, AG_tt, k1, fits, k3, Nat.add_zero, ga, q, k6, k2, k4, gb, hd1, ← hd, D.isBot, D.cells, hLc, k7, List.all, D.leaf, splice, hit]) | subst hK))
          refine ⟨i + 1, fin, fin2, ?_⟩
          rw [hT, hTl]
          refine wk_q [] [(40, 40)] ?_ ?_ <;> repeat' (first | exact trivial | exact vr_val _ | exact vr_list _ | exact vr_vec _ _ _ _ rfl | refine And.intro ⟨_, rfl, .inl ⟨_, rfl, by decide, ?_⟩⟩ ?_ | apply And.intro | exact vrl_flat _ (by first | exact icells_in _ | exact rcells_in _ | exact scells_in _ | exact bcells_in _ | assumption) | fail)
      · rw [tstep_new h0 ha hd] at e1
        have hTl : T.length = m + 2 + 1 := by rw [e1]; simp [h0]
        rw [← e1] at hap
        generalize wg L (m + 1) = a at *
        generalize wg L m = b at *
        cases hd1 : decide (a > b) with
        | true =>
          have hd2 : decide (n > a) = false := by cases h : decide (n > a) with
            | true => exact absurd (hd1.trans h.symm) hd
            | false => rfl
          (repeat' (first | (with_reducible first | refine thenQ_n ?_ | refine blockQ_n ?_ | refine thenQ_e ?_ | refine blockQ_t ?_ | refine blockQ_f (by decide) ?_) | apply aw_seq | apply aw_skip | apply aw_exit | apply aw_ret | apply aw_block | apply aw_condT rfl | apply aw_condF rfl | ((first | refine aw_hide fun K hK => aw_region ?_ | refine ago_if (by omega) ?_ | skip); simp (disch := first | exact okY | omega) only [ZU, Nat.mul_one, Nat.reduceAdd, dI, AOpRun, aexec, Nat.reduceBEq, ↓eget_h, isSh, ↓reduceIte, abin, ki, Nat.reduceMul, ia, opt1, gx, run1, k5, ARun_some, AG_tt, k1, fits, k3, Nat.add_zero, ga, q, k6, k2, k4, gb, hd1, hd2, tf, bne_self_eq_false, fillD, D.isBot, D.cells, ne_eq, not_true_eq_false, Nat.reduceGT, or_self, splice, List.take, List.drop, base, hLc, Nat.le_refl, hLt, elems, ↓hget_h, List.all, D.leaf, and_true, ups, hdel_c, hdel_n]) | subst hK))
          refine ⟨i + 1, fin, fin2, ?_⟩
          rw [hT, hTl, ← hap]
          rw [← hap] at hTin
          refine wk_q [] [(40, 468)] ?_ ?_ <;> repeat' (first | exact trivial | exact vr_val _ | exact vr_list _ | exact vr_vec _ _ _ _ rfl | refine And.intro ⟨_, rfl, .inl ⟨_, rfl, by decide, ?_⟩⟩ ?_ | apply And.intro | exact vrl_flat _ (by first | exact icells_in _ | exact rcells_in _ | exact scells_in _ | exact bcells_in _ | assumption) | fail)
        | false =>
          have hd2 : decide (n > a) = true := by cases h : decide (n > a) with
            | false => exact absurd (hd1.trans h.symm) hd
            | true => rfl
          (repeat' (first | (with_reducible first | refine thenQ_n ?_ | refine blockQ_n ?_ | refine thenQ_e ?_ | refine blockQ_t ?_ | refine blockQ_f (by decide) ?_) | apply aw_seq | apply aw_skip | apply aw_exit | apply aw_ret | apply aw_block | apply aw_condT rfl | apply aw_condF rfl | ((first | refine aw_hide fun K hK => aw_region ?_ | refine ago_if (by omega) ?_ | skip); simp (disch := first | exact okY | omega) only [ZU, Nat.mul_one, Nat.reduceAdd, dI, AOpRun, aexec, Nat.reduceBEq, ↓eget_h, isSh, ↓reduceIte, abin, ki, Nat.reduceMul, ia, opt1, gx, run1, k5, ARun_some, AG_tt, k1, fits, k3, Nat.add_zero, ga, q, k6, k2, k4, gb, hd1, hd2, ft, bne_self_eq_false, fillD, D.isBot, D.cells, ne_eq, not_true_eq_false, Nat.reduceGT, or_self, splice, List.take, List.drop, base, hLc, Nat.le_refl, hLt, elems, ↓hget_h, List.all, D.leaf, and_true, ups, hdel_c, hdel_n]) | subst hK))
          refine ⟨i + 1, fin, fin2, ?_⟩
          rw [hT, hTl, ← hap]
          rw [← hap] at hTin
          refine wk_q [] [(40, 468)] ?_ ?_ <;> repeat' (first | exact trivial | exact vr_val _ | exact vr_list _ | exact vr_vec _ _ _ _ rfl | refine And.intro ⟨_, rfl, .inl ⟨_, rfl, by decide, ?_⟩⟩ ?_ | apply And.intro | exact vrl_flat _ (by first | exact icells_in _ | exact rcells_in _ | exact scells_in _ | exact bcells_in _ | assumption) | fail)
end Go.Proofs.Ytdcodicoclecnaa
/- parts: the loop over the cycles of a series, with the damage as its body (views last). No conditions. -/
namespace Go.Proofs.Ytdcodicoclecnaa.Lift
open Go Go.RowKit
theorem wk_vo {pre : List Nat} {t g n sz nx : Nat} {rest : Env} {hp : Hp} (hn : 0 < n) : Wk pre ⟨(t, .vec g n sz) :: rest, hp, nx⟩ ⟨(t, .own g 0 n sz) :: rest, hp, nx⟩ := by
  rintro C a w rfl ⟨β, Z, h, hβ⟩
  refine ⟨β, Z, ⟨h.size, h.defers, fun u => ?_, h.objs, h.inj, h.fr, h.z0, h.old, h.orig, h.ext, h.zlt⟩, hβ⟩
  have h1 := h.env u
  show Rep w β Z _ (eget ((t, .own g 0 n sz) :: rest) u)
  have h2 : Rep w β Z (a.tmps.getD u undef) (eget ((t, .vec g n sz) :: rest) u) := h1
  rw [get_cons] at h2 ⊢
  split
  · rename_i he
    rw [if_pos he] at h2
    generalize a.tmps.getD u undef = v at h2
    cases h2 with
    | vec0 => omega
    | vec _ _ _ B cap e m hB hlt hlen hs hm => exact .own g 0 n sz B cap e m hB hlt hlen hs (by omega)
  · rename_i he
    rw [if_neg he] at h2
    exact h2
theorem aw_seq2 {rd : Rd} {P : Program} {n : Nat} {pre : List Nat} {Q : AExit → St → Prop} {s : St} {a b : ACode} {ι : Type} {M : ι → Prop} {S1 : ι → St} (h1 : AWb rd P n pre a (fun e s => e = .norm ∧ ∃ c, M c ∧ Wk pre s (S1 c)) s) (h2 : ∀ c, M c → AWb rd P n pre b Q (S1 c)) : AWb rd P n pre (.seq a b) Q s :=
  aw_seq (aw_mono h1 fun e s ⟨he, c, hm, hw⟩ => by subst he; exact aw_wk hw (h2 c hm))
end Go.Proofs.Ytdcodicoclecnaa.Lift
namespace Go.Proofs.Ytdcodicoclecnaa
open Go Go.RowKit Lift

theorem ic_tk3 (L : List Int) (m : Nat) : (icells L).take m = icells (L.take m) := by unfold icells; rw [List.map_take]
def CV (c : List D) : Prop := ∀ d ∈ c, ∃ v, d = .val v
theorem CV.flat {c : List D} (h : CV c) : ∀ d ∈ c, In (fun _ => False) d := fun d hd => by obtain ⟨v, rfl⟩ := h d hd; exact .val v
theorem CV.noY {c : List D} (h : CV c) : c.all (noY 9) = true := List.all_eq_true.2 fun d hd => by obtain ⟨v, rfl⟩ := h d hd; rfl
theorem CV.app {a b : List D} (h : CV a) (k : CV b) : CV (a ++ b) := fun d hd => (List.mem_append.1 hd).elim (h d) (k d)
theorem CV.nil : CV [] := fun d hd => by cases hd
theorem CV.ic (l : List Int) : CV (icells l) := fun d hd => by obtain ⟨x, _, rfl⟩ := List.mem_map.1 hd; exact ⟨_, rfl⟩
theorem CV.take {c : List D} (h : CV c) (n : Nat) : CV (c.take n) := fun d hd => h d (List.mem_of_mem_take hd)
theorem CV.drop {c : List D} (h : CV c) (n : Nat) : CV (c.drop n) := fun d hd => h d (List.mem_of_mem_drop hd)
theorem CV.cons {v : Value} {c : List D} (h : CV c) : CV (.val v :: c) := fun d hd => by
  rcases List.mem_cons.1 hd with rfl | hd
  · exact ⟨v, rfl⟩
  · exact h d hd
def pc (c0 : List D) (p : List Int) (cz : List D) : List D := c0 ++ (icells p ++ cz)
theorem pc_cv {c0 cz : List D} (h : CV c0) (k : CV cz) (p : List Int) : CV (pc c0 p cz) := h.app ((CV.ic p).app k)
theorem pc_len (c0 cz : List D) (p : List Int) : (pc c0 p cz).length = c0.length + (p.length + cz.length) := by simp [pc, icells_len]
theorem pc_get (c0 cz : List D) (p : List Int) (k : Nat) (h : k < p.length) : (pc c0 p cz)[c0.length + k]? = some (.val (.int .i64 (wg p k))) := by
  unfold pc
  rw [List.getElem?_append_right (by omega), Nat.add_sub_cancel_left, List.getElem?_append_left (by rw [icells_len]; exact h)]
  exact wg_icells p k h
theorem pc_mid (c0 cz : List D) (p : List Int) : ((pc c0 p cz).drop c0.length).take p.length = icells p := by
  unfold pc
  rw [List.drop_left]
  exact List.take_left' (icells_len p)
theorem pc_head (c0 cz : List D) (p : List Int) : (pc c0 p cz).take c0.length = c0 := by unfold pc; exact List.take_left
theorem pc_drop (c0 cz : List D) (p : List Int) (h : 0 < p.length) : pc c0 p cz = pc (c0 ++ [.val (.int .i64 (wg p 0))]) (p.drop 1) cz := by
  unfold pc
  match p, h with
  | x :: p, _ => simp [icells, wg]
theorem pc_del (c0 cz : List D) (p : List Int) (k : Nat) (h : p.length = k + 3) : (pc c0 p cz).take (c0.length + k) ++ (.val (.int .i64 (wg p (k + 2))) :: .val (.int .i64 0) :: .val (.int .i64 0) :: (pc c0 p cz).drop (c0.length + (k + 3))) =
    pc c0 (p.take k ++ [wg p (k + 2)]) (.val (.int .i64 0) :: .val (.int .i64 0) :: cz) := by
  have e1 : (pc c0 p cz).take (c0.length + k) = c0 ++ icells (p.take k) := by
    unfold pc
    rw [List.take_length_add_append, List.take_append_of_le_length (by rw [icells_len]; omega), ic_tk3]
  have e2 : (pc c0 p cz).drop (c0.length + (k + 3)) = cz := by
    unfold pc
    rw [List.drop_length_add_append]
    exact List.drop_left' (by rw [icells_len, h])
  rw [e1, e2]
  unfold pc
  simp [icells]
end Go.Proofs.Ytdcodicoclecnaa
/- parts: one turn of the inner loop over a pile (views last). No conditions. -/
namespace Go.Proofs.Ytdcodicoclecnaa
open Go Go.RowKit Lift

def cturn : ACode :=
  (.seq
   (.seq
    (.region false [⟨some 23, .mv (.tmp 6), none, []⟩,
      ⟨some 24, .bin .geq (.tmp 23) (.const (.int .i64 3)), none, []⟩] [23])
   (.cond (.tmp 24)
     .skip
     (.exit 2)))
  (.seq
   (.block 3
     (.seq
      (.region true [⟨some 27, .mv (.tmp 3), none, []⟩,
        ⟨some 28, .mv (.tmp 6), none, []⟩,
        ⟨some 29, .bin .sub (.tmp 28) (.const (.int .i64 1)), none, [1]⟩,
        ⟨some 30, .iadS 1 (.tmp 27) (.tmp 29), none, [0, 2, 1]⟩,
        ⟨some 31, .load1 (.tmp 30), none, [3, 0, 2, 1]⟩,
        ⟨some 32, .mv (.tmp 3), none, []⟩,
        ⟨some 33, .mv (.tmp 6), none, []⟩,
        ⟨some 34, .bin .sub (.tmp 33) (.const (.int .i64 2)), none, [6]⟩,
        ⟨some 35, .iadS 1 (.tmp 32) (.tmp 34), none, [5, 7, 6]⟩,
        ⟨some 36, .load1 (.tmp 35), none, [8, 5, 7, 6]⟩,
        ⟨some 37, .call (.func 138) [(.tmp 31), (.tmp 36)], none, [4, 3, 0, 2, 1, 9, 8, 5, 7, 6]⟩,
        ⟨some 38, .mv (.tmp 3), none, []⟩,
        ⟨some 39, .mv (.tmp 6), none, []⟩,
        ⟨some 40, .bin .sub (.tmp 39) (.const (.int .i64 2)), none, [12]⟩,
        ⟨some 41, .iadS 1 (.tmp 38) (.tmp 40), none, [11, 13, 12]⟩,
        ⟨some 42, .load1 (.tmp 41), none, [14, 11, 13, 12]⟩,
        ⟨some 43, .mv (.tmp 3), none, []⟩,
        ⟨some 44, .mv (.tmp 6), none, []⟩,
        ⟨some 45, .bin .sub (.tmp 44) (.const (.int .i64 3)), none, [17]⟩,
        ⟨some 46, .iadS 1 (.tmp 43) (.tmp 45), none, [16, 18, 17]⟩,
        ⟨some 47, .load1 (.tmp 46), none, [19, 16, 18, 17]⟩,
        ⟨some 48, .call (.func 138) [(.tmp 42), (.tmp 47)], none, [15, 14, 11, 13, 12, 20, 19, 16, 18, 17, 10, 4, 3, 0, 2, 1, 9, 8, 5, 7, 6]⟩,
        ⟨some 7, .mv (.tmp 37), none, [10, 4, 3, 0, 2, 1, 9, 8, 5, 7, 6, 21, 15, 14, 11, 13, 12, 20, 19, 16, 18, 17]⟩,
        ⟨some 8, .mv (.tmp 48), none, [21, 15, 14, 11, 13, 12, 20, 19, 16, 18, 17, 10, 4, 3, 0, 2, 1, 9, 8, 5, 7, 6, 22]⟩] [27, 28, 29, 30, 31, 32, 33, 34, 35, 36, 37, 38, 39, 40, 41, 42, 43, 44, 45, 46, 47, 48])
     (.seq
      (.seq
       (.region false [⟨some 49, .mv (.tmp 7), none, []⟩,
         ⟨some 50, .mv (.tmp 8), none, []⟩,
         ⟨some 51, .bin .lss (.tmp 49) (.tmp 50), none, []⟩] [49, 50])
      (.cond (.tmp 51)
        (.exit 2)
        .skip))
     (.seq
      (.seq
       (.region false [⟨some 52, .mv (.tmp 6), none, []⟩,
         ⟨some 53, .bin .eql (.tmp 52) (.const (.int .i64 3)), none, []⟩] [52])
      (.cond (.tmp 53)
        (.seq
         (.seq
          (.region false [⟨some 54, .mv (.tmp 0), none, []⟩,
            ⟨some 55, .mv (.tmp 8), none, []⟩,
            ⟨some 56, .call (.tmp 54) [(.tmp 55), (.const (.int .i64 1))], none, []⟩,
            ⟨some 57, .un .not (.tmp 56), none, []⟩] [54, 55, 56])
         (.cond (.tmp 57)
           .ret
           .skip))
        (.seq
         (.region false [⟨some 58, .mv (.tmp 3), none, []⟩,
           ⟨some 59, .slS 1 (.tmp 58) (some (.const (.int .i64 1))) none, none, []⟩,
           ⟨some 3, .mv (.tmp 59), none, []⟩] [58, 59])
        (.exit 3)))
        .skip))
     (.seq
      (.seq
       (.region false [⟨some 60, .mv (.tmp 0), none, []⟩,
         ⟨some 61, .mv (.tmp 8), none, []⟩,
         ⟨some 62, .call (.tmp 60) [(.tmp 61), (.const (.int .i64 2))], none, []⟩,
         ⟨some 63, .un .not (.tmp 62), none, []⟩] [60, 61, 62])
      (.cond (.tmp 63)
        .ret
        .skip))
     (.region false [⟨some 64, .mv (.tmp 3), none, []⟩,
       ⟨some 65, .mv (.tmp 6), none, []⟩,
       ⟨some 66, .bin .sub (.tmp 65) (.const (.int .i64 3)), none, []⟩,
       ⟨some 67, .mv (.tmp 6), none, []⟩,
       ⟨some 68, .bin .sub (.tmp 67) (.const (.int .i64 1)), none, []⟩,
       ⟨some 69, .call (.func 139) [(.tmp 64), (.tmp 66), (.tmp 68)], none, []⟩,
       ⟨some 3, .mv (.tmp 69), none, []⟩] [64, 65, 66, 67, 68, 69]))))))
  (.region false [⟨some 25, .mv (.tmp 3), none, []⟩,
    ⟨some 26, .len_ (.tmp 25), none, []⟩,
    ⟨some 6, .mv (.tmp 26), none, []⟩] [25, 26])))
def inS (r : Loop) (st : List (Int × Int)) (L : List (List D)) (a b : Int) (o : List (Int × Int)) (p : List Int) (c0 cz : List D) : St :=
  ⟨[(3, .own 40 c0.length p.length 1), (0, .yld 1000 r [.bot, .bot, .bot, .ptr 24 0, .ptr 32 0]), (6, dI p.length), (11, .list L), (12, dI a), (13, dI b)], [(24, [.list (sps st)]), (32, [dI (dsum st o)]), (40, pc c0 p cz)], 1100⟩
set_option maxRecDepth 100000 in
set_option maxHeartbeats 16000000 in
theorem dinner {r : Loop} (hr : LoopIsA Try.prog 73 [56, 57] cparts_Damage_B100056 cparts_Damage_B56 r) (st : List (Int × Int)) (hst : st.length ≤ 8) (hso : StOk st) (L : List (List D)) (a b : Int) (o : List (Int × Int)) (p : List Int) (c0 cz : List D)
    (h3 : WSm p) (hoh : HOk o) (h4 : o.length + p.length ≤ 400) (hp0 : 0 < p.length) (hc0 : CV c0) (hcz : CV cz) (Q : AExit → St → Prop)
    (hA : ∀ o' p' c' z' s', (o' ++ (wred p').1 = o ++ (wred p).1 ∧ (wred p').2 = (wred p).2 ∧ WSm p' ∧ HOk o' ∧ o'.length + p'.length ≤ o.length + p.length ∧ 0 < p'.length ∧ p'.length < p.length ∧ CV c' ∧ CV z') → Wk [1000, 24, 32] s' (inS r st L a b o' p' c' z') → Q .norm s')
    (hB : ∀ s', wred p = ([], p) → Wk [1000, 24, 32] s' (inS r st L a b o p c0 cz) → Q (.ex 2) s') :
    AWb ⟨false, [1000]⟩ Try.prog 94 [1000, 24, 32] cturn Q (inS r st L a b o p c0 cz) := by
  have dr := fun (S z h : Int) (hS : 0 ≤ S ∧ S ≤ 1000000000) (hh : h = 1 ∨ h = 2) (C : List D) (hC : CV C) => dround st (by omega) hso S z h hS hh C hC.flat hC.noY
  have hin := (pc_cv hc0 hcz p).flat
  have hCy := (pc_cv hc0 hcz p).noY
  unfold cturn
  unfold inS at hB ⊢
  by_cases hp3 : p.length < 3
  · have hB2 := fun s' => hB s' (wred_short hp3)
    have q : decide ((p.length : Int) ≥ 3) = false := decide_eq_false (by omega)
    refine aw_seq (aw_seq (aw_region ?_))
    simp (disch := first | exact okY | omega) only [ZU, Nat.reduceAdd, Nat.reduceMul, dI, AOpRun, aexec, Nat.reduceBEq, ↓eget_h, isSh, ↓reduceIte, abin, q]
    refine aw_condF rfl (aw_exit ?_)
    simp only [thenQ]
    refine hB2 _ ?_
    unfold dI
    refine wk_q [] [(1000, 1000), (24, 24), (32, 32), (40, 40)] ?_ ?_ <;> repeat' (first | exact trivial | exact vr_val _ | exact vr_list _ | exact vr_own _ _ _ _ _ rfl | refine vr_yld _ _ _ rfl ?_ | exact Ren.bot _ | exact Ren.ptr _ _ _ rfl | refine And.intro ⟨_, rfl, .inl ⟨_, rfl, by decide, ?_⟩⟩ ?_ | apply And.intro | exact vrl_flat _ (by first | exact icells_in _ | exact rcells_in _ | exact scells_in _ | exact bcells_in _ | assumption) | fail)
    all_goals exact vrl_flat _ hin
  obtain ⟨m, hm⟩ : ∃ m, p.length = m + 3 := ⟨p.length - 3, by omega⟩
  have ga := pc_get c0 cz p (m + 2) (by omega)
  have gb := pc_get c0 cz p (m + 1) (by omega)
  have gc := pc_get c0 cz p m (by omega)
  have k1 : ((m + 3 : Nat) : Int) - 1 = ((m + 2 : Nat) : Int) := by omega
  have k2 : ((m + 3 : Nat) : Int) - 2 = ((m + 1 : Nat) : Int) := by omega
  have k3 : ((m + 3 : Nat) : Int) - 3 = (m : Int) := by omega
  have k4 : ((m + 2 : Nat) : Int) < ((m + 3 : Nat) : Int) := by omega
  have k5 : ((m + 1 : Nat) : Int) < ((m + 3 : Nat) : Int) := by omega
  have k6 : (m : Int) < ((m + 3 : Nat) : Int) := by omega
  have k7 : decide (((m + 3 : Nat) : Int) ≥ 3) = true := decide_eq_true (by omega)
  have ca := amount_ac (wg p (m + 2)) (wg p (m + 1)) (h3.get _) (h3.get _)
  have cb := amount_ac (wg p (m + 1)) (wg p m) (h3.get _) (h3.get _)
  have rs := @wred_stop p
  have r3 := @wred_three p
  have rm := @wred_more p
  have hsb := dsum_bd hso hoh
  rw [hm, show m + 3 - 1 = m + 2 by omega, show m + 3 - 2 = m + 1 by omega, show m + 3 - 3 = m by omega] at rs r3 rm
  have edl := pc_del c0 cz p m hm
  have edr := pc_drop c0 cz p hp0
  have hCl := pc_len c0 cz p
  rw [hm] at h4 hCl hA hB ⊢
  refine aw_seq (aw_seq (aw_region ?_))
  simp (disch := first | exact okY | omega) only [ZU, Nat.reduceAdd, Nat.reduceMul, dI, AOpRun, aexec, Nat.reduceBEq, ↓eget_h, isSh, ↓reduceIte, abin, k7]
  refine aw_condT rfl (aw_skip ?_)
  refine aw_seq (aw_block (aw_seq (aw_region ?_)))
  simp (disch := first | exact okY | omega) only [ZU, Nat.reduceAdd, Nat.reduceMul, AOpRun, aexec, ↓eget_h, Nat.reduceBEq, isSh, ↓reduceIte, abin, k1, fits, k4, Nat.mul_one, run1, ↓hget_h, Nat.add_zero, ga, k2, k5, gb]
  refine acall0 ca ?_
  simp (disch := first | exact okY | omega) only [ZU, Nat.reduceAdd, dI, Nat.reduceBEq, AOpRun, aexec, ↓eget_h, isSh, ↓reduceIte, abin, k2, fits, k5, Nat.mul_one, run1, ↓hget_h, Nat.add_zero, gb, k3, k6, gc]
  refine acall0 cb ?_
  simp (disch := first | exact okY | omega) only [ZU, Nat.reduceAdd, dI, Nat.reduceBEq, AOpRun, aexec, ↓eget_h]
  by_cases hlt : wdst (wg p (m + 2)) (wg p (m + 1)) < wdst (wg p (m + 1)) (wg p m)
  · have hB2 := fun s' => hB s' (rs hlt)
    have q : decide (wdst (wg p (m + 2)) (wg p (m + 1)) < wdst (wg p (m + 1)) (wg p m)) = true := decide_eq_true hlt
    refine aw_seq (aw_seq (aw_region ?_))
    simp (disch := first | exact okY | omega) only [ZU, Nat.reduceAdd, Nat.reduceMul, AOpRun, aexec, Nat.reduceBEq, ↓eget_h, isSh, ↓reduceIte, abin, q]
    refine aw_condT rfl (aw_exit ?_)
    simp only [thenQ, blockQ, if_true, if_false, Nat.reduceEqDiff, reduceCtorEq]
    refine hB2 _ ?_
    unfold dI
    refine wk_q [] [(1000, 1000), (24, 24), (32, 32), (40, 40)] ?_ ?_ <;> repeat' (first | exact trivial | exact vr_val _ | exact vr_list _ | exact vr_own _ _ _ _ _ rfl | refine vr_yld _ _ _ rfl ?_ | exact Ren.bot _ | exact Ren.ptr _ _ _ rfl | refine And.intro ⟨_, rfl, .inl ⟨_, rfl, by decide, ?_⟩⟩ ?_ | apply And.intro | exact vrl_flat _ (by first | exact icells_in _ | exact rcells_in _ | exact scells_in _ | exact bcells_in _ | assumption) | fail)
    all_goals exact vrl_flat _ hin
  have q : decide (wdst (wg p (m + 2)) (wg p (m + 1)) < wdst (wg p (m + 1)) (wg p m)) = false := decide_eq_false hlt
  clear hB rs
  refine aw_seq (aw_seq (aw_region ?_))
  simp (disch := first | exact okY | omega) only [ZU, Nat.reduceAdd, Nat.reduceMul, AOpRun, aexec, Nat.reduceBEq, ↓eget_h, isSh, ↓reduceIte, abin, q]
  refine aw_condF rfl (aw_skip ?_)
  simp only [thenQ]
  by_cases hm0 : m = 0
  · subst hm0
    have r3' := r3 rfl hlt
    have q3 : (((0 + 3 : Nat) : Int) == 3) = true := rfl
    have hd : p.drop 1 = [wg p 1, wg p 2] := by
      match p, hm with
      | [x, y, z], _ => rfl
    have dd := dr (dsum st o) (wdst (wg p (0 + 1)) (wg p 0)) 1 (by omega) (.inl rfl) (pc c0 p cz) (pc_cv hc0 hcz p)
    rw [← dsum_one, ← dsum_app] at dd
    rw [r3'] at hA
    generalize wdst (wg p (0 + 1)) (wg p 0) = Y at *
    refine aw_seq (aw_seq (aw_region ?_))
    simp (disch := first | exact okY | omega) only [ZU, Nat.reduceAdd, Nat.reduceMul, cast_lit, AOpRun, aexec, Nat.reduceBEq, ↓eget_h, isSh, ↓reduceIte, abin]
    refine aw_condT rfl (aw_seq (aw_seq (aw_region_yieldSA hr [⟨some 54, .mv (.tmp 0), none, []⟩,
                        ⟨some 55, .mv (.tmp 8), none, []⟩] [⟨some 57, .un .not (.tmp 56), none, []⟩] ?_)))
    simp (disch := first | exact okY | omega) only [ZU, Nat.reduceAdd, Nat.reduceMul, AOpRun, aexec, Nat.reduceBEq, ↓eget_h]
    refine yieldKSA [1000, 24, 32, 40] [(3, .own 40 c0.length (0 + 3) 1), (0, .yld 1000 r [.bot, .bot, .bot, .ptr 24 0, .ptr 32 0]), (11, .list L), (12, .val (.int .i64 a)), (13, .val (.int .i64 b))] [dI Y, dI 1] rfl rfl hr rfl (by simp [hpY, noY, hCy]) (by simp)
      ⟨.inr ⟨rfl, .own _ _ _ _ (by simp)⟩, .inr ⟨rfl, .yld _ _ _ (by simp) (by intro d hd; simp at hd; rcases hd with rfl | rfl | rfl <;> first | exact .bot | exact .ptr _ _ (by simp))⟩, .inr ⟨rfl, .list _⟩, .inr ⟨rfl, .val _⟩, .inr ⟨rfl, .val _⟩, trivial⟩ ?_
    refine aw_wk (wk_up (m := 2000) (by decide)) (aw_post dd (asg_post ?_))
    rintro e s ⟨rfl, hw⟩
    refine ⟨_, hw, yieldQS (by simp [hpY, noY, hCy, dI]) (of_decide_eq_true (by kernel_rfl)) ?_⟩
    simp (disch := first | exact okY | omega) only [ZU, Nat.reduceAdd, Nat.reduceMul, Nat.reduceSub, Nat.reduceBEq, dI, AOpRun, aexec, ↓eget_h]
    refine aw_condF rfl (aw_skip ?_)
    simp only [thenQ]
    have edr2 : c0.length + 1 * 1 = (c0 ++ [D.val (.int .i64 (wg p 0))]).length := by simp
    have hpd : (p.drop 1).length = 2 := by simp; omega
    have hc2 : CV (c0 ++ [D.val (.int .i64 (wg p 0))]) := hc0.app (CV.nil.cons)
    have hin2 := (pc_cv hc2 hcz (p.drop 1)).flat
    have hA2 := hA (o ++ [(Y, 1)]) (p.drop 1) (c0 ++ [D.val (.int .i64 (wg p 0))]) cz
    unfold inS at hA2
    rw [← edr, hpd, ← edr2] at hA2
    rw [← edr] at hin2
    refine aw_seq (aw_region_sp [⟨some 58, .mv (.tmp 3), none, []⟩] [⟨some 3, .mv (.tmp 59), none, []⟩] ?_)
    simp (disch := first | exact okY | omega) only [ZU, AOpRun, aexec, ↓eget_h, Nat.reduceBEq]
    refine spSl (g := 40) (off := c0.length) (n := 3) (a := 1) (k := .i64) rfl rfl (by omega) ?_
    simp (disch := first | exact okY | omega) only [ZU, Nat.reduceAdd, Nat.reduceMul, Nat.reduceSub, Nat.reduceBEq, AOpRun, aexec, ↓eget_h]
    refine aw_exit ?_
    simp only [thenQ, blockQ, if_true, if_false, Nat.reduceEqDiff, reduceCtorEq]
    refine aw_region ?_
    simp (disch := first | exact okY | omega) only [ZU, Nat.reduceAdd, Nat.reduceMul, AOpRun, aexec, ↓eget_h, Nat.reduceBEq, cast_lit]
    refine hA2 _ ⟨by rw [List.append_assoc]; rfl, rfl, h3.drop 1, hoh.app (.cons (.inl rfl) .nil), by rw [List.length_append, List.length_singleton]; omega, by omega, by omega, hc2, hcz⟩ ?_
    unfold dI
    generalize pc c0 p cz = C at *
    refine wk_q [] [(1000, 1000), (24, 24), (32, 32), (40, 40)] ?_ ?_ <;> repeat' (first | exact trivial | exact vr_val _ | exact vr_list _ | exact vr_own _ _ _ _ _ rfl | refine vr_yld _ _ _ rfl ?_ | exact Ren.bot _ | exact Ren.ptr _ _ _ rfl | refine And.intro ⟨_, rfl, .inl ⟨_, rfl, by decide, ?_⟩⟩ ?_ | apply And.intro | exact vrl_flat _ (by first | exact icells_in _ | exact rcells_in _ | exact scells_in _ | exact bcells_in _ | assumption) | fail)
    all_goals exact vrl_flat _ hin2
  have rm' := rm (by omega) hlt
  have q3 : (((m + 3 : Nat) : Int) == 3) = false := by simp only [beq_eq_false_iff_ne]; omega
  have dd := dr (dsum st o) (wdst (wg p (m + 1)) (wg p m)) 2 (by omega) (.inr rfl) (pc c0 p cz) (pc_cv hc0 hcz p)
  rw [← dsum_one, ← dsum_app] at dd
  rw [rm'] at hA
  generalize wdst (wg p (m + 1)) (wg p m) = Y at *
  refine aw_seq (aw_seq (aw_region ?_))
  simp (disch := first | exact okY | omega) only [ZU, Nat.reduceAdd, Nat.reduceMul, AOpRun, aexec, Nat.reduceBEq, ↓eget_h, isSh, ↓reduceIte, abin, q3]
  refine aw_condF rfl (aw_skip ?_)
  simp only [thenQ]
  refine aw_seq (aw_seq (aw_region_yieldSA hr [⟨some 60, .mv (.tmp 0), none, []⟩,
                     ⟨some 61, .mv (.tmp 8), none, []⟩] [⟨some 63, .un .not (.tmp 62), none, []⟩] ?_))
  simp (disch := first | exact okY | omega) only [ZU, Nat.reduceAdd, Nat.reduceMul, AOpRun, aexec, Nat.reduceBEq, ↓eget_h]
  refine yieldKSA [1000, 24, 32, 40] [(3, .own 40 c0.length (m + 3) 1), (0, .yld 1000 r [.bot, .bot, .bot, .ptr 24 0, .ptr 32 0]), (6, .val (.int .i64 ((m + 3 : Nat) : Int))), (11, .list L), (12, .val (.int .i64 a)), (13, .val (.int .i64 b))] [dI Y, dI 2] rfl rfl hr rfl (by simp [hpY, noY, hCy]) (by simp)
    ⟨.inr ⟨rfl, .own _ _ _ _ (by simp)⟩, .inr ⟨rfl, .yld _ _ _ (by simp) (by intro d hd; simp at hd; rcases hd with rfl | rfl | rfl <;> first | exact .bot | exact .ptr _ _ (by simp))⟩, .inr ⟨rfl, .val _⟩, .inr ⟨rfl, .list _⟩, .inr ⟨rfl, .val _⟩, .inr ⟨rfl, .val _⟩, trivial⟩ ?_
  refine aw_wk (wk_up (m := 2000) (by decide)) (aw_post dd (asg_post ?_))
  rintro e s ⟨rfl, hw⟩
  refine ⟨_, hw, yieldQS (by simp [hpY, noY, hCy, dI]) (of_decide_eq_true (by kernel_rfl)) ?_⟩
  simp (disch := first | exact okY | omega) only [ZU, Nat.reduceAdd, Nat.reduceMul, Nat.reduceSub, Nat.reduceBEq, dI, AOpRun, aexec, ↓eget_h]
  refine aw_condF rfl (aw_skip ?_)
  simp only [thenQ]
  have cdl := wdel_ac 40 c0.length m (pc c0 p cz) (wg p (m + 2)) (by omega) ga
  rw [edl] at cdl
  have hpn : (p.take m ++ [wg p (m + 2)]).length = m + 1 := by simp; omega
  have hz2 : CV (.val (.int .i64 0) :: .val (.int .i64 0) :: cz) := hcz.cons.cons
  have hin2 := (pc_cv hc0 hz2 (p.take m ++ [wg p (m + 2)])).flat
  have hA2 := hA (o ++ [(Y, 2)]) (p.take m ++ [wg p (m + 2)]) c0 (.val (.int .i64 0) :: .val (.int .i64 0) :: cz)
  unfold inS at hA2
  rw [hpn] at hA2
  have hsm2 : WSm (p.take m ++ [wg p (m + 2)]) := (h3.take m).snoc (h3.get _)
  have hol2 : (o ++ [(Y, 2)]).length = o.length + 1 := by simp
  refine aw_region ?_
  simp (disch := first | exact okY | omega) only [ZU, blockQ, Nat.reduceAdd, Nat.reduceMul, AOpRun, aexec, ↓eget_h, Nat.reduceBEq, isSh, ↓reduceIte, abin, k3, fits, k1]
  refine acallB cdl (by repeat' (first | exact trivial | exact rfl | refine And.intro ?_ ?_)) (by kernel_rfl) (by kernel_rfl) (by kernel_rfl) ?_
  simp (disch := first | exact okY | omega) only [ZU, Nat.reduceAdd, Nat.reduceBEq, AOpRun, aexec, ↓eget_h]
  refine aw_region ?_
  simp (disch := first | exact okY | omega) only [ZU, Nat.reduceAdd, Nat.reduceMul, AOpRun, aexec, ↓eget_h, Nat.reduceBEq]
  refine hA2 _ ⟨by rw [List.append_assoc]; rfl, rfl, hsm2, hoh.app (.cons (.inr rfl) .nil), by omega, by omega, by omega, hc0, hz2⟩ ?_
  unfold dI
  generalize pc c0 (p.take m ++ [wg p (m + 2)]) (.val (.int .i64 0) :: .val (.int .i64 0) :: cz) = C at *
  refine wk_q [] [(1000, 1000), (24, 24), (32, 32), (40, 40)] ?_ ?_ <;> repeat' (first | exact trivial | exact vr_val _ | exact vr_list _ | exact vr_own _ _ _ _ _ rfl | refine vr_yld _ _ _ rfl ?_ | exact Ren.bot _ | exact Ren.ptr _ _ _ rfl | refine And.intro ⟨_, rfl, .inl ⟨_, rfl, by decide, ?_⟩⟩ ?_ | apply And.intro | exact vrl_flat _ (by first | exact icells_in _ | exact rcells_in _ | exact scells_in _ | exact bcells_in _ | assumption) | fail)
  all_goals exact vrl_flat _ hin2
end Go.Proofs.Ytdcodicoclecnaa
/- parts: the loop over the cycles of a series, with the damage as its body (views last). No conditions. -/
namespace Go.Proofs.Ytdcodicoclecnaa
open Go Go.RowKit Lift

theorem aw_absQ {rd : Rd} {P : Program} {n : Nat} {pre : List Nat} {c : ACode} {Q : AExit → St → Prop} {s : St} (A : (AExit → St → Prop) → Prop) (hQ : A Q) (h : ∀ QQ, A QQ → AWb rd P n pre c QQ s) : AWb rd P n pre c Q s := h Q hQ
set_option maxRecDepth 100000 in
set_option maxHeartbeats 16000000 in
theorem dcount {r : Loop} (hr : LoopIsA Try.prog 73 [56, 57] cparts_Damage_B100056 cparts_Damage_B56 r) (s : List Int) (hs : s.length ≤ 300) (hsm : WSm s) (st : List (Int × Int)) (hst : st.length ≤ 8) (hso : StOk st) :
    AWb ⟨false, [1000]⟩ Try.prog 94 [1000, 24, 32] cparts_count_S1 (fun e s' => (e = .norm ∨ e = .ret) ∧ Wk [1000, 24, 32] s' ⟨[(0, .yld 1000 r [.bot, .bot, .bot, .ptr 24 0, .ptr 32 0])], [(24, [.list (sps st)]), (32, [dI (dsum st (cyc (wturn s)))])], 6000⟩)
      ⟨envOf 0 [.yld 1000 r [.bot, .bot, .bot, .ptr 24 0, .ptr 32 0], .ptr 224 0], [(24, [.list (sps st)]), (32, [dI 0]), (224, [.list (ints s)])], 1008⟩ := by
  have ct := turning_ac s (by omega)
  have htl := wturn_len s
  have htm := wturn_sm hsm
  unfold cyc
  generalize wturn s = t at *
  have ta := ints_all t
  have tl := ints_len t
  unfold cparts_count_S1
  refine aw_seq (aw_region ?_)
  simp (disch := first | exact okY | omega) only [ZU, dI, Nat.reduceMul, Nat.reduceAdd, AOpRun, aexec, Nat.reduceBEq]
  refine aw_seq (aw_seq (aw_region ?_))
  simp (disch := first | exact okY | omega) only [ZU, Nat.reduceAdd, Nat.reduceMul, AOpRun, aexec, run1, Nat.reduceBEq, ↓eget_h, ↓hget_h]
  refine acall0 ct ?_
  simp (disch := first | exact okY | omega) only [ZU, Nat.reduceAdd, Nat.reduceBEq, AOpRun, aexec, ↓eget_h, tl]
  clear ct
  refine aw_block ?_
  refine aw_loop (fun x : Nat × List D × List D => ⟨[(3, if x.1 = 0 then .vec 40 0 1 else .own 40 x.2.1.length (cyP t x.1).2.length 1), (0, .yld 1000 r [.bot, .bot, .bot, .ptr 24 0, .ptr 32 0]), (11, .list (ints t)), (12, dI t.length), (13, dI x.1)], [(24, [.list (sps st)]), (32, [dI (dsum st (cyP t x.1).1)]), (40, if x.1 = 0 then [] else pc x.2.1 (cyP t x.1).2 x.2.2)], 1100⟩) (fun x => x.1 ≤ t.length ∧ CV x.2.1 ∧ CV x.2.2 ∧ (x.1 = 0 ∨ 0 < (cyP t x.1).2.length)) (fun x => t.length - x.1) ⟨(0, [], []), ⟨by simp, .nil, .nil, .inl rfl⟩, ?_⟩ ?_
  · simp only [if_true]
    rw [show dsum st (cyP t 0).1 = 0 from rfl]
    unfold dI
    refine wk_q [] [(1000, 1000), (24, 24), (32, 32), (40, 1104)] ?_ ?_ <;> repeat' (first | exact trivial | exact vr_val _ | exact vr_list _ | exact vr_nilv _ _ _ rfl | refine vr_yld _ _ _ rfl ?_ | exact Ren.bot _ | exact Ren.ptr _ _ _ rfl | refine And.intro ⟨_, rfl, .inl ⟨_, rfl, by decide, ?_⟩⟩ ?_ | refine And.intro ⟨_, rfl, .inr ⟨rfl, rfl, of_decide_eq_true (by kernel_rfl)⟩⟩ ?_ | apply And.intro)
  rintro ⟨i, c0, cz⟩ ⟨hile, hc0, hcz, hne⟩
  simp only at hile hc0 hcz hne ⊢
  refine aw_absQ (fun QQ => (∀ c z s', i < t.length → CV c → CV z → 0 < (cyP t (i + 1)).2.length → Wk [1000, 24, 32] s' ⟨[(3, .own 40 c.length (cyP t (i + 1)).2.length 1), (0, .yld 1000 r [.bot, .bot, .bot, .ptr 24 0, .ptr 32 0]), (11, .list (ints t)), (12, dI t.length), (13, dI ((i + 1 : Nat) : Int))], [(24, [.list (sps st)]), (32, [dI (dsum st (cyP t (i + 1)).1)]), (40, pc c (cyP t (i + 1)).2 z)], 1100⟩ → QQ .norm s') ∧
      (∀ s', i = t.length → Wk [1000, 24, 32] s' ⟨[(3, if i = 0 then .vec 40 0 1 else .own 40 c0.length (cyP t i).2.length 1), (0, .yld 1000 r [.bot, .bot, .bot, .ptr 24 0, .ptr 32 0])], [(24, [.list (sps st)]), (32, [dI (dsum st (cyP t i).1)]), (40, if i = 0 then [] else pc c0 (cyP t i).2 cz)], 1100⟩ → QQ (.ex 0) s')) ⟨?_, ?_⟩ ?_
  · intro c z s' hlt hc hz hp hw
    refine ⟨(i + 1, c, z), ⟨hlt, hc, hz, .inr hp⟩, by simp only; omega, ?_⟩
    simp only [show ¬ i + 1 = 0 by omega, if_false]
    exact hw
  · intro s' he hw
    subst he
    simp only [thenQ, blockQ, if_true, if_false, Nat.reduceEqDiff, reduceCtorEq]
    refine aw_wk hw ?_
    clear hw
    have hl := cyP_len t t.length
    have hpm := cyP_sm htm t.length
    have hoh := cyP_h t t.length
    have hz : t.length = 0 → (cyP t t.length).2 = [] := fun h => by rw [h]; rfl
    generalize (cyP t t.length).1 = o at *
    generalize (cyP t t.length).2 = p at *
    by_cases ht0 : t.length = 0
    · rw [hz ht0]
      simp only [ht0, if_true]
      rw [show rsN [] ([] : List Int).length = [] from rfl, List.append_nil]
      refine aw_seq (aw_region ?_)
      simp (disch := first | exact okY | omega) only [ZU, Nat.reduceAdd, Nat.reduceMul, dI, AOpRun, aexec, ↓eget_h, Nat.reduceBEq, cast_lit]
      refine aw_block ?_
      refine aw_loop (fun x : Unit => ⟨[(3, .vec 40 0 1), (0, .yld 1000 r [.bot, .bot, .bot, .ptr 24 0, .ptr 32 0]), (72, dI 0), (73, dI 0)], [(24, [.list (sps st)]), (32, [dI (dsum st o)]), (40, [])], 1200⟩) (fun _ => True) (fun _ => 0) ⟨(), trivial, ?_⟩ ?_
      · unfold dI
        refine wk_q [] [(1000, 1000), (24, 24), (32, 32), (40, 40)] ?_ ?_ <;> repeat' (first | exact trivial | exact vr_val _ | exact vr_list _ | exact vr_vec _ _ _ _ rfl | refine vr_yld _ _ _ rfl ?_ | exact Ren.bot _ | exact Ren.ptr _ _ _ rfl | refine And.intro ⟨_, rfl, .inl ⟨_, rfl, by decide, ?_⟩⟩ ?_ | apply And.intro)
      rintro _ _
      refine aw_seq (aw_region ?_)
      simp (disch := first | exact okY | omega) only [ZU, Nat.reduceLT, dI, false_and, and_false, Nat.reduceMul, Nat.reduceAdd, AOpRun, aexec, Nat.reduceBEq, ↓eget_h, isSh, ↓reduceIte, abin, Int.reduceLT, decide_false]
      refine aw_seq (aw_condF rfl (aw_exit ?_))
      simp only [thenQ, blockQ, if_true, if_false, Nat.reduceEqDiff, reduceCtorEq]
      refine ⟨.inl trivial, ?_⟩
      refine wk_q [] [(1000, 1000), (24, 24), (32, 32)] ?_ ?_ <;> repeat' (first | exact trivial | exact vr_val _ | exact vr_list _ | refine vr_yld _ _ _ rfl ?_ | exact Ren.bot _ | exact Ren.ptr _ _ _ rfl | refine And.intro ⟨_, rfl, .inl ⟨_, rfl, by decide, ?_⟩⟩ ?_ | apply And.intro)
    simp only [ht0, if_false]
    have hp0 := hne.resolve_left ht0
    have hin := (pc_cv hc0 hcz p).flat
    have hCy := (pc_cv hc0 hcz p).noY
    have gg := pc_get c0 cz p
    refine aw_seq (aw_region ?_)
    simp (disch := first | exact okY | omega) only [ZU, Nat.reduceAdd, Nat.reduceMul, dI, AOpRun, aexec, ↓eget_h, Nat.reduceBEq]
    refine aw_block ?_
    refine aw_loop (fun j : Nat => ⟨[(3, .own 40 c0.length p.length 1), (0, .yld 1000 r [.bot, .bot, .bot, .ptr 24 0, .ptr 32 0]), (72, dI p.length), (73, dI j)], [(24, [.list (sps st)]), (32, [dI (dsum st (o ++ rsN p j))]), (40, pc c0 p cz)], 1200⟩) (fun j => j ≤ p.length) (fun j => p.length - j) ⟨0, by omega, ?_⟩ ?_
    · rw [show rsN p 0 = [] from rfl, List.append_nil]
      unfold dI
      refine wk_q [] [(1000, 1000), (24, 24), (32, 32), (40, 40)] ?_ ?_ <;> repeat' (first | exact trivial | exact vr_val _ | exact vr_list _ | exact vr_own _ _ _ _ _ rfl | refine vr_yld _ _ _ rfl ?_ | exact Ren.bot _ | exact Ren.ptr _ _ _ rfl | refine And.intro ⟨_, rfl, .inl ⟨_, rfl, by decide, ?_⟩⟩ ?_ | apply And.intro | exact vrl_flat _ (by first | exact icells_in _ | exact rcells_in _ | exact scells_in _ | exact bcells_in _ | assumption) | fail)
      all_goals exact vrl_flat _ hin
    intro j hj
    by_cases hj2 : j < p.length
    case neg =>
      obtain rfl : j = p.length := by omega
      refine aw_seq (aw_region ?_)
      simp (disch := first | exact okY | omega) only [ZU, dI, Nat.reduceMul, Nat.reduceAdd, AOpRun, aexec, Nat.reduceBEq, ↓eget_h, isSh, ↓reduceIte, abin, Int.lt_irrefl, decide_false]
      refine aw_seq (aw_condF rfl (aw_exit ?_))
      simp only [thenQ, blockQ, if_true, if_false, Nat.reduceEqDiff, reduceCtorEq]
      refine ⟨.inl trivial, ?_⟩
      refine wk_q [] [(1000, 1000), (24, 24), (32, 32)] ?_ ?_ <;> repeat' (first | exact trivial | exact vr_val _ | exact vr_list _ | refine vr_yld _ _ _ rfl ?_ | exact Ren.bot _ | exact Ren.ptr _ _ _ rfl | refine And.intro ⟨_, rfl, .inl ⟨_, rfl, by decide, ?_⟩⟩ ?_ | apply And.intro)
    have kj : (j : Int) < (p.length : Int) := by omega
    cases j with
    | zero =>
      have k0 : (0 : Int) < (p.length : Int) := by omega
      have q00 : decide ((0 : Int) > 0) = false := rfl
      rw [show rsN p 0 = [] from rfl, List.append_nil]
      refine aw_seq (aw_region ?_)
      simp (disch := first | exact okY | omega) only [ZU, dI, Nat.reduceMul, Nat.reduceAdd, cast_lit, AOpRun, aexec, Nat.reduceBEq, ↓eget_h, isSh, ↓reduceIte, abin, k0]
      refine aw_seq (aw_condT rfl (aw_skip ?_))
      refine aw_seq (aw_block (aw_seq (aw_region ?_)))
      simp (disch := first | exact okY | omega) only [ZU, Nat.reduceAdd, Nat.reduceMul, AOpRun, aexec, Nat.reduceBEq, ↓eget_h]
      refine aw_seq (aw_region ?_)
      simp (disch := first | exact okY | omega) only [ZU, Nat.reduceAdd, Nat.reduceMul, AOpRun, aexec, Nat.reduceBEq, ↓eget_h, isSh, ↓reduceIte, abin, q00, ARun_some, AG_ft]
      refine aw_condF rfl (aw_skip ?_)
      simp only [thenQ, blockQ, if_true, if_false, Nat.reduceEqDiff, reduceCtorEq]
      refine aw_region ?_
      simp (disch := first | exact okY | omega) only [ZU, Nat.reduceAdd, Nat.reduceMul, AOpRun, aexec, Nat.reduceBEq, ↓eget_h, isSh, ↓reduceIte, abin, Int.reduceAdd, fits]
      refine ⟨0 + 1, by omega, by omega, ?_⟩
      rw [show rsN p (0 + 1) = [] from rfl, List.append_nil]
      refine wk_q [] [(1000, 1000), (24, 24), (32, 32), (40, 40)] ?_ ?_ <;> repeat' (first | exact trivial | exact vr_val _ | exact vr_list _ | exact vr_own _ _ _ _ _ rfl | refine vr_yld _ _ _ rfl ?_ | exact Ren.bot _ | exact Ren.ptr _ _ _ rfl | refine And.intro ⟨_, rfl, .inl ⟨_, rfl, by decide, ?_⟩⟩ ?_ | apply And.intro | exact vrl_flat _ (by first | exact icells_in _ | exact rcells_in _ | exact scells_in _ | exact bcells_in _ | assumption) | fail)
      all_goals exact vrl_flat _ hin
    | succ m =>
    have ga := gg (m + 1) hj2
    have gb := gg m (by omega)
    have k1 : ((m + 1 : Nat) : Int) - 1 = (m : Int) := by omega
    have k2 : decide (((m + 1 : Nat) : Int) > 0) = true := decide_eq_true (by omega)
    have k3 : (m : Int) < (p.length : Int) := by omega
    have ca := amount_ac (wg p (m + 1)) (wg p m) (hpm.get _) (hpm.get _)
    have hrl := rsN_len p (m + 1)
    have hsb := dsum_bd hso (hoh.app (rsN_h p (m + 1)))
    rw [List.length_append] at hsb
    have dd := dround st (by omega) hso (dsum st (o ++ rsN p (m + 1))) (wdst (wg p (m + 1)) (wg p m)) 1 (by omega) (.inl rfl) (pc c0 p cz) hin hCy
    rw [← dsum_one, ← dsum_app, List.append_assoc, show rsN p (m + 1) ++ [(wdst (wg p (m + 1)) (wg p m), 1)] = rsN p (m + 1 + 1) from rfl] at dd
    have fin : m + 1 + 1 ≤ p.length := by omega
    have fin2 : p.length - (m + 1 + 1) < p.length - (m + 1) := by omega
    generalize hS2 : dsum st (o ++ rsN p (m + 1 + 1)) = S2 at *
    generalize dsum st (o ++ rsN p (m + 1)) = S1 at *
    generalize wdst (wg p (m + 1)) (wg p m) = Y at *
    generalize wg p (m + 1) = x1 at *
    generalize wg p m = x2 at *
    refine aw_seq (aw_region ?_)
    simp (disch := first | exact okY | omega) only [ZU, dI, Nat.reduceMul, Nat.reduceAdd, AOpRun, aexec, Nat.reduceBEq, ↓eget_h, isSh, ↓reduceIte, abin, kj]
    refine aw_seq (aw_condT rfl (aw_skip ?_))
    refine aw_seq (aw_block (aw_seq (aw_region ?_)))
    simp (disch := first | exact okY | omega) only [ZU, Nat.reduceAdd, Nat.reduceMul, AOpRun, aexec, Nat.reduceBEq, ↓eget_h]
    refine aw_seq (aw_region_yieldDA hr [⟨some 76, .mv (.tmp 9), none, []⟩, ⟨some 77, .bin .gtr (.tmp 76) (.const (.int .i64 0)), none, [0]⟩, ⟨some 78, .mv (.tmp 77), none, [1, 0]⟩, ⟨some 79, .mv (.tmp 0), (some (some 78, true)), [2, 1, 0]⟩, ⟨some 80, .mv (.tmp 3), (some (some 78, true)), [2, 1, 0]⟩, ⟨some 81, .mv (.tmp 9), (some (some 78, true)), [2, 1, 0]⟩, ⟨some 82, .iadS 1 (.tmp 80) (.tmp 81), (some (some 78, true)), [4, 2, 1, 0, 5]⟩, ⟨some 83, .load1 (.tmp 82), (some (some 78, true)), [6, 4, 2, 1, 0, 5]⟩, ⟨some 84, .mv (.tmp 3), (some (some 78, true)), [2, 1, 0]⟩, ⟨some 85, .mv (.tmp 9), (some (some 78, true)), [2, 1, 0]⟩, ⟨some 86, .bin .sub (.tmp 85) (.const (.int .i64 1)), (some (some 78, true)), [9, 2, 1, 0]⟩, ⟨some 87, .iadS 1 (.tmp 84) (.tmp 86), (some (some 78, true)), [8, 2, 1, 0, 10, 9]⟩, ⟨some 88, .load1 (.tmp 87), (some (some 78, true)), [11, 8, 2, 1, 0, 10, 9]⟩, ⟨some 89, .call (.func 138) [(.tmp 83), (.tmp 88)], (some (some 78, true)), [7, 6, 4, 2, 1, 0, 5, 12, 11, 8, 10, 9]⟩] [⟨some 91, .un .not (.tmp 90), (some (some 78, true)), [14, 3, 2, 1, 0, 13, 7, 6, 4, 5, 12, 11, 8, 10, 9]⟩, ⟨some 92, .pick (.tmp 78) (.tmp 91) (.const (.bool false)), none, [2, 1, 0, 15, 14, 3, 13, 7, 6, 4, 5, 12, 11, 8, 10, 9]⟩] (by decide) (by decide) ?_)
    simp (disch := first | exact okY | omega) only [ZU, Nat.reduceAdd, Nat.reduceMul, AOpRun, aexec, Nat.reduceBEq, ↓eget_h, isSh, ↓reduceIte, abin, k2, ARun_some, AG_tt, kj, Nat.mul_one, run1, ↓hget_h, Nat.add_zero, ga, k1, fits, k3, gb]
    refine acall0 ca ?_
    simp (disch := first | exact okY | omega) only [ZU, Nat.reduceAdd, dI, Nat.reduceBEq]
    refine yieldKDA [1000, 24, 32, 40] [(3, .own 40 c0.length p.length 1), (0, .yld 1000 r [.bot, .bot, .bot, .ptr 24 0, .ptr 32 0]), (72, .val (.int .i64 p.length)), (73, .val (.int .i64 ((m + 1 : Nat) : Int))), (78, .val (.bool true))] [dI Y, dI 1] (.inl rfl) rfl rfl hr rfl (by simp [hpY, noY, hCy]) (by simp)
      ⟨.inr ⟨rfl, .own _ _ _ _ (by simp)⟩, .inr ⟨rfl, .yld _ _ _ (by simp) (by intro d hd; simp at hd; rcases hd with rfl | rfl | rfl <;> first | exact .bot | exact .ptr _ _ (by simp))⟩, .inr ⟨rfl, .val _⟩, .inr ⟨rfl, .val _⟩, .inr ⟨rfl, .val _⟩, trivial⟩ ?_
    refine aw_wk (wk_up (m := 2000) (by decide)) (aw_post dd (asg_post ?_))
    rintro e s ⟨rfl, hw⟩
    refine ⟨_, hw, yieldQD (by simp [hpY, noY, hCy, dI]) (of_decide_eq_true (by kernel_rfl)) ?_⟩
    simp (disch := first | exact okY | omega) only [ZU, Nat.reduceAdd, Nat.reduceMul, Nat.reduceSub, Nat.reduceBEq, dI, ARun_some, ↓eget_h, AG_tt, AOpRun, aexec, ↓reduceIte]
    refine aw_condF rfl (aw_skip ?_)
    simp only [thenQ, blockQ, if_true, if_false, Nat.reduceEqDiff, reduceCtorEq]
    refine aw_region ?_
    simp (disch := first | exact okY | omega) only [ZU, Nat.reduceAdd, Nat.reduceMul, AOpRun, aexec, Nat.reduceBEq, ↓eget_h, isSh, ↓reduceIte, abin, fits]
    refine ⟨m + 1 + 1, fin, fin2, ?_⟩
    rw [hS2]
    refine wk_q [] [(1000, 1000), (24, 24), (32, 32), (40, 40)] ?_ ?_ <;> repeat' (first | exact trivial | exact vr_val _ | exact vr_list _ | exact vr_own _ _ _ _ _ rfl | refine vr_yld _ _ _ rfl ?_ | exact Ren.bot _ | exact Ren.ptr _ _ _ rfl | refine And.intro ⟨_, rfl, .inl ⟨_, rfl, by decide, ?_⟩⟩ ?_ | apply And.intro | exact vrl_flat _ (by first | exact icells_in _ | exact rcells_in _ | exact scells_in _ | exact bcells_in _ | assumption) | fail)
    all_goals exact vrl_flat _ hin
  rintro QQ ⟨hA, hB⟩
  have hinO : ∀ d ∈ pc c0 (cyP t i).2 cz, In (fun _ => False) d := (pc_cv hc0 hcz _).flat
  by_cases hi2 : i < t.length
  case neg =>
    obtain rfl : i = t.length := by omega
    clear hA
    refine aw_seq (aw_region ?_)
    simp (disch := first | exact okY | omega) only [ZU, Nat.reduceMul, Nat.reduceAdd, dI, AOpRun, aexec, Nat.reduceBEq, ↓eget_h, isSh, ↓reduceIte, abin, Int.lt_irrefl, decide_false]
    refine aw_seq (aw_condF rfl (aw_exit ?_))
    simp only [thenQ, blockQ, if_true, if_false, Nat.reduceEqDiff, reduceCtorEq]
    refine hB _ rfl ?_
    by_cases h0 : t.length = 0
    · simp only [h0, if_true]
      unfold dI
      refine wk_q [] [(1000, 1000), (24, 24), (32, 32), (40, 40)] ?_ ?_ <;> repeat' (first | exact trivial | exact vr_val _ | exact vr_list _ | exact vr_vec _ _ _ _ rfl | refine vr_yld _ _ _ rfl ?_ | exact Ren.bot _ | exact Ren.ptr _ _ _ rfl | refine And.intro ⟨_, rfl, .inl ⟨_, rfl, by decide, ?_⟩⟩ ?_ | apply And.intro)
    · simp only [h0, if_false]
      unfold dI
      refine wk_q [] [(1000, 1000), (24, 24), (32, 32), (40, 40)] ?_ ?_ <;> repeat' (first | exact trivial | exact vr_val _ | exact vr_list _ | exact vr_own _ _ _ _ _ rfl | refine vr_yld _ _ _ rfl ?_ | exact Ren.bot _ | exact Ren.ptr _ _ _ rfl | refine And.intro ⟨_, rfl, .inl ⟨_, rfl, by decide, ?_⟩⟩ ?_ | apply And.intro | exact vrl_flat _ (by first | exact icells_in _ | exact rcells_in _ | exact scells_in _ | exact bcells_in _ | assumption) | fail)
      all_goals exact vrl_flat _ hinO
  clear hB hinO
  have gx := ints_gd t i hi2
  rw [show t[i]?.getD 0 = wg t i from rfl] at gx
  have ki : (i : Int) < (t.length : Int) := by omega
  have hl := cyP_len t i
  have hpm := cyP_sm htm i
  have hwt := htm.get i
  have hoh := cyP_h t i
  have et1 : (cyP t (i + 1)).1 = (cyP t i).1 ++ (wred ((cyP t i).2 ++ [wg t i])).1 := rfl
  have et2 : (cyP t (i + 1)).2 = (wred ((cyP t i).2 ++ [wg t i])).2 := rfl
  have fin : i + 1 ≤ t.length := by omega
  have fin2 : t.length - (i + 1) < t.length - i := by omega
  have hz : i = 0 → (cyP t i).2 = [] := by rintro rfl; rfl
  generalize hT1 : (cyP t (i + 1)).1 = T1 at *
  generalize hT2 : (cyP t (i + 1)).2 = T2 at *
  generalize (cyP t i).1 = o0 at *
  generalize (cyP t i).2 = p0 at *
  generalize wg t i = n at *
  refine aw_seq (aw_region ?_)
  simp (disch := first | exact okY | omega) only [ZU, Nat.reduceMul, Nat.reduceAdd, dI, AOpRun, aexec, Nat.reduceBEq, ↓eget_h, isSh, ↓reduceIte, abin, ki]
  refine aw_seq (aw_condT rfl (aw_skip ?_))
  refine aw_seq (aw_block (aw_seq (aw_region ?_)))
  simp (disch := first | exact okY | omega) only [ZU, Nat.reduceAdd, Nat.reduceMul, AOpRun, aexec, Nat.reduceBEq, ↓eget_h, ta, ↓reduceIte, opt1, gx, run1]
  refine aw_seq2 (M := fun c : List D => CV c) (S1 := fun c => ⟨[(3, .own 40 c.length (p0.length + 1) 1), (0, .yld 1000 r [.bot, .bot, .bot, .ptr 24 0, .ptr 32 0]), (11, .list (ints t)), (12, .val (.int .i64 t.length)), (13, .val (.int .i64 i))], [(24, [.list (sps st)]), (32, [.val (.int .i64 (dsum st o0))]), (40, pc c (p0 ++ [n]) [])], 1200⟩) ?_ ?_
  · by_cases hi0 : i = 0
    · have hp0 := hz hi0
      subst hp0
      simp only [hi0, if_true]
      refine aw_region ?_
      simp (disch := first | exact okY | omega) only [ZU, Nat.reduceAdd, Nat.reduceMul, cast_lit, true_and, AOpRun, aexec, ↓eget_h, Nat.reduceBEq, ↓reduceIte, fillD, D.isBot, D.cells, ne_eq, not_true_eq_false, Nat.reduceGT, or_self, splice, List.take, List.drop, base, ↓hget_h, Nat.zero_le, elems, Nat.reduceLeDiff, List.all, D.leaf, and_true, ups]
      refine ago_if (by omega) ?_
      simp (disch := first | exact okY | omega) only [ZU, Nat.reduceAdd, Nat.reduceBEq, hdel_c, hdel_n, AOpRun, aexec, ↓eget_h]
      refine ⟨[], .nil, ?_⟩
      refine Wk.trans (b := ⟨[(3, .vec 40 1 1), (0, .yld 1000 r [.bot, .bot, .bot, .ptr 24 0, .ptr 32 0]), (11, .list (ints t)), (12, .val (.int .i64 t.length)), (13, .val (.int .i64 ((0 : Nat) : Int)))], [(24, [.list (sps st)]), (32, [.val (.int .i64 (dsum st o0))]), (40, [.val (.int .i64 n)])], 1200⟩) ?_ (wk_vo (by omega))
      refine wk_q [] [(1000, 1000), (24, 24), (32, 32), (40, 1156)] ?_ ?_ <;> repeat' (first | exact trivial | exact vr_val _ | exact vr_list _ | exact vr_vec _ _ _ _ rfl | refine vr_yld _ _ _ rfl ?_ | exact Ren.bot _ | exact Ren.ptr _ _ _ rfl | refine And.intro ⟨_, rfl, .inl ⟨_, rfl, by decide, ?_⟩⟩ ?_ | apply And.intro)
    · simp only [hi0, if_false]
      have hpl : 0 < p0.length := hne.resolve_left hi0
      have ha : (pc c0 p0 cz).length = c0.length + (p0.length + cz.length) := pc_len c0 cz p0
      have hm := pc_mid c0 cz p0
      have hh := pc_head c0 cz p0
      have hcv := pc_cv hc0 hcz p0
      generalize pc c0 p0 cz = C at *
      refine aw_region_sp [⟨some 17, .mv (.tmp 3), none, []⟩,
             ⟨some 18, .mv (.tmp 5), none, []⟩,
             ⟨some 19, .buildSl 1 1 [(.val (.int .i64 0))] [(0, 1, (.tmp 18))], none, []⟩] [⟨some 3, .mv (.tmp 20), none, []⟩] ?_
      simp (disch := first | exact okY | omega) only [ZU, Nat.reduceAdd, AOpRun, aexec, ↓eget_h, Nat.reduceBEq, Nat.reduceMul, ↓reduceIte, fillD, D.isBot, D.cells, ne_eq, not_true_eq_false, Nat.reduceGT, or_self, splice, List.take, List.drop]
      refine spApp (g := 40) (off := c0.length) (n := p0.length) (m := 1) (cg := C) (c' := [.val (.int .i64 n)]) (rd := [1148]) rfl rfl (by omega) rfl (by omega) (by omega) (by omega) rfl rfl ?_
      rw [Nat.mul_one, hm, hh]
      rintro c hc
      have hcc : CV c := by rcases hc with rfl | rfl; exact .nil; exact hc0
      simp (disch := first | exact okY | omega) only [ZU, Nat.reduceAdd, Nat.reduceMul, true_and, Nat.reduceBEq, ups, hdel_c, hdel_n, AOpRun, aexec, ↓eget_h]
      refine ⟨c, hcc, ?_⟩
      have hpc : c ++ (icells p0 ++ [.val (.int .i64 n)]) = pc c (p0 ++ [n]) [] := by simp [pc, icells]
      have hin := (pc_cv hcc .nil (p0 ++ [n])).flat
      rw [hpc]
      generalize pc c (p0 ++ [n]) [] = C2 at *
      refine wk_q [] [(1000, 1000), (24, 24), (32, 32), (40, 1156)] ?_ ?_ <;> repeat' (first | exact trivial | exact vr_val _ | exact vr_list _ | exact vr_own _ _ _ _ _ rfl | refine vr_yld _ _ _ rfl ?_ | exact Ren.bot _ | exact Ren.ptr _ _ _ rfl | refine And.intro ⟨_, rfl, .inl ⟨_, rfl, by decide, ?_⟩⟩ ?_ | apply And.intro | exact vrl_flat _ (by first | exact icells_in _ | exact rcells_in _ | exact scells_in _ | exact bcells_in _ | assumption) | fail)
      all_goals exact vrl_flat _ hin
  intro c hcv
  have hpl0 : p0.length + 1 = (p0 ++ [n]).length := by simp
  have hpm1 : WSm (p0 ++ [n]) := hpm.snoc hwt
  have hb0 : o0.length + (p0 ++ [n]).length ≤ i + 1 := by rw [← hpl0]; omega
  have hp1 : 0 < (p0 ++ [n]).length := by rw [← hpl0]; omega
  rw [hpl0]
  clear hpl0 hne hz
  generalize p0 ++ [n] = p1 at *
  refine aw_seq (aw_region ?_)
  simp (disch := first | exact okY | omega) only [ZU, Nat.reduceAdd, Nat.reduceMul, AOpRun, aexec, ↓eget_h, Nat.reduceBEq]
  refine aw_block ?_
  refine aw_loop (fun x : (List (Int × Int) × List Int) × List D × List D => ⟨[(3, .own 40 x.2.1.length x.1.2.length 1), (0, .yld 1000 r [.bot, .bot, .bot, .ptr 24 0, .ptr 32 0]), (6, dI x.1.2.length), (11, .list (ints t)), (12, dI t.length), (13, dI i)], [(24, [.list (sps st)]), (32, [dI (dsum st x.1.1)]), (40, pc x.2.1 x.1.2 x.2.2)], 1100⟩) (fun x => (x.1.1 ++ (wred x.1.2).1 = T1 ∧ (wred x.1.2).2 = T2 ∧ WSm x.1.2 ∧ x.1.1.length + x.1.2.length ≤ i + 1) ∧ HOk x.1.1 ∧ 0 < x.1.2.length ∧ CV x.2.1 ∧ CV x.2.2) (fun x => x.1.2.length) ⟨((o0, p1), (c, [])), ⟨⟨et1.symm, et2.symm, hpm1, hb0⟩, hoh, hp1, hcv, .nil⟩, ?_⟩ ?_
  · simp only
    have hin := (pc_cv hcv .nil p1).flat
    unfold dI
    refine wk_q [] [(1000, 1000), (24, 24), (32, 32), (40, 40)] ?_ ?_ <;> repeat' (first | exact trivial | exact vr_val _ | exact vr_list _ | exact vr_own _ _ _ _ _ rfl | refine vr_yld _ _ _ rfl ?_ | exact Ren.bot _ | exact Ren.ptr _ _ _ rfl | refine And.intro ⟨_, rfl, .inl ⟨_, rfl, by decide, ?_⟩⟩ ?_ | apply And.intro | exact vrl_flat _ (by first | exact icells_in _ | exact rcells_in _ | exact scells_in _ | exact bcells_in _ | assumption) | fail)
    all_goals exact vrl_flat _ hin
  rintro ⟨⟨o, p⟩, d0, dz⟩ ⟨⟨h1, h2, h3, h4⟩, hoh2, hp02, hd0, hdz⟩
  simp only at h1 h2 h3 h4 hoh2 hp02 hd0 hdz ⊢
  have hin := (pc_cv hd0 hdz p).flat
  refine dinner hr st hst hso (ints t) t.length i o p d0 dz h3 hoh2 (by omega) hp02 hd0 hdz _ ?_ ?_
  · rintro o' p' c' z' s' ⟨f1, f2, f3, f4, f5, f6, f7, f8, f9⟩ hw
    exact ⟨((o', p'), (c', z')), ⟨⟨f1.trans h1, f2.trans h2, f3, by simp only; omega⟩, f4, f6, f8, f9⟩, f7, hw⟩
  · intro s' hr2 hw
    rw [hr2] at h1 h2
    simp only [List.append_nil] at h1 h2
    simp only [thenQ, blockQ, if_true, if_false, Nat.reduceEqDiff, reduceCtorEq]
    refine aw_wk hw ?_
    unfold inS
    refine aw_region ?_
    simp (disch := first | exact okY | omega) only [ZU, Nat.reduceAdd, Nat.reduceMul, dI, AOpRun, aexec, Nat.reduceBEq, ↓eget_h, isSh, ↓reduceIte, abin, fits]
    have hpp : 0 < T2.length := by rw [← h2]; exact hp02
    rw [← h1, ← h2] at hA
    rw [← h2] at hpp
    refine hA d0 dz _ hi2 hd0 hdz hpp ?_
    unfold dI
    refine wk_q [] [(1000, 1000), (24, 24), (32, 32), (40, 40)] ?_ ?_ <;> repeat' (first | exact trivial | exact vr_val _ | exact vr_list _ | exact vr_own _ _ _ _ _ rfl | refine vr_yld _ _ _ rfl ?_ | exact Ren.bot _ | exact Ren.ptr _ _ _ rfl | refine And.intro ⟨_, rfl, .inl ⟨_, rfl, by decide, ?_⟩⟩ ?_ | apply And.intro | exact vrl_flat _ (by first | exact icells_in _ | exact rcells_in _ | exact scells_in _ | exact bcells_in _ | assumption) | fail)
    all_goals exact vrl_flat _ hin
end Go.Proofs.Ytdcodicoclecnaa
/- parts: Damage (views last). No conditions. -/
namespace Go.Proofs.Ytdcodicoclecnaa
open Go Go.RowKit Lift

set_option maxRecDepth 100000 in
set_option maxHeartbeats 8000000 in
theorem damage_err (s : List Int) (st : List (Int × Int)) (hs : s.length ≤ 1000) (hst : st.length ≤ 1000000) (he : dmE s st ≠ 0) : AC Try.prog 60 [.list (ints s), .list (sps st)] [] [] (.tup [dI 0, dI (dmE s st)]) := by
  refine kparts_Damage.ac (n0 := 0) (by simp) ⟨.list _, .list _, trivial⟩ trivial rfl ?_
  unfold cparts_Damage dmE at *
  have ck := checkS_ac s (by omega)
  have sl := sps_len st
  have sa := sps_all st
  by_cases h0 : csE s = 0
  case neg =>
    have q : (csE s != 0) = true := by simpa using h0
    rw [if_neg h0]
    clear he
    generalize csE s = e at *
    (repeat' (first | (with_reducible first | refine thenQ_n ?_ | refine blockQ_n ?_ | refine thenQ_e ?_ | refine blockQ_t ?_ | refine blockQ_f (by decide) ?_) | apply aw_seq | apply aw_skip | apply aw_exit | apply aw_ret | apply aw_block | apply aw_condT rfl | apply aw_condF rfl | ((first | refine aw_hide fun K hK => aw_region ?_ | refine acall0 (ck) ?_ | refine ago_if (by omega) ?_ | skip); simp (disch := first | exact okY | omega) only [ZU, Nat.reduceAdd, Nat.reduceMul, AOpRun, aexec, D.isBot, Nat.reduceBEq, ↓eget_h, or_self, ↓reduceIte, D.cells, dI, isSh, abin, q, ↓hget_h, Nat.reduceLeDiff, List.all, D.leaf, splice, List.take, List.drop]) | subst hK))
    (refine end_q [] [] ?_ ?_ <;> repeat' (first | exact trivial | exact vr_val _ | apply vr_tup | apply And.intro))
  rw [if_pos h0] at he ⊢
  rw [h0] at ck
  by_cases h8 : st.length > 8
  · have q : decide ((st.length : Int) > 8) = true := decide_eq_true (by omega)
    rw [stE_long h8]
    (repeat' (first | (with_reducible first | refine thenQ_n ?_ | refine blockQ_n ?_ | refine thenQ_e ?_ | refine blockQ_t ?_ | refine blockQ_f (by decide) ?_) | apply aw_seq | apply aw_skip | apply aw_exit | apply aw_ret | apply aw_block | apply aw_condT rfl | apply aw_condF rfl | ((first | refine aw_hide fun K hK => aw_region ?_ | refine acall0 (ck) ?_ | refine ago_if (by omega) ?_ | skip); simp (disch := first | exact okY | omega) only [ZU, Nat.reduceAdd, Nat.reduceMul, AOpRun, aexec, D.isBot, Nat.reduceBEq, ↓eget_h, or_self, ↓reduceIte, D.cells, dI, isSh, abin, bne_self_eq_false, run1, sl, q, ↓hget_h, Nat.reduceLeDiff, List.all, D.leaf, splice, List.take, List.drop]) | subst hK))
    (refine end_q [] [] ?_ ?_ <;> repeat' (first | exact trivial | exact vr_val _ | apply vr_tup | apply And.intro))
  have q8 : decide ((st.length : Int) > 8) = false := decide_eq_false (by omega)
  have hyes := @stE_yes st h8
  have hno := @stE_no st h8
  (repeat' (first | (with_reducible first | refine thenQ_n ?_ | refine blockQ_n ?_ | refine thenQ_e ?_ | refine blockQ_t ?_ | refine blockQ_f (by decide) ?_) | apply aw_seq | apply aw_skip | apply aw_exit | apply aw_ret | apply aw_block | apply aw_condT rfl | apply aw_condF rfl | ((first | refine aw_hide fun K hK => aw_region ?_ | refine acall0 (ck) ?_ | refine ago_if (by omega) ?_ | skip); simp (disch := first | exact okY | omega) only [ZU, Nat.reduceAdd, Nat.reduceMul, AOpRun, aexec, D.isBot, Nat.reduceBEq, ↓eget_h, or_self, ↓reduceIte, D.cells, dI, isSh, abin, bne_self_eq_false, run1, sl, q8]) | subst hK))
  clear ck
  refine aw_loop (fun i : Nat => ⟨[(3, .ptr 24 0), (4, .ptr 32 0), (21, .list (sps st)), (22, dI st.length), (23, dI i)], [(24, [.list (sps st)]), (32, [dI 0])], 100⟩) (fun i => i ≤ st.length ∧ ∀ j, j < i → stG st j = true) (fun i => st.length - i) ⟨0, ⟨by omega, fun j hj => by omega⟩, ?_⟩ ?_
  · unfold dI
    refine wk_q [] [(24, 0), (32, 8)] ?_ ?_ <;> repeat' (first | exact trivial | exact vr_val _ | exact vr_list _ | exact vr_ptr _ _ _ rfl | refine And.intro ⟨_, rfl, .inl ⟨_, rfl, by decide, ?_⟩⟩ ?_ | apply And.intro)
  rintro i ⟨hile, hin⟩
  by_cases hi2 : i < st.length
  case neg =>
    obtain rfl : i = st.length := by omega
    exact absurd (hyes hin) he
  have gi := sps_gd st i hi2
  have ki : (i : Int) < (st.length : Int) := by omega
  have hno2 := @hno i hi2
  have hnext : stG st i = true → ∀ j, j < i + 1 → stG st j = true := fun h j hj => by
    rcases (by omega : j < i ∨ j = i) with h2 | rfl
    · exact hin j h2
    · exact h
  have hgd : stG st i = (wI (lo st i) 0 1000000 && wI (hi st i) 0 1000000 && (decide (i = 0) || !decide (lo st i ≤ lo st (i - 1)))) := rfl
  clear hin hyes hno he
  have fin : i + 1 ≤ st.length := by omega
  have fin2 : st.length - (i + 1) < st.length - i := by omega
  generalize stG st i = G at *
  have w1 := wpwi_ac (lo st i) 0 1000000
  have w2 := wpwi_ac (hi st i) 0 1000000
  cases h1 : wI (lo st i) 0 1000000 with
  | false =>
    rw [h1, Bool.false_and, Bool.false_and] at hgd
    rw [hno2 hgd]
    rw [h1] at w1
    (repeat' (first | (with_reducible first | refine thenQ_n ?_ | refine blockQ_n ?_ | refine thenQ_e ?_ | refine blockQ_t ?_ | refine blockQ_f (by decide) ?_) | apply aw_seq | apply aw_skip | apply aw_exit | apply aw_ret | apply aw_block | apply aw_condT rfl | apply aw_condF rfl | ((first | refine aw_hide fun K hK => aw_region ?_ | refine acall0 (w1) ?_ | refine acall0 (w2) ?_ | refine ago_if (by omega) ?_ | skip); simp (disch := first | exact okY | omega) only [ZU, Nat.reduceMul, Nat.reduceAdd, dI, AOpRun, aexec, Nat.reduceBEq, ↓eget_h, isSh, ↓reduceIte, abin, ki, sa, opt1, gi, Nat.reduceLeDiff, List.take, ↓hget_h, D.isBot, D.cells, List.all, D.leaf, splice, List.drop, Int.le_refl, cast_lit, Int.reduceLT, Int.toNat_zero, run1, dB, ARun_some, AG_tf, AG_un, blockQ]) | subst hK))
    (refine end_q [] [] ?_ ?_ <;> repeat' (first | exact trivial | exact vr_val _ | apply vr_tup | apply And.intro))
  | true =>
  cases h2 : wI (hi st i) 0 1000000 with
  | false =>
    rw [h1, h2, Bool.true_and, Bool.false_and] at hgd
    rw [hno2 hgd]
    rw [h1] at w1
    rw [h2] at w2
    (repeat' (first | (with_reducible first | refine thenQ_n ?_ | refine blockQ_n ?_ | refine thenQ_e ?_ | refine blockQ_t ?_ | refine blockQ_f (by decide) ?_) | apply aw_seq | apply aw_skip | apply aw_exit | apply aw_ret | apply aw_block | apply aw_condT rfl | apply aw_condF rfl | ((first | refine aw_hide fun K hK => aw_region ?_ | refine acall0 (w1) ?_ | refine acall0 (w2) ?_ | refine ago_if (by omega) ?_ | skip); simp (disch := first | exact okY | omega) only [ZU, Nat.reduceMul, Nat.reduceAdd, dI, AOpRun, aexec, Nat.reduceBEq, ↓eget_h, isSh, ↓reduceIte, abin, ki, sa, opt1, gi, Nat.reduceLeDiff, List.take, ↓hget_h, D.isBot, D.cells, List.all, D.leaf, splice, List.drop, Int.le_refl, cast_lit, Int.reduceLT, Int.toNat_zero, run1, dB, ARun_some, AG_ff, Int.reduceLE, Int.reduceToNat, AG_tf, AG_un, blockQ]) | subst hK))
    (refine end_q [] [] ?_ ?_ <;> repeat' (first | exact trivial | exact vr_val _ | apply vr_tup | apply And.intro))
  | true =>
  rw [h1, h2, Bool.true_and, Bool.true_and] at hgd
  rw [h1] at w1
  rw [h2] at w2
  cases i with
  | zero =>
    have hG : G = true := by rw [hgd]; rfl
    (have hg : (987654321 : Nat) - 987654321 = 0 := rfl; have hr := hg; repeat' (first | (with_reducible first | refine thenQ_n ?_ | refine blockQ_n ?_ | refine thenQ_e ?_ | refine blockQ_t ?_ | refine blockQ_f (by decide) ?_) | apply aw_seq | apply aw_skip | apply aw_exit | apply aw_ret | apply aw_block | apply aw_condT rfl | apply aw_condF rfl | (refine aw_cond rfl (fun hg => ?_) (fun hg => ?_) <;> (try (have hq := hg; simp only [Bool.not_eq_true', Bool.not_eq_false', Bool.and_eq_true, Bool.and_eq_false_iff, Bool.or_eq_true, Bool.or_eq_false_iff, decide_eq_true_eq, decide_eq_false_iff_not, bne_iff_ne, beq_iff_eq, beq_eq_false_iff_ne, bne_eq_false_iff_eq, ne_eq, Int.not_lt, Int.not_le, Decidable.not_not] at hq)) <;> (try (have hr := hg; simp only [decide_eq_true_eq, decide_eq_false_iff_not] at hr)) <;> (try (exfalso; omega))) | (refine ag_bool (fun hg => ?_) (fun hg => ?_) <;> (try (have hq := hg; simp only [Bool.not_eq_true', Bool.not_eq_false', Bool.and_eq_true, Bool.and_eq_false_iff, Bool.or_eq_true, Bool.or_eq_false_iff, decide_eq_true_eq, decide_eq_false_iff_not, bne_iff_ne, beq_iff_eq, beq_eq_false_iff_ne, bne_eq_false_iff_eq, ne_eq, Int.not_lt, Int.not_le, Decidable.not_not] at hq)) <;> (try (have hr := hg; simp only [decide_eq_true_eq, decide_eq_false_iff_not] at hr)) <;> (try (exfalso; omega)) <;> simp (disch := first | exact okY | omega) only [ZU, hr, decide_false, AG_ft, Nat.reduceAdd, Nat.reduceBEq, ARun_some, ↓eget_h, AG_ff, AOpRun, aexec, ↓reduceIte]) | ((first | refine aw_hide fun K hK => aw_region ?_ | refine acall0 (w1) ?_ | refine acall0 (w2) ?_ | refine ago_if (by omega) ?_ | skip); simp (disch := first | exact okY | omega) only [ZU, Nat.reduceMul, Nat.reduceAdd, dI, cast_lit, AOpRun, aexec, Nat.reduceBEq, ↓eget_h, isSh, ↓reduceIte, abin, hr, Int.le_refl, sa, opt1, Int.toNat_zero, gi, Nat.reduceLeDiff, List.take, ↓hget_h, D.isBot, D.cells, List.all, D.leaf, splice, List.drop, Int.reduceLT, run1, dB, ARun_some, AG_ff, Int.reduceLE, Int.reduceToNat, Int.reduceAdd, fits]) | subst hK))
    refine ⟨0 + 1, ⟨fin, hnext hG⟩, fin2, ?_⟩
    refine wk_q [] [(24, 24), (32, 32)] ?_ ?_ <;> repeat' (first | exact trivial | exact vr_val _ | exact vr_list _ | exact vr_ptr _ _ _ rfl | refine And.intro ⟨_, rfl, .inl ⟨_, rfl, by decide, ?_⟩⟩ ?_ | apply And.intro)
  | succ j =>
    have gj := sps_gd st j (by omega)
    have k1 : ((j + 1 : Nat) : Int) - 1 = (j : Int) := by omega
    have k2 : decide (((j + 1 : Nat) : Int) > 0) = true := decide_eq_true (by omega)
    have k3 : decide (j + 1 = 0) = false := rfl
    have k4 : (j : Int) < (st.length : Int) := by omega
    rw [k3, Bool.false_or, Nat.add_sub_cancel] at hgd
    generalize lo st (j + 1) = u at *
    generalize lo st j = w at *
    by_cases huw : u ≤ w
    · have q : decide (u ≤ w) = true := decide_eq_true huw
      rw [q] at hgd
      rw [hno2 hgd]
      (repeat' (first | (with_reducible first | refine thenQ_n ?_ | refine blockQ_n ?_ | refine thenQ_e ?_ | refine blockQ_t ?_ | refine blockQ_f (by decide) ?_) | apply aw_seq | apply aw_skip | apply aw_exit | apply aw_ret | apply aw_block | apply aw_condT rfl | apply aw_condF rfl | ((first | refine aw_hide fun K hK => aw_region ?_ | refine acall0 (w1) ?_ | refine acall0 (w2) ?_ | refine ago_if (by omega) ?_ | skip); simp (disch := first | exact okY | omega) only [ZU, Nat.reduceMul, Nat.reduceAdd, dI, AOpRun, aexec, Nat.reduceBEq, ↓eget_h, isSh, ↓reduceIte, abin, ki, sa, opt1, gi, Nat.reduceLeDiff, List.take, ↓hget_h, D.isBot, D.cells, List.all, D.leaf, splice, List.drop, Int.le_refl, cast_lit, Int.reduceLT, Int.toNat_zero, run1, dB, ARun_some, AG_ff, Int.reduceLE, Int.reduceToNat, k2, AG_tt, k1, fits, gj, q, blockQ]) | subst hK))
      (refine end_q [] [] ?_ ?_ <;> repeat' (first | exact trivial | exact vr_val _ | apply vr_tup | apply And.intro))
    · have q : decide (u ≤ w) = false := decide_eq_false huw
      rw [q] at hgd
      (repeat' (first | (with_reducible first | refine thenQ_n ?_ | refine blockQ_n ?_ | refine thenQ_e ?_ | refine blockQ_t ?_ | refine blockQ_f (by decide) ?_) | apply aw_seq | apply aw_skip | apply aw_exit | apply aw_ret | apply aw_block | apply aw_condT rfl | apply aw_condF rfl | ((first | refine aw_hide fun K hK => aw_region ?_ | refine acall0 (w1) ?_ | refine acall0 (w2) ?_ | refine ago_if (by omega) ?_ | skip); simp (disch := first | exact okY | omega) only [ZU, Nat.reduceMul, Nat.reduceAdd, dI, AOpRun, aexec, Nat.reduceBEq, ↓eget_h, isSh, ↓reduceIte, abin, ki, sa, opt1, gi, Nat.reduceLeDiff, List.take, ↓hget_h, D.isBot, D.cells, List.all, D.leaf, splice, List.drop, Int.le_refl, cast_lit, Int.reduceLT, Int.toNat_zero, run1, dB, ARun_some, AG_ff, Int.reduceLE, Int.reduceToNat, k2, AG_tt, k1, fits, gj, q]) | subst hK))
      refine ⟨j + 1 + 1, ⟨fin, hnext hgd⟩, fin2, ?_⟩
      refine wk_q [] [(24, 24), (32, 32)] ?_ ?_ <;> repeat' (first | exact trivial | exact vr_val _ | exact vr_list _ | exact vr_ptr _ _ _ rfl | refine And.intro ⟨_, rfl, .inl ⟨_, rfl, by decide, ?_⟩⟩ ?_ | apply And.intro)
set_option maxRecDepth 100000 in
set_option maxHeartbeats 8000000 in
theorem damage_ok (s : List Int) (st : List (Int × Int)) (h0 : csE s = 0) (hs0 : stE st = 0) : AC Try.prog 60 [.list (ints s), .list (sps st)] [] [] (.tup [dI (dsum st (cyc (wturn s))), dI 0]) := by
  refine kparts_Damage.ac (n0 := 0) (by simp) ⟨.list _, .list _, trivial⟩ trivial rfl ?_
  unfold cparts_Damage
  obtain ⟨hs3, hsm⟩ := csE_ok h0
  obtain ⟨h8, hso⟩ := stE_ok hs0
  have ck := checkS_ac s (by omega)
  rw [h0] at ck
  have sl := sps_len st
  have sa := sps_all st
  have q8 : decide ((st.length : Int) > 8) = false := decide_eq_false (by omega)
  have hG : ∀ i, i < st.length → stG st i = true := fun i hi2 => by
    cases h : stG st i with
    | true => rfl
    | false => have := stE_no (by omega) hi2 h; omega
  (repeat' (first | (with_reducible first | refine thenQ_n ?_ | refine blockQ_n ?_ | refine thenQ_e ?_ | refine blockQ_t ?_ | refine blockQ_f (by decide) ?_) | apply aw_seq | apply aw_skip | apply aw_exit | apply aw_ret | apply aw_block | apply aw_condT rfl | apply aw_condF rfl | ((first | refine aw_hide fun K hK => aw_region ?_ | refine acall0 (ck) ?_ | refine ago_if (by omega) ?_ | skip); simp (disch := first | exact okY | omega) only [ZU, Nat.reduceAdd, Nat.reduceMul, AOpRun, aexec, D.isBot, Nat.reduceBEq, ↓eget_h, or_self, ↓reduceIte, D.cells, dI, isSh, abin, bne_self_eq_false, run1, sl, q8]) | subst hK))
  clear ck
  refine aw_loop (fun i : Nat => ⟨[(0, .list (ints s)), (3, .ptr 24 0), (4, .ptr 32 0), (21, .list (sps st)), (22, dI st.length), (23, dI i)], [(24, [.list (sps st)]), (32, [dI 0])], 100⟩) (fun i => i ≤ st.length) (fun i => st.length - i) ⟨0, by omega, ?_⟩ ?_
  · unfold dI
    refine wk_q [] [(24, 0), (32, 8)] ?_ ?_ <;> repeat' (first | exact trivial | exact vr_val _ | exact vr_list _ | exact vr_ptr _ _ _ rfl | refine And.intro ⟨_, rfl, .inl ⟨_, rfl, by decide, ?_⟩⟩ ?_ | apply And.intro)
  rintro i hile
  by_cases hi2 : i < st.length
  case neg =>
    obtain rfl : i = st.length := by omega
    clear hG
    refine aw_seq (aw_region ?_)
    simp (disch := first | exact okY | omega) only [ZU, dI, Nat.reduceMul, Nat.reduceAdd, AOpRun, aexec, Nat.reduceBEq, ↓eget_h, isSh, ↓reduceIte, abin, Int.lt_irrefl, decide_false]
    refine aw_seq (aw_condF rfl (aw_exit ?_))
    simp only [thenQ, blockQ, if_true, if_false, Nat.reduceEqDiff, reduceCtorEq]
    refine aw_wk (s' := ⟨[(0, .list (ints s)), (3, .ptr 24 0), (4, .ptr 32 0)], [(24, [.list (sps st)]), (32, [dI 0])], 216⟩) ?_ ?_
    · unfold dI
      refine wk_q [] [(24, 24), (32, 32)] ?_ ?_ <;> repeat' (first | exact trivial | exact vr_val _ | exact vr_list _ | exact vr_ptr _ _ _ rfl | refine And.intro ⟨_, rfl, .inl ⟨_, rfl, by decide, ?_⟩⟩ ?_ | apply And.intro)
    refine aw_seq (aw_seq (aw_region ?_))
    simp (disch := first | exact okY | omega) only [ZU, Nat.reduceAdd, Nat.reduceMul, dI, AOpRun, aexec, ↓eget_h, Nat.reduceBEq]
    refine acallH (count_ac s) [] (VwL.refl _) (.inl rfl) (by simp) (by simp) (by simp) (by intro g hg _; simp at hg; subst hg; rfl) (by kernel_rfl) (by kernel_rfl) ?_
    simp (disch := first | exact okY | omega) only [ZU, Nat.reduceAdd, Nat.reduceBEq]
    refine aw_wk (s' := ⟨[(3, .ptr 24 0), (4, .ptr 32 0), (55, .fn 136 [] [.ptr 224 0])], [(24, [.list (sps st)]), (32, [dI 0]), (224, [.list (ints s)])], 1000⟩) ?_ ?_
    · unfold dI
      refine wk_q [] [(24, 24), (32, 32), (224, 224)] ?_ ?_ <;> repeat' (first | exact trivial | exact vr_val _ | exact vr_list _ | exact vr_ptr _ _ _ rfl | apply vr_fn | refine And.intro ⟨_, rfl, .inl ⟨_, rfl, by decide, ?_⟩⟩ ?_ | apply And.intro)
    refine aw_block (aw_rangeSA [24, 32] [(4, .ptr 32 0)] [.bot, .bot, .bot, .ptr 24 0, .ptr 32 0] kparts_count_S1 rfl (by simp) ⟨.inl rfl, .inl rfl, .inl rfl, .inr rfl, .inr rfl, trivial⟩ rfl rfl (by simp) ⟨.inr ⟨rfl, .ptr _ _ (by simp)⟩, trivial⟩ fun r hr => ?_)
    refine aw_post (dcount hr s hs3 hsm st h8 hso) ?_
    rintro e s' ⟨he, hw⟩
    refine ⟨_, hw, rangeQSA 0 hr rfl he (by simp [hpY, noY, dI]) ?_⟩
    simp only [thenQ, blockQ, if_true, if_false, Nat.reduceEqDiff, reduceCtorEq]
    generalize dsum st (cyc (wturn s)) = V at *
    (repeat' (first | (with_reducible first | refine thenQ_n ?_ | refine blockQ_n ?_ | refine thenQ_e ?_ | refine blockQ_t ?_ | refine blockQ_f (by decide) ?_) | apply aw_seq | apply aw_skip | apply aw_exit | apply aw_ret | apply aw_block | apply aw_condT rfl | apply aw_condF rfl | ((first | refine aw_hide fun K hK => aw_region ?_ | refine ago_if (by omega) ?_ | skip); simp (disch := first | exact okY | omega) only [ZU, Nat.reduceAdd, Nat.reduceMul, dI, AOpRun, aexec, run1, ↓eget_h, Nat.reduceBEq, ↓hget_h, D.isBot, D.cells, Nat.reduceLeDiff, List.all, D.leaf, ↓reduceIte, splice, List.take, List.drop]) | subst hK))
    (refine end_q [] [] ?_ ?_ <;> repeat' (first | exact trivial | exact vr_val _ | apply vr_tup | apply And.intro))
  have gi := sps_gd st i hi2
  have ki : (i : Int) < (st.length : Int) := by omega
  have hgd := hG i hi2
  unfold stG at hgd
  simp only [Bool.and_eq_true] at hgd
  obtain ⟨⟨h1, h2⟩, h3⟩ := hgd
  have fin : i + 1 ≤ st.length := by omega
  have fin2 : st.length - (i + 1) < st.length - i := by omega
  have w1 := wpwi_ac (lo st i) 0 1000000
  have w2 := wpwi_ac (hi st i) 0 1000000
  rw [h1] at w1
  rw [h2] at w2
  clear hG
  cases i with
  | zero =>
    (have hg : (987654321 : Nat) - 987654321 = 0 := rfl; have hr := hg; repeat' (first | (with_reducible first | refine thenQ_n ?_ | refine blockQ_n ?_ | refine thenQ_e ?_ | refine blockQ_t ?_ | refine blockQ_f (by decide) ?_) | apply aw_seq | apply aw_skip | apply aw_exit | apply aw_ret | apply aw_block | apply aw_condT rfl | apply aw_condF rfl | (refine aw_cond rfl (fun hg => ?_) (fun hg => ?_) <;> (try (have hq := hg; simp only [Bool.not_eq_true', Bool.not_eq_false', Bool.and_eq_true, Bool.and_eq_false_iff, Bool.or_eq_true, Bool.or_eq_false_iff, decide_eq_true_eq, decide_eq_false_iff_not, bne_iff_ne, beq_iff_eq, beq_eq_false_iff_ne, bne_eq_false_iff_eq, ne_eq, Int.not_lt, Int.not_le, Decidable.not_not] at hq)) <;> (try (have hr := hg; simp only [decide_eq_true_eq, decide_eq_false_iff_not] at hr)) <;> (try (exfalso; omega))) | (refine ag_bool (fun hg => ?_) (fun hg => ?_) <;> (try (have hq := hg; simp only [Bool.not_eq_true', Bool.not_eq_false', Bool.and_eq_true, Bool.and_eq_false_iff, Bool.or_eq_true, Bool.or_eq_false_iff, decide_eq_true_eq, decide_eq_false_iff_not, bne_iff_ne, beq_iff_eq, beq_eq_false_iff_ne, bne_eq_false_iff_eq, ne_eq, Int.not_lt, Int.not_le, Decidable.not_not] at hq)) <;> (try (have hr := hg; simp only [decide_eq_true_eq, decide_eq_false_iff_not] at hr)) <;> (try (exfalso; omega)) <;> simp (disch := first | exact okY | omega) only [ZU, hr, decide_false, AG_ft, Nat.reduceAdd, Nat.reduceBEq, ARun_some, ↓eget_h, AG_ff, AOpRun, aexec, ↓reduceIte]) | ((first | refine aw_hide fun K hK => aw_region ?_ | refine acall0 (w1) ?_ | refine acall0 (w2) ?_ | refine ago_if (by omega) ?_ | skip); simp (disch := first | exact okY | omega) only [ZU, Nat.reduceMul, Nat.reduceAdd, dI, cast_lit, AOpRun, aexec, Nat.reduceBEq, ↓eget_h, isSh, ↓reduceIte, abin, hr, Int.le_refl, sa, opt1, Int.toNat_zero, gi, Nat.reduceLeDiff, List.take, ↓hget_h, D.isBot, D.cells, List.all, D.leaf, splice, List.drop, Int.reduceLT, run1, dB, ARun_some, AG_ff, Int.reduceLE, Int.reduceToNat, Int.reduceAdd, fits]) | subst hK))
    refine ⟨0 + 1, fin, fin2, ?_⟩
    refine wk_q [] [(24, 24), (32, 32)] ?_ ?_ <;> repeat' (first | exact trivial | exact vr_val _ | exact vr_list _ | exact vr_ptr _ _ _ rfl | refine And.intro ⟨_, rfl, .inl ⟨_, rfl, by decide, ?_⟩⟩ ?_ | apply And.intro)
  | succ j =>
    have gj := sps_gd st j (by omega)
    have k1 : ((j + 1 : Nat) : Int) - 1 = (j : Int) := by omega
    have k2 : decide (((j + 1 : Nat) : Int) > 0) = true := decide_eq_true (by omega)
    have k3 : decide (j + 1 = 0) = false := rfl
    have k4 : (j : Int) < (st.length : Int) := by omega
    rw [k3, Bool.false_or, Nat.add_sub_cancel] at h3
    have q : decide (lo st (j + 1) ≤ lo st j) = false := by simpa using h3
    generalize lo st (j + 1) = u at *
    generalize lo st j = w at *
    (repeat' (first | (with_reducible first | refine thenQ_n ?_ | refine blockQ_n ?_ | refine thenQ_e ?_ | refine blockQ_t ?_ | refine blockQ_f (by decide) ?_) | apply aw_seq | apply aw_skip | apply aw_exit | apply aw_ret | apply aw_block | apply aw_condT rfl | apply aw_condF rfl | ((first | refine aw_hide fun K hK => aw_region ?_ | refine acall0 (w1) ?_ | refine acall0 (w2) ?_ | refine ago_if (by omega) ?_ | skip); simp (disch := first | exact okY | omega) only [ZU, Nat.reduceMul, Nat.reduceAdd, dI, AOpRun, aexec, Nat.reduceBEq, ↓eget_h, isSh, ↓reduceIte, abin, ki, sa, opt1, gi, Nat.reduceLeDiff, List.take, ↓hget_h, D.isBot, D.cells, List.all, D.leaf, splice, List.drop, Int.le_refl, cast_lit, Int.reduceLT, Int.toNat_zero, run1, dB, ARun_some, AG_ff, Int.reduceLE, Int.reduceToNat, k2, AG_tt, k1, fits, gj, q]) | subst hK))
    refine ⟨j + 1 + 1, fin, fin2, ?_⟩
    refine wk_q [] [(24, 24), (32, 32)] ?_ ?_ <;> repeat' (first | exact trivial | exact vr_val _ | exact vr_list _ | exact vr_ptr _ _ _ rfl | refine And.intro ⟨_, rfl, .inl ⟨_, rfl, by decide, ?_⟩⟩ ?_ | apply And.intro)
theorem damage_ac (s : List Int) (st : List (Int × Int)) (hs : s.length ≤ 1000) (hst : st.length ≤ 1000000) : AC Try.prog 60 [.list (ints s), .list (sps st)] [] [] (.tup [dI (dmV s st), dI (dmE s st)]) := by
  by_cases he : dmE s st = 0
  · have h0 : csE s = 0 := by
      by_cases h : csE s = 0
      · exact h
      · unfold dmE at he; rw [if_neg h] at he; exact absurd he h
    have h1 : stE st = 0 := by unfold dmE at he; rw [if_pos h0] at he; exact he
    have e1 : dmV s st = dsum st (cyc (wturn s)) := by unfold dmV cycL; rw [if_pos h0, if_pos h1, if_pos h0]
    rw [he, e1]
    exact damage_ok s st h0 h1
  · have e1 : dmV s st = 0 := by
      unfold dmV
      by_cases h : csE s = 0
      · rw [if_pos h]
        have : ¬ stE st = 0 := by unfold dmE at he; rw [if_pos h] at he; exact he
        rw [if_neg this]
      · rw [if_neg h]
    rw [e1]
    exact damage_err s st hs hst he
end Go.Proofs.Ytdcodicoclecnaa
