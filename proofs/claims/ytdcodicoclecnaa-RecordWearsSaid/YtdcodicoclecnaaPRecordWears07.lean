/- Texts of the law RecordWears, part 7. No conditions. -/
import Derived.Test.YtdcodicoclecnaaPRecordWears06
import Derived.Test.YtdcodicoclecnaaRows
set_option linter.unusedSimpArgs false
set_option linter.unusedVariables false
/- The document: turning points (views last). No conditions. -/
namespace Go.Proofs.Ytdcodicoclecnaa
open Go.RowKit Lift

theorem ddN_zero (s : List Int) : ddN s 1 = [wg s 0] := by simp [ddN]
theorem ddN_new {s : List Int} {j : Nat} (h : wg s (j + 1) ≠ wg s j) : ddN s (j + 2) = ddN s (j + 1) ++ [wg s (j + 1)] := by
  rw [show ddN s (j + 2) = if j + 1 = 0 ∨ wg s (j + 1) ≠ wg s (j + 1 - 1) then ddN s (j + 1) ++ [wg s (j + 1)] else ddN s (j + 1) from rfl, if_pos (.inr h)]
theorem ddN_old {s : List Int} {j : Nat} (h : wg s (j + 1) = wg s j) : ddN s (j + 2) = ddN s (j + 1) := by
  rw [show ddN s (j + 2) = if j + 1 = 0 ∨ wg s (j + 1) ≠ wg s (j + 1 - 1) then ddN s (j + 1) ++ [wg s (j + 1)] else ddN s (j + 1) from rfl, if_neg (by rintro (q | q); omega; exact q h)]
theorem tpN_yes {p : List Int} {i : Nat} (h : wtpC p i) : tpN p (i + 1) = tpN p i ++ [wg p i] := by simp only [tpN]; rw [if_pos h]
theorem tpN_no {p : List Int} {i : Nat} (h : ¬ wtpC p i) : tpN p (i + 1) = tpN p i := by simp only [tpN]; rw [if_neg h]
set_option maxRecDepth 100000 in
set_option maxHeartbeats 4000000 in
theorem rturning_ac (s : List Int) (hs : s.length ≤ 1000) : AC Try.prog 154 [.list (ints s)] [] [] (.list (ints (wturn s))) := by
  refine kref09_Turning.ac (n0 := 0) (by simp) ⟨.list _, trivial⟩ trivial rfl ?_
  unfold cref09_Turning
  rw [wturn_eq]
  have ia := ints_all s
  have sl := ints_len s
  (repeat' (first | (with_reducible first | refine thenQ_n ?_ | refine blockQ_n ?_ | refine thenQ_e ?_ | refine blockQ_t ?_ | refine blockQ_f (by decide) ?_) | apply aw_seq | apply aw_skip | apply aw_exit | apply aw_ret | apply aw_block | apply aw_condT rfl | apply aw_condF rfl | ((first | refine aw_hide fun K hK => aw_region ?_ | refine ago_if (by omega) ?_ | skip); simp (disch := first | exact okY | omega) only [ZU, Nat.reduceMul, AOpRun, aexec, Nat.reduceBEq, Nat.reduceAdd]) | subst hK))
  refine aw_loop (fun i : Nat => ⟨[(0, .list (ints s)), (3, .vec 40 (ddN s i).length 1), (4, dI i)], [(40, icells (ddN s i))], 100⟩) (fun i => i ≤ s.length) (fun i => s.length - i) ⟨0, by omega, ?_⟩ ?_
  · unfold dI
    refine wk_q [] [(40, 90)] ?_ ?_ <;> repeat' (first | exact trivial | exact vr_val _ | exact vr_list _ | exact vr_nilv _ _ _ rfl | refine And.intro ⟨_, rfl, .inr ⟨rfl, rfl, of_decide_eq_true (by kernel_rfl)⟩⟩ ?_ | apply And.intro)
  intro i hi
  by_cases hi2 : i < s.length
  case neg =>
    obtain rfl : i = s.length := by omega
    have hl := ddN_len s s.length
    generalize ddN s s.length = p at *
    have pa := ints_all p
    have pl := ints_len p
    refine aw_wk (s' := ⟨[(0, .list (ints s)), (3, .list (ints p)), (4, dI s.length)], [], 100⟩) ?_ ?_
    · unfold dI
      refine wk_q [40] [] ?_ ?_ <;> repeat' (first | exact trivial | exact vr_val _ | exact vr_list _ | refine vr_fl _ _ _ _ _ (by decide) rfl ?_ ?_ ?_ ?_ | apply And.intro)
      all_goals first | exact ints_one _ | exact ints_len _ | exact icells_in _ | (rw [Nat.mul_one, ic_take p _ rfl]; exact ints_flat _) | exact ints_flat _
    clear ia
    (repeat' (first | (with_reducible first | refine thenQ_n ?_ | refine blockQ_n ?_ | refine thenQ_e ?_ | refine blockQ_t ?_ | refine blockQ_f (by decide) ?_) | apply aw_seq | apply aw_skip | apply aw_exit | apply aw_ret | apply aw_block | apply aw_condT rfl | apply aw_condF rfl | ((first | refine aw_hide fun K hK => aw_region ?_ | refine ago_if (by omega) ?_ | skip); simp (disch := first | exact okY | omega) only [ZU, Nat.reduceAdd, Nat.reduceMul, dI, AOpRun, aexec, Nat.reduceBEq, ↓eget_h, sl, isSh, ↓reduceIte, abin, Int.lt_irrefl, decide_false]) | subst hK))
    refine aw_loop (fun i : Nat => ⟨[(3, .list (ints p)), (5, .vec 48 (tpN p i).length 1), (6, dI i)], [(48, icells (tpN p i))], 100⟩) (fun i => i ≤ p.length) (fun i => p.length - i) ⟨0, by omega, ?_⟩ ?_
    · unfold dI
      refine wk_q [] [(48, 600)] ?_ ?_ <;> repeat' (first | exact trivial | exact vr_val _ | exact vr_list _ | exact vr_nilv _ _ _ rfl | refine And.intro ⟨_, rfl, .inr ⟨rfl, rfl, of_decide_eq_true (by kernel_rfl)⟩⟩ ?_ | apply And.intro)
    intro i hi
    by_cases hi2 : i < p.length
    case neg =>
      obtain rfl : i = p.length := by omega
      have ht := tpN_len p p.length
      generalize tpN p p.length = L at *
      (repeat' (first | (with_reducible first | refine thenQ_n ?_ | refine blockQ_n ?_ | refine thenQ_e ?_ | refine blockQ_t ?_ | refine blockQ_f (by decide) ?_) | apply aw_seq | apply aw_skip | apply aw_exit | apply aw_ret | apply aw_block | apply aw_condT rfl | apply aw_condF rfl | ((first | refine aw_hide fun K hK => aw_region ?_ | refine ago_if (by omega) ?_ | skip); simp (disch := first | exact okY | omega) only [ZU, Nat.reduceAdd, Nat.reduceMul, dI, AOpRun, aexec, Nat.reduceBEq, ↓eget_h, pl, isSh, ↓reduceIte, abin, Int.lt_irrefl, decide_false]) | subst hK))
      (refine end_q [48] [] ?_ ?_ <;> repeat' (first | exact trivial | refine vr_fl _ _ _ _ _ (by decide) rfl ?_ ?_ ?_ ?_))
      all_goals first | exact ints_one _ | exact ints_len _ | exact icells_in _ | (rw [Nat.mul_one, ic_take L _ rfl]; exact ints_flat _) | exact ints_flat _
    have gx := ints_gd p i hi2
    rw [show p[i]?.getD 0 = wg p i from rfl] at gx
    have ki : (i : Int) < (p.length : Int) := by omega
    have ht := tpN_len p i
    have ey := @tpN_yes p i
    have en := @tpN_no p i
    have fin : i + 1 ≤ p.length := by omega
    have fin2 : p.length - (i + 1) < p.length - i := by omega
    have tf : (true == false) = false := rfl
    have ft : (false == true) = false := rfl
    generalize tpN p i = L at *
    generalize hT : tpN p (i + 1) = T at *
    have hTin := icells_in T
    have hLc := icells_len L
    have hLt := ic_take L L.length rfl
    have hap := ic_app L (wg p i)
    cases i with
    | zero =>
      have e1 := ey (.inl rfl)
      have hTl : T.length = L.length + 1 := by rw [e1]; simp
      rw [← e1] at hap
      generalize wg p 0 = n at *
      (have hg : (987654321 : Nat) - 987654321 = 0 := rfl; have hr := hg; repeat' (first | (with_reducible first | refine thenQ_n ?_ | refine blockQ_n ?_ | refine thenQ_e ?_ | refine blockQ_t ?_ | refine blockQ_f (by decide) ?_) | apply aw_seq | apply aw_skip | apply aw_exit | apply aw_ret | apply aw_block | apply aw_condT rfl | apply aw_condF rfl | (refine aw_cond rfl (fun hg => ?_) (fun hg => ?_) <;> (try (have hq := hg; simp only [Bool.not_eq_true', Bool.not_eq_false', Bool.and_eq_true, Bool.and_eq_false_iff, Bool.or_eq_true, Bool.or_eq_false_iff, decide_eq_true_eq, decide_eq_false_iff_not, bne_iff_ne, beq_iff_eq, beq_eq_false_iff_ne, bne_eq_false_iff_eq, ne_eq, Int.not_lt, Int.not_le, Decidable.not_not] at hq)) <;> (try (have hr := hg; simp only [decide_eq_true_eq, decide_eq_false_iff_not] at hr)) <;> (try (exfalso; omega))) | ((first | refine aw_hide fun K hK => aw_region ?_ | refine ago_if (by omega) ?_ | skip); simp (disch := first | exact okY | omega) only [ZU, Nat.reduceAdd, Nat.reduceMul, dI, cast_lit, AOpRun, aexec, Nat.reduceBEq, ↓eget_h, pl, isSh, ↓reduceIte, abin, hr, ARun_some, AG_tf, Int.le_refl, pa, opt1, Int.toNat_zero, gx, run1, fillD, D.isBot, D.cells, ne_eq, not_true_eq_false, Nat.reduceGT, or_self, splice, List.take, List.drop, base, Nat.mul_one, hLc, Nat.le_refl, hLt, elems, ↓hget_h, List.all, D.leaf, and_true, ups, hdel_c, hdel_n, Int.reduceAdd, fits]) | subst hK))
      refine ⟨0 + 1, fin, fin2, ?_⟩
      rw [hT, hTl, ← hap]
      rw [← hap] at hTin
      refine wk_q [] [(48, 436)] ?_ ?_ <;> repeat' (first | exact trivial | exact vr_val _ | exact vr_list _ | exact vr_vec _ _ _ _ rfl | refine And.intro ⟨_, rfl, .inl ⟨_, rfl, by decide, ?_⟩⟩ ?_ | apply And.intro | exact vrl_flat _ (by first | exact icells_in _ | exact rcells_in _ | exact scells_in _ | exact bcells_in _ | assumption) | fail)
    | succ j =>
      have k1 : ((j + 1 : Nat) : Int) - 1 = (j : Int) := by omega
      have k2 : (((j + 1 : Nat) : Int) == 0) = false := by simp only [beq_eq_false_iff_ne]; omega
      have gj := ints_gd p j (by omega)
      rw [show p[j]?.getD 0 = wg p j from rfl] at gj
      by_cases hlast : j + 2 = p.length
      · have e1 := ey (.inr (.inl hlast))
        have hTl : T.length = L.length + 1 := by rw [e1]; simp
        rw [← e1] at hap
        have k3 : (((j + 1 : Nat) : Int) == (p.length : Int) - 1) = true := by simp only [beq_iff_eq]; omega
        generalize wg p (j + 1) = n at *
        (repeat' (first | (with_reducible first | refine thenQ_n ?_ | refine blockQ_n ?_ | refine thenQ_e ?_ | refine blockQ_t ?_ | refine blockQ_f (by decide) ?_) | apply aw_seq | apply aw_skip | apply aw_exit | apply aw_ret | apply aw_block | apply aw_condT rfl | apply aw_condF rfl | ((first | refine aw_hide fun K hK => aw_region ?_ | refine ago_if (by omega) ?_ | skip); simp (disch := first | exact okY | omega) only [ZU, Nat.reduceAdd, Nat.reduceMul, dI, AOpRun, aexec, Nat.reduceBEq, ↓eget_h, pl, isSh, ↓reduceIte, abin, ki, k2, ARun_some, AG_ff, fits, k3, AG_tf, pa, opt1, gx, run1, fillD, D.isBot, D.cells, ne_eq, not_true_eq_false, Nat.reduceGT, or_self, splice, List.take, List.drop, base, Nat.mul_one, hLc, Nat.le_refl, hLt, elems, ↓hget_h, List.all, D.leaf, and_true, ups, hdel_c, hdel_n]) | subst hK))
        refine ⟨j + 1 + 1, fin, fin2, ?_⟩
        rw [hT, hTl, ← hap]
        rw [← hap] at hTin
        refine wk_q [] [(48, 436)] ?_ ?_ <;> repeat' (first | exact trivial | exact vr_val _ | exact vr_list _ | exact vr_vec _ _ _ _ rfl | refine And.intro ⟨_, rfl, .inl ⟨_, rfl, by decide, ?_⟩⟩ ?_ | apply And.intro | exact vrl_flat _ (by first | exact icells_in _ | exact rcells_in _ | exact scells_in _ | exact bcells_in _ | assumption) | fail)
      · have k3 : (((j + 1 : Nat) : Int) == (p.length : Int) - 1) = false := by simp only [beq_eq_false_iff_ne]; omega
        have k4 : ((j + 1 : Nat) : Int) + 1 = ((j + 2 : Nat) : Int) := by omega
        have gk := ints_gd p (j + 2) (by omega)
        rw [show p[j + 2]?.getD 0 = wg p (j + 2) from rfl] at gk
        have hC : wtpC p (j + 1) ↔ decide (wg p (j + 1) > wg p j) ≠ decide (wg p (j + 2) > wg p (j + 1)) := by
          unfold wtpC
          constructor
          · rintro (h | h | h)
            · omega
            · omega
            · exact h
          · exact fun h => .inr (.inr h)
        by_cases hd : decide (wg p (j + 1) > wg p j) = decide (wg p (j + 2) > wg p (j + 1))
        · have e1 := en (fun h => hC.1 h hd)
          clear hC ey en
          generalize wg p (j + 1) = n at *
          generalize wg p j = b at *
          generalize wg p (j + 2) = c at *
          subst e1
          cases hd1 : decide (n > b) with
          | true =>
            rw [hd1] at hd
            (repeat' (first | (with_reducible first | refine thenQ_n ?_ | refine blockQ_n ?_ | refine thenQ_e ?_ | refine blockQ_t ?_ | refine blockQ_f (by decide) ?_) | apply aw_seq | apply aw_skip | apply aw_exit | apply aw_ret | apply aw_block | apply aw_condT rfl | apply aw_condF rfl | ((first | refine aw_hide fun K hK => aw_region ?_ | refine ago_if (by omega) ?_ | skip); simp (disch := first | exact okY | omega) only [ZU, Nat.reduceAdd, Nat.reduceMul, dI, AOpRun, aexec, Nat.reduceBEq, ↓eget_h, pl, isSh, ↓reduceIte, abin, ki, k2, ARun_some, AG_ff, fits, k3, pa, opt1, gx, run1, k1, gj, hd1, k4, gk, ← hd, bne_self_eq_false]) | subst hK))
            refine ⟨j + 1 + 1, fin, fin2, ?_⟩
            rw [hT]
            refine wk_q [] [(48, 48)] ?_ ?_ <;> repeat' (first | exact trivial | exact vr_val _ | exact vr_list _ | exact vr_vec _ _ _ _ rfl | refine And.intro ⟨_, rfl, .inl ⟨_, rfl, by decide, ?_⟩⟩ ?_ | apply And.intro | exact vrl_flat _ (by first | exact icells_in _ | exact rcells_in _ | exact scells_in _ | exact bcells_in _ | assumption) | fail)
          | false =>
            rw [hd1] at hd
            (repeat' (first | (with_reducible first | refine thenQ_n ?_ | refine blockQ_n ?_ | refine thenQ_e ?_ | refine blockQ_t ?_ | refine blockQ_f (by decide) ?_) | apply aw_seq | apply aw_skip | apply aw_exit | apply aw_ret | apply aw_block | apply aw_condT rfl | apply aw_condF rfl | ((first | refine aw_hide fun K hK => aw_region ?_ | refine ago_if (by omega) ?_ | skip); simp (disch := first | exact okY | omega) only [ZU, Nat.reduceAdd, Nat.reduceMul, dI, AOpRun, aexec, Nat.reduceBEq, ↓eget_h, pl, isSh, ↓reduceIte, abin, ki, k2, ARun_some, AG_ff, fits, k3, pa, opt1, gx, run1, k1, gj, hd1, k4, gk, ← hd, bne_self_eq_false]) | subst hK))
            refine ⟨j + 1 + 1, fin, fin2, ?_⟩
            rw [hT]
            refine wk_q [] [(48, 48)] ?_ ?_ <;> repeat' (first | exact trivial | exact vr_val _ | exact vr_list _ | exact vr_vec _ _ _ _ rfl | refine And.intro ⟨_, rfl, .inl ⟨_, rfl, by decide, ?_⟩⟩ ?_ | apply And.intro | exact vrl_flat _ (by first | exact icells_in _ | exact rcells_in _ | exact scells_in _ | exact bcells_in _ | assumption) | fail)
        · have e1 := ey (hC.2 hd)
          have hTl : T.length = L.length + 1 := by rw [e1]; simp
          rw [← e1] at hap
          clear hC ey en
          generalize wg p (j + 1) = n at *
          generalize wg p j = b at *
          generalize wg p (j + 2) = c at *
          cases hd1 : decide (n > b) with
          | true =>
            have hd2 : decide (c > n) = false := by cases h : decide (c > n) with
              | true => exact absurd (hd1.trans h.symm) hd
              | false => rfl
            (repeat' (first | (with_reducible first | refine thenQ_n ?_ | refine blockQ_n ?_ | refine thenQ_e ?_ | refine blockQ_t ?_ | refine blockQ_f (by decide) ?_) | apply aw_seq | apply aw_skip | apply aw_exit | apply aw_ret | apply aw_block | apply aw_condT rfl | apply aw_condF rfl | ((first | refine aw_hide fun K hK => aw_region ?_ | refine ago_if (by omega) ?_ | skip); simp (disch := first | exact okY | omega) only [ZU, Nat.reduceAdd, Nat.reduceMul, dI, AOpRun, aexec, Nat.reduceBEq, ↓eget_h, pl, isSh, ↓reduceIte, abin, ki, k2, ARun_some, AG_ff, fits, k3, pa, opt1, gx, run1, k1, gj, hd1, k4, gk, hd2, tf, fillD, D.isBot, D.cells, ne_eq, not_true_eq_false, Nat.reduceGT, or_self, splice, List.take, List.drop, base, Nat.mul_one, hLc, Nat.le_refl, hLt, elems, ↓hget_h, List.all, D.leaf, and_true, ups, hdel_c, hdel_n]) | subst hK))
            refine ⟨j + 1 + 1, fin, fin2, ?_⟩
            rw [hT, hTl, ← hap]
            rw [← hap] at hTin
            refine wk_q [] [(48, 436)] ?_ ?_ <;> repeat' (first | exact trivial | exact vr_val _ | exact vr_list _ | exact vr_vec _ _ _ _ rfl | refine And.intro ⟨_, rfl, .inl ⟨_, rfl, by decide, ?_⟩⟩ ?_ | apply And.intro | exact vrl_flat _ (by first | exact icells_in _ | exact rcells_in _ | exact scells_in _ | exact bcells_in _ | assumption) | fail)
          | false =>
            have hd2 : decide (c > n) = true := by cases h : decide (c > n) with
              | false => exact absurd (hd1.trans h.symm) hd
              | true => rfl
            (repeat' (first | (with_reducible first | refine thenQ_n ?_ | refine blockQ_n ?_ | refine thenQ_e ?_ | refine blockQ_t ?_ | refine blockQ_f (by decide) ?_) | apply aw_seq | apply aw_skip | apply aw_exit | apply aw_ret | apply aw_block | apply aw_condT rfl | apply aw_condF rfl | ((first | refine aw_hide fun K hK => aw_region ?_ | refine ago_if (by omega) ?_ | skip); simp (disch := first | exact okY | omega) only [ZU, Nat.reduceAdd, Nat.reduceMul, dI, AOpRun, aexec, Nat.reduceBEq, ↓eget_h, pl, isSh, ↓reduceIte, abin, ki, k2, ARun_some, AG_ff, fits, k3, pa, opt1, gx, run1, k1, gj, hd1, k4, gk, hd2, ft, fillD, D.isBot, D.cells, ne_eq, not_true_eq_false, Nat.reduceGT, or_self, splice, List.take, List.drop, base, Nat.mul_one, hLc, Nat.le_refl, hLt, elems, ↓hget_h, List.all, D.leaf, and_true, ups, hdel_c, hdel_n]) | subst hK))
            refine ⟨j + 1 + 1, fin, fin2, ?_⟩
            rw [hT, hTl, ← hap]
            rw [← hap] at hTin
            refine wk_q [] [(48, 436)] ?_ ?_ <;> repeat' (first | exact trivial | exact vr_val _ | exact vr_list _ | exact vr_vec _ _ _ _ rfl | refine And.intro ⟨_, rfl, .inl ⟨_, rfl, by decide, ?_⟩⟩ ?_ | apply And.intro | exact vrl_flat _ (by first | exact icells_in _ | exact rcells_in _ | exact scells_in _ | exact bcells_in _ | assumption) | fail)
  have gx := ints_gd s i hi2
  rw [show s[i]?.getD 0 = wg s i from rfl] at gx
  have ki : (i : Int) < (s.length : Int) := by omega
  have hl := ddN_len s i
  have ez := ddN_zero s
  have fin : i + 1 ≤ s.length := by omega
  have fin2 : s.length - (i + 1) < s.length - i := by omega
  cases i with
  | zero =>
    have hz : ddN s 0 = [] := rfl
    rw [hz]
    generalize hT : ddN s (0 + 1) = T at *
    have hT' : T = [wg s 0] := ez
    generalize wg s 0 = n at *
    subst hT'
    (have hg : (987654321 : Nat) - 987654321 = 0 := rfl; have hr := hg; repeat' (first | (with_reducible first | refine thenQ_n ?_ | refine blockQ_n ?_ | refine thenQ_e ?_ | refine blockQ_t ?_ | refine blockQ_f (by decide) ?_) | apply aw_seq | apply aw_skip | apply aw_exit | apply aw_ret | apply aw_block | apply aw_condT rfl | apply aw_condF rfl | (refine aw_cond rfl (fun hg => ?_) (fun hg => ?_) <;> (try (have hq := hg; simp only [Bool.not_eq_true', Bool.not_eq_false', Bool.and_eq_true, Bool.and_eq_false_iff, Bool.or_eq_true, Bool.or_eq_false_iff, decide_eq_true_eq, decide_eq_false_iff_not, bne_iff_ne, beq_iff_eq, beq_eq_false_iff_ne, bne_eq_false_iff_eq, ne_eq, Int.not_lt, Int.not_le, Decidable.not_not] at hq)) <;> (try (have hr := hg; simp only [decide_eq_true_eq, decide_eq_false_iff_not] at hr)) <;> (try (exfalso; omega))) | ((first | refine aw_hide fun K hK => aw_region ?_ | refine ago_if (by omega) ?_ | skip); simp (disch := first | exact okY | omega) only [ZU, Nat.reduceAdd, Nat.reduceMul, dI, cast_lit, icells, AOpRun, aexec, Nat.reduceBEq, ↓eget_h, sl, isSh, ↓reduceIte, abin, hr, ARun_some, AG_tf, Int.le_refl, ia, opt1, Int.toNat_zero, gx, run1, fillD, D.isBot, D.cells, ne_eq, not_true_eq_false, Nat.reduceGT, or_self, splice, List.take, List.drop, base, Nat.mul_one, Nat.le_refl, elems, ↓hget_h, List.all, D.leaf, and_true, ups, hdel_c, hdel_n, Int.reduceAdd, fits]) | subst hK))
    refine ⟨0 + 1, fin, fin2, ?_⟩
    rw [hT]
    refine wk_q [] [(40, 292)] ?_ ?_ <;> repeat' (first | exact trivial | exact vr_val _ | exact vr_list _ | exact vr_vec _ _ _ _ rfl | refine And.intro ⟨_, rfl, .inl ⟨_, rfl, by decide, ?_⟩⟩ ?_ | apply And.intro)
  | succ j =>
    have k1 : ((j + 1 : Nat) : Int) - 1 = (j : Int) := by omega
    have k2 : (((j + 1 : Nat) : Int) == 0) = false := by simp only [beq_eq_false_iff_ne]; omega
    have gj := ints_gd s j (by omega)
    rw [show s[j]?.getD 0 = wg s j from rfl] at gj
    have en := @ddN_new s j
    have eo := @ddN_old s j
    generalize ddN s (j + 1) = L at *
    generalize hT : ddN s (j + 2) = T at *
    have hTin := icells_in T
    have hLc := icells_len L
    have hLt := ic_take L L.length rfl
    have hap := ic_app L (wg s (j + 1))
    by_cases hne : wg s (j + 1) = wg s j
    · have e1 := eo hne
      subst e1
      have q : (wg s (j + 1) != wg s j) = false := by simp [hne]
      generalize wg s (j + 1) = n at *
      generalize wg s j = b at *
      (repeat' (first | (with_reducible first | refine thenQ_n ?_ | refine blockQ_n ?_ | refine thenQ_e ?_ | refine blockQ_t ?_ | refine blockQ_f (by decide) ?_) | apply aw_seq | apply aw_skip | apply aw_exit | apply aw_ret | apply aw_block | apply aw_condT rfl | apply aw_condF rfl | ((first | refine aw_hide fun K hK => aw_region ?_ | refine ago_if (by omega) ?_ | skip); simp (disch := first | exact okY | omega) only [ZU, Nat.reduceAdd, Nat.reduceMul, dI, AOpRun, aexec, Nat.reduceBEq, ↓eget_h, sl, isSh, ↓reduceIte, abin, ki, k2, ARun_some, AG_ff, ia, opt1, gx, run1, k1, fits, gj, q]) | subst hK))
      refine ⟨j + 1 + 1, fin, fin2, ?_⟩
      rw [show ddN s (j + 1 + 1) = T from hT]
      refine wk_q [] [(40, 40)] ?_ ?_ <;> repeat' (first | exact trivial | exact vr_val _ | exact vr_list _ | exact vr_vec _ _ _ _ rfl | refine And.intro ⟨_, rfl, .inl ⟨_, rfl, by decide, ?_⟩⟩ ?_ | apply And.intro | exact vrl_flat _ (by first | exact icells_in _ | exact rcells_in _ | exact scells_in _ | exact bcells_in _ | assumption) | fail)
    · have e1 := en hne
      have hTl : T.length = L.length + 1 := by rw [e1]; simp
      rw [← e1] at hap
      have q : (wg s (j + 1) != wg s j) = true := by simpa using hne
      generalize wg s (j + 1) = n at *
      generalize wg s j = b at *
      (repeat' (first | (with_reducible first | refine thenQ_n ?_ | refine blockQ_n ?_ | refine thenQ_e ?_ | refine blockQ_t ?_ | refine blockQ_f (by decide) ?_) | apply aw_seq | apply aw_skip | apply aw_exit | apply aw_ret | apply aw_block | apply aw_condT rfl | apply aw_condF rfl | ((first | refine aw_hide fun K hK => aw_region ?_ | refine ago_if (by omega) ?_ | skip); simp (disch := first | exact okY | omega) only [ZU, Nat.reduceAdd, Nat.reduceMul, dI, AOpRun, aexec, Nat.reduceBEq, ↓eget_h, sl, isSh, ↓reduceIte, abin, ki, k2, ARun_some, AG_ff, ia, opt1, gx, run1, k1, fits, gj, q, fillD, D.isBot, D.cells, ne_eq, not_true_eq_false, Nat.reduceGT, or_self, splice, List.take, List.drop, base, Nat.mul_one, hLc, Nat.le_refl, hLt, elems, ↓hget_h, List.all, D.leaf, and_true, ups, hdel_c, hdel_n]) | subst hK))
      refine ⟨j + 1 + 1, fin, fin2, ?_⟩
      rw [show ddN s (j + 1 + 1) = T from hT, hTl, ← hap]
      rw [← hap] at hTin
      refine wk_q [] [(40, 292)] ?_ ?_ <;> repeat' (first | exact trivial | exact vr_val _ | exact vr_list _ | exact vr_vec _ _ _ _ rfl | refine And.intro ⟨_, rfl, .inl ⟨_, rfl, by decide, ?_⟩⟩ ?_ | apply And.intro | exact vrl_flat _ (by first | exact icells_in _ | exact rcells_in _ | exact scells_in _ | exact bcells_in _ | assumption) | fail)
end Go.Proofs.Ytdcodicoclecnaa
/- The document: cycles (views last). No conditions. -/
namespace Go.Proofs.Ytdcodicoclecnaa
open Go.RowKit Lift

theorem sc_snc (L : List (Int × Int)) (x y : Int) : scells L ++ [.val (.int .i64 x), .val (.int .i64 y)] = scells (L ++ [(x, y)]) := by
  rw [← sps_flat, ← sps_flat]; simp [sps]
theorem sc_tk (L : List (Int × Int)) : (scells L).take (L.length * 2) = scells L := List.take_of_length_le (by rw [scells_len]; omega)
theorem ic_tk (L : List Int) (m : Nat) : (icells L).take m = icells (L.take m) := by unfold icells; rw [List.map_take]
theorem rsN_one (p : List Int) : rsN p 1 = [] := rfl
theorem rsN_next (p : List Int) (j : Nat) : rsN p (j + 2) = rsN p (j + 1) ++ [(wdst (wg p (j + 1)) (wg p j), 1)] := rfl
set_option maxRecDepth 100000 in
set_option maxHeartbeats 8000000 in
theorem rcycles_ac (s : List Int) (hs : s.length ≤ 1000) : AC Try.prog 133 [.list (ints s)] [] [] (.tup [.list (sps (cycL s)), dI (csE s)]) := by
  refine kref09_Cycles.ac (n0 := 0) (by simp) ⟨.list _, trivial⟩ trivial rfl ?_
  unfold cref09_Cycles cycL
  have ck := rcheckS_ac s (by omega)
  by_cases he : csE s = 0
  case neg =>
    have q : (csE s != 0) = true := by simpa using he
    rw [if_neg he]
    generalize csE s = e at *
    (repeat' (first | (with_reducible first | refine thenQ_n ?_ | refine blockQ_n ?_ | refine thenQ_e ?_ | refine blockQ_t ?_ | refine blockQ_f (by decide) ?_) | apply aw_seq | apply aw_skip | apply aw_exit | apply aw_ret | apply aw_block | apply aw_condT rfl | apply aw_condF rfl | ((first | refine aw_hide fun K hK => aw_region ?_ | refine acall0 (ck) ?_ | refine ago_if (by omega) ?_ | skip); simp (disch := first | exact okY | omega) only [ZU, Nat.reduceAdd, Nat.reduceMul, AOpRun, aexec, Nat.reduceBEq, ↓eget_h, dI, isSh, ↓reduceIte, abin, q]) | subst hK))
    (refine end_q [] [] ?_ ?_ <;> repeat' (first | exact trivial | exact vr_val _ | exact vr_nil | apply vr_tup | apply And.intro))
  obtain ⟨hs3, hsm⟩ := csE_ok he
  rw [if_pos he]
  rw [he] at ck ⊢
  have ct := rturning_ac s hs
  have htl := wturn_len s
  have htm := wturn_sm hsm
  generalize wturn s = t at *
  have ta := ints_all t
  have tl := ints_len t
  unfold cyc
  (repeat' (first | (with_reducible first | refine thenQ_n ?_ | refine blockQ_n ?_ | refine thenQ_e ?_ | refine blockQ_t ?_ | refine blockQ_f (by decide) ?_) | apply aw_seq | apply aw_skip | apply aw_exit | apply aw_ret | apply aw_block | apply aw_condT rfl | apply aw_condF rfl | ((first | refine aw_hide fun K hK => aw_region ?_ | refine acall0 (ck) ?_ | refine acall0 (ct) ?_ | refine ago_if (by omega) ?_ | skip); simp (disch := first | exact okY | omega) only [ZU, Nat.reduceAdd, Nat.reduceMul, AOpRun, aexec, Nat.reduceBEq, ↓eget_h, dI, isSh, ↓reduceIte, abin, bne_self_eq_false]) | subst hK))
  clear ck ct
  refine aw_loop (fun i : Nat => ⟨[(5, .vec 40 (cyP t i).1.length 2), (6, .vec 48 (cyP t i).2.length 1), (7, .list (ints t)), (8, dI i)], [(40, scells (cyP t i).1), (48, icells (cyP t i).2)], 100⟩) (fun i => i ≤ t.length) (fun i => t.length - i) ⟨0, by omega, ?_⟩ ?_
  · unfold dI
    refine wk_q [] [(40, 200), (48, 208)] ?_ ?_ <;> repeat' (first | exact trivial | exact vr_val _ | exact vr_list _ | exact vr_nilv _ _ _ rfl | refine And.intro ⟨_, rfl, .inr ⟨rfl, rfl, of_decide_eq_true (by kernel_rfl)⟩⟩ ?_ | apply And.intro)
  intro i hi
  by_cases hi2 : i < t.length
  case neg =>
    obtain rfl : i = t.length := by omega
    have hl := cyP_len t t.length
    have hpm := cyP_sm htm t.length
    generalize (cyP t t.length).1 = o at *
    generalize (cyP t t.length).2 = p at *
    have pa := ints_all p
    have pl := ints_len p
    refine aw_wk (s' := ⟨[(5, .vec 40 (o ++ rsN p 1).length 2), (6, .list (ints p)), (7, .list (ints t)), (8, dI t.length)], [(40, scells (o ++ rsN p 1))], 100⟩) ?_ ?_
    · rw [rsN_one, List.append_nil]
      unfold dI
      refine wk_q [48] [(40, 40)] ?_ ?_ <;> repeat' (first | exact trivial | exact vr_val _ | exact vr_list _ | exact vr_vec _ _ _ _ rfl | refine vr_fl _ _ _ _ _ (by decide) rfl ?_ ?_ ?_ ?_ | refine And.intro ⟨_, rfl, .inl ⟨_, rfl, by decide, ?_⟩⟩ ?_ | apply And.intro | exact vrl_flat _ (by first | exact icells_in _ | exact rcells_in _ | exact scells_in _ | exact bcells_in _ | assumption) | fail)
      all_goals first | exact ints_one _ | exact ints_len _ | exact icells_in _ | (rw [Nat.mul_one, ic_take p _ rfl]; exact ints_flat _) | exact ints_flat _ | exact vrl_flat _ (scells_in _)
    (repeat' (first | (with_reducible first | refine thenQ_n ?_ | refine blockQ_n ?_ | refine thenQ_e ?_ | refine blockQ_t ?_ | refine blockQ_f (by decide) ?_) | apply aw_seq | apply aw_skip | apply aw_exit | apply aw_ret | apply aw_block | apply aw_condT rfl | apply aw_condF rfl | ((first | refine aw_hide fun K hK => aw_region ?_ | refine ago_if (by omega) ?_ | skip); simp (disch := first | exact okY | omega) only [ZU, Nat.reduceAdd, Nat.reduceMul, dI, AOpRun, aexec, Nat.reduceBEq, ↓eget_h, tl, isSh, ↓reduceIte, abin, Int.lt_irrefl, decide_false]) | subst hK))
    refine aw_loop (fun j : Nat => ⟨[(5, .vec 40 (o ++ rsN p (j + 1)).length 2), (6, .list (ints p)), (12, dI ((j + 1 : Nat) : Int))], [(40, scells (o ++ rsN p (j + 1)))], 100⟩) (fun j => j = 0 ∨ j + 1 ≤ p.length) (fun j => p.length - j) ⟨0, .inl rfl, ?_⟩ ?_
    · unfold dI
      refine wk_q [] [(40, 40)] ?_ ?_ <;> repeat' (first | exact trivial | exact vr_val _ | exact vr_list _ | exact vr_vec _ _ _ _ rfl | refine And.intro ⟨_, rfl, .inl ⟨_, rfl, by decide, ?_⟩⟩ ?_ | apply And.intro | exact vrl_flat _ (by first | exact icells_in _ | exact rcells_in _ | exact scells_in _ | exact bcells_in _ | assumption) | fail)
      all_goals exact vrl_flat _ (scells_in _)
    intro j hj
    by_cases hj2 : j + 1 < p.length
    case neg =>
      have e1 : rsN p (j + 1) = rsN p p.length := by
        rcases (by omega : p.length = 0 ∨ p.length = j + 1) with h | h
        · have : j = 0 := by omega
          subst this; rw [h]; rfl
        · rw [h]
      have q : decide (((j + 1 : Nat) : Int) < (p.length : Int)) = false := decide_eq_false (by omega)
      rw [e1]
      generalize o ++ rsN p p.length = L at *
      (repeat' (first | (with_reducible first | refine thenQ_n ?_ | refine blockQ_n ?_ | refine thenQ_e ?_ | refine blockQ_t ?_ | refine blockQ_f (by decide) ?_) | apply aw_seq | apply aw_skip | apply aw_exit | apply aw_ret | apply aw_block | apply aw_condT rfl | apply aw_condF rfl | ((first | refine aw_hide fun K hK => aw_region ?_ | refine ago_if (by omega) ?_ | skip); simp (disch := first | exact okY | omega) only [ZU, Nat.reduceAdd, Nat.reduceMul, dI, AOpRun, aexec, Nat.reduceBEq, ↓eget_h, pl, isSh, ↓reduceIte, abin, q]) | subst hK))
      (refine end_q [40] [] ?_ ?_ <;> repeat' (first | exact trivial | exact vr_val _ | apply vr_tup | refine vr_fl _ _ _ _ _ (by decide) rfl ?_ ?_ ?_ ?_ | apply And.intro))
      all_goals first | exact sps_two _ | exact sps_len _ | exact scells_in _ | (rw [sc_tk]; exact sps_flat _) | exact sps_flat _
    have g1 := ints_gd p (j + 1) hj2
    have g0 := ints_gd p j (by omega)
    rw [show p[j + 1]?.getD 0 = wg p (j + 1) from rfl] at g1
    rw [show p[j]?.getD 0 = wg p j from rfl] at g0
    have k1 : ((j + 1 : Nat) : Int) - 1 = (j : Int) := by omega
    have k2 : ((j + 1 : Nat) : Int) < (p.length : Int) := by omega
    have k3 : ((j + 1 : Nat) : Int) + 1 = ((j + 1 + 1 : Nat) : Int) := by omega
    have cd := distance_ac (wg p (j + 1)) (wg p j) (hpm.get _) (hpm.get _)
    have hrl := rsN_len p (j + 1)
    have e1 : o ++ rsN p (j + 1 + 1) = (o ++ rsN p (j + 1)) ++ [(wdst (wg p (j + 1)) (wg p j), 1)] := by rw [rsN_next, List.append_assoc]
    have hL : (o ++ rsN p (j + 1)).length ≤ 1000 := by rw [List.length_append]; omega
    have fin : j + 1 = 0 ∨ j + 1 + 1 ≤ p.length := by omega
    have fin2 : p.length - (j + 1) < p.length - j := by omega
    generalize o ++ rsN p (j + 1) = L at *
    generalize hT : o ++ rsN p (j + 1 + 1) = T at *
    generalize wdst (wg p (j + 1)) (wg p j) = d at *
    generalize wg p (j + 1) = a at *
    generalize wg p j = b at *
    have hap := sc_snc L d 1
    rw [← e1] at hap
    have hTl : T.length = L.length + 1 := by rw [e1]; simp
    have hLc := scells_len L
    have hLt := sc_tk L
    have hTin := scells_in T
    rw [← hap] at hTin
    (repeat' (first | (with_reducible first | refine thenQ_n ?_ | refine blockQ_n ?_ | refine thenQ_e ?_ | refine blockQ_t ?_ | refine blockQ_f (by decide) ?_) | apply aw_seq | apply aw_skip | apply aw_exit | apply aw_ret | apply aw_block | apply aw_condT rfl | apply aw_condF rfl | ((first | refine aw_hide fun K hK => aw_region ?_ | refine acall0 (cd) ?_ | refine ago_if (by omega) ?_ | skip); simp (disch := first | exact okY | omega) only [ZU, Nat.reduceAdd, Nat.reduceMul, dI, AOpRun, aexec, Nat.reduceBEq, ↓eget_h, pl, isSh, ↓reduceIte, abin, k2, pa, opt1, g1, run1, k1, fits, g0, fillD, D.isBot, D.cells, ne_eq, not_true_eq_false, Nat.reduceGT, or_self, splice, List.take, List.drop, base, hLc, Nat.le_refl, hLt, elems, ↓hget_h, List.all, D.leaf, and_true, ups, hdel_c, hdel_n, k3]) | subst hK))
    refine ⟨j + 1, fin, fin2, ?_⟩
    rw [hT, hTl, ← hap]
    refine wk_q [] [(40, 236)] ?_ ?_ <;> repeat' (first | exact trivial | exact vr_val _ | exact vr_list _ | exact vr_vec _ _ _ _ rfl | refine And.intro ⟨_, rfl, .inl ⟨_, rfl, by decide, ?_⟩⟩ ?_ | apply And.intro | exact vrl_flat _ (by first | exact icells_in _ | exact rcells_in _ | exact scells_in _ | exact bcells_in _ | assumption) | fail)
  have gx := ints_gd t i hi2
  rw [show t[i]?.getD 0 = wg t i from rfl] at gx
  have ki : (i : Int) < (t.length : Int) := by omega
  have hl := cyP_len t i
  have hpm := cyP_sm htm i
  have hwt := htm.get i
  have et1 : (cyP t (i + 1)).1 = (cyP t i).1 ++ (wred ((cyP t i).2 ++ [wg t i])).1 := rfl
  have et2 : (cyP t (i + 1)).2 = (wred ((cyP t i).2 ++ [wg t i])).2 := rfl
  have fin : i + 1 ≤ t.length := by omega
  have fin2 : t.length - (i + 1) < t.length - i := by omega
  generalize hT1 : (cyP t (i + 1)).1 = T1 at *
  generalize hT2 : (cyP t (i + 1)).2 = T2 at *
  generalize (cyP t i).1 = o0 at *
  generalize (cyP t i).2 = p0 at *
  have hap := ic_app p0 (wg t i)
  have hpl0 : (p0 ++ [wg t i]).length = p0.length + 1 := by simp
  have hpm1 : WSm (p0 ++ [wg t i]) := hpm.snoc hwt
  have hb0 : o0.length + (p0 ++ [wg t i]).length ≤ i + 1 := by rw [hpl0]; omega
  have hLc := icells_len p0
  have hLt := ic_take p0 p0.length rfl
  generalize wg t i = n at *
  generalize hP1 : p0 ++ [n] = p1 at *
  have hp1in := icells_in p1
  rw [← hap] at hp1in
  (repeat' (first | (with_reducible first | refine thenQ_n ?_ | refine blockQ_n ?_ | refine thenQ_e ?_ | refine blockQ_t ?_ | refine blockQ_f (by decide) ?_) | apply aw_seq | apply aw_skip | apply aw_exit | apply aw_ret | apply aw_block | apply aw_condT rfl | apply aw_condF rfl | ((first | refine aw_hide fun K hK => aw_region ?_ | refine ago_if (by omega) ?_ | skip); simp (disch := first | exact okY | omega) only [ZU, Nat.reduceAdd, Nat.reduceMul, dI, AOpRun, aexec, Nat.reduceBEq, ↓eget_h, tl, isSh, ↓reduceIte, abin, ki, ta, opt1, gx, run1, fillD, D.isBot, D.cells, ne_eq, not_true_eq_false, Nat.reduceGT, or_self, splice, List.take, List.drop, base, ↓hget_h, Nat.mul_one, hLc, Nat.le_refl, hLt, elems, List.all, D.leaf, and_true, ups, hdel_c, hdel_n]) | subst hK))
  refine aw_loop (fun x : List (Int × Int) × List Int => ⟨[(5, .vec 40 x.1.length 2), (6, .vec 48 x.2.length 1), (7, .list (ints t)), (8, dI i)], [(40, scells x.1), (48, icells x.2)], 100⟩) (fun x => x.1 ++ (wred x.2).1 = T1 ∧ (wred x.2).2 = T2 ∧ WSm x.2 ∧ x.1.length + x.2.length ≤ i + 1) (fun x => x.2.length) ⟨(o0, p1), ⟨et1.symm, et2.symm, hpm1, hb0⟩, ?_⟩ ?_
  · simp only
    rw [hpl0, ← hap]
    unfold dI
    refine wk_q [] [(40, 40), (48, 180)] ?_ ?_ <;> repeat' (first | exact trivial | exact vr_val _ | exact vr_list _ | exact vr_vec _ _ _ _ rfl | refine And.intro ⟨_, rfl, .inl ⟨_, rfl, by decide, ?_⟩⟩ ?_ | apply And.intro | exact vrl_flat _ (by first | exact icells_in _ | exact rcells_in _ | exact scells_in _ | exact bcells_in _ | assumption) | fail)
    all_goals first | exact vrl_flat _ (scells_in _) | exact vrl_flat _ hp1in
  clear hP1 hap hpl0 hpm1 hb0 hLc hLt hp1in gx et1 et2 hpm
  rintro ⟨o, p⟩ ⟨h1, h2, h3, h4⟩
  simp only at h1 h2 h3 h4 ⊢
  by_cases hp3 : p.length < 3
  · rw [wred_short hp3] at h1 h2
    simp only [List.append_nil] at h1 h2
    have q : decide ((p.length : Int) ≥ 3) = false := decide_eq_false (by omega)
    (repeat' (first | (with_reducible first | refine thenQ_n ?_ | refine blockQ_n ?_ | refine thenQ_e ?_ | refine blockQ_t ?_ | refine blockQ_f (by decide) ?_) | apply aw_seq | apply aw_skip | apply aw_exit | apply aw_ret | apply aw_block | apply aw_condT rfl | apply aw_condF rfl | ((first | refine aw_hide fun K hK => aw_region ?_ | refine ago_if (by omega) ?_ | skip); simp (disch := first | exact okY | omega) only [ZU, Nat.reduceAdd, Nat.reduceMul, dI, AOpRun, aexec, Nat.reduceBEq, ↓eget_h, isSh, ↓reduceIte, abin, q, fits]) | subst hK))
    refine ⟨i + 1, fin, fin2, ?_⟩
    rw [hT1, hT2, ← h1, ← h2]
    refine wk_q [] [(40, 40), (48, 48)] ?_ ?_ <;> repeat' (first | exact trivial | exact vr_val _ | exact vr_list _ | exact vr_vec _ _ _ _ rfl | refine And.intro ⟨_, rfl, .inl ⟨_, rfl, by decide, ?_⟩⟩ ?_ | apply And.intro | exact vrl_flat _ (by first | exact icells_in _ | exact rcells_in _ | exact scells_in _ | exact bcells_in _ | assumption) | fail)
    all_goals first | exact vrl_flat _ (scells_in _) | exact vrl_flat _ (icells_in _)
  obtain ⟨m, hm⟩ : ∃ m, p.length = m + 3 := ⟨p.length - 3, by omega⟩
  have ga := wg_icells p (m + 2) (by omega)
  have gb := wg_icells p (m + 1) (by omega)
  have gc := wg_icells p m (by omega)
  have k1 : ((m + 3 : Nat) : Int) - 1 = ((m + 2 : Nat) : Int) := by omega
  have k2 : ((m + 3 : Nat) : Int) - 2 = ((m + 1 : Nat) : Int) := by omega
  have k3 : ((m + 3 : Nat) : Int) - 3 = (m : Int) := by omega
  have k4 : ((m + 2 : Nat) : Int) < ((m + 3 : Nat) : Int) := by omega
  have k5 : ((m + 1 : Nat) : Int) < ((m + 3 : Nat) : Int) := by omega
  have k6 : (m : Int) < ((m + 3 : Nat) : Int) := by omega
  have k7 : decide (((m + 3 : Nat) : Int) ≥ 3) = true := decide_eq_true (by omega)
  have ca := distance_ac (wg p (m + 2)) (wg p (m + 1)) (h3.get _) (h3.get _)
  have cb := distance_ac (wg p (m + 1)) (wg p m) (h3.get _) (h3.get _)
  have hLc := icells_len p
  have sLc := scells_len o
  have sLt := sc_tk o
  have rs := @wred_stop p
  have r3 := @wred_three p
  have rm := @wred_more p
  rw [hm, show m + 3 - 1 = m + 2 by omega, show m + 3 - 2 = m + 1 by omega, show m + 3 - 3 = m by omega] at rs r3 rm
  rw [hm] at h4 hLc ⊢
  by_cases hlt : wdst (wg p (m + 2)) (wg p (m + 1)) < wdst (wg p (m + 1)) (wg p m)
  · rw [rs hlt] at h1 h2
    simp only [List.append_nil] at h1 h2
    have q : decide (wdst (wg p (m + 2)) (wg p (m + 1)) < wdst (wg p (m + 1)) (wg p m)) = true := decide_eq_true hlt
    clear rs r3 rm hlt
    generalize wdst (wg p (m + 2)) (wg p (m + 1)) = X at *
    generalize wdst (wg p (m + 1)) (wg p m) = Y at *
    generalize wg p (m + 2) = a at *
    generalize wg p (m + 1) = b at *
    generalize wg p m = c at *
    (repeat' (first | (with_reducible first | refine thenQ_n ?_ | refine blockQ_n ?_ | refine thenQ_e ?_ | refine blockQ_t ?_ | refine blockQ_f (by decide) ?_) | apply aw_seq | apply aw_skip | apply aw_exit | apply aw_ret | apply aw_block | apply aw_condT rfl | apply aw_condF rfl | ((first | refine aw_hide fun K hK => aw_region ?_ | refine acall0 (ca) ?_ | refine acall0 (cb) ?_ | refine ago_if (by omega) ?_ | skip); simp (disch := first | exact okY | omega) only [ZU, Nat.reduceAdd, Nat.reduceMul, dI, AOpRun, aexec, Nat.reduceBEq, ↓eget_h, isSh, ↓reduceIte, abin, k7, k1, fits, k4, Nat.mul_one, run1, ↓hget_h, Nat.add_zero, ga, k2, k5, gb, k3, k6, gc, q]) | subst hK))
    refine ⟨i + 1, fin, fin2, ?_⟩
    rw [hT1, hT2, ← h1, ← h2, hm]
    refine wk_q [] [(40, 40), (48, 48)] ?_ ?_ <;> repeat' (first | exact trivial | exact vr_val _ | exact vr_list _ | exact vr_vec _ _ _ _ rfl | refine And.intro ⟨_, rfl, .inl ⟨_, rfl, by decide, ?_⟩⟩ ?_ | apply And.intro | exact vrl_flat _ (by first | exact icells_in _ | exact rcells_in _ | exact scells_in _ | exact bcells_in _ | assumption) | fail)
    all_goals first | exact vrl_flat _ (scells_in _) | exact vrl_flat _ (icells_in _)
  have q : decide (wdst (wg p (m + 2)) (wg p (m + 1)) < wdst (wg p (m + 1)) (wg p m)) = false := decide_eq_false hlt
  by_cases hm0 : m = 0
  · subst hm0
    rw [r3 rfl hlt] at h1 h2
    simp only at h1 h2
    have hd : p.drop 1 = [wg p 1, wg p 2] := by
      match p, hm with
      | [x, y, z], _ => rfl
    rw [hd] at h1 h2
    have h3' : WSm [wg p 1, wg p 2] := by rw [← hd]; exact h3.drop 1
    have fin3 : (o ++ [(wdst (wg p 1) (wg p 0), 1)]).length + [wg p 1, wg p 2].length ≤ i + 1 := by simp; omega
    have fin4 : [wg p 1, wg p 2].length < 0 + 3 := by simp
    clear rs r3 rm hlt hd
    simp only [Nat.zero_add] at *
    generalize wdst (wg p 2) (wg p 1) = X at *
    generalize wdst (wg p 1) (wg p 0) = Y at *
    generalize wg p 2 = a at *
    generalize wg p 1 = b at *
    generalize wg p 0 = c at *
    have hap := sc_snc o Y 1
    have hoin := scells_in (o ++ [(Y, 1)])
    have hol : (o ++ [(Y, 1)]).length = o.length + 1 := by simp
    rw [← hap] at hoin
    (repeat' (first | (with_reducible first | refine thenQ_n ?_ | refine blockQ_n ?_ | refine thenQ_e ?_ | refine blockQ_t ?_ | refine blockQ_f (by decide) ?_) | apply aw_seq | apply aw_skip | apply aw_exit | apply aw_ret | apply aw_block | apply aw_condT rfl | apply aw_condF rfl | ((first | refine aw_hide fun K hK => aw_region ?_ | refine acall0 (ca) ?_ | refine acall0 (cb) ?_ | refine ago_if (by omega) ?_ | skip); simp (disch := first | exact okY | omega) only [ZU, Nat.reduceAdd, Nat.reduceMul, dI, AOpRun, aexec, Nat.reduceBEq, ↓eget_h, cast_lit, isSh, ↓reduceIte, abin, Int.le_refl, Int.reduceSub, fits, Int.reduceLE, Int.reduceLT, Int.reduceToNat, Nat.mul_one, run1, ↓hget_h, Nat.add_zero, ga, gb, Int.toNat_zero, gc, q, fillD, D.isBot, D.cells, ne_eq, not_true_eq_false, Nat.reduceGT, or_self, splice, List.take, List.drop, base, sLc, Nat.le_refl, sLt, elems, List.all, D.leaf, and_true, ups, hdel_c, hdel_n]) | subst hK))
    refine ⟨(o ++ [(Y, 1)], [b, a]), ⟨by rw [List.append_assoc]; exact h1, h2, h3', fin3⟩, fin4, ?_⟩
    simp only
    rw [hol, ← hap]
    refine wk_q [] [(40, 412), (48, 476)] ?_ ?_ <;> repeat' (first | exact trivial | exact vr_val _ | exact vr_list _ | exact vr_vec _ _ _ _ rfl | refine And.intro ⟨_, rfl, .inl ⟨_, rfl, by decide, ?_⟩⟩ ?_ | apply And.intro | exact vrl_flat _ (by first | exact icells_in _ | exact rcells_in _ | exact scells_in _ | exact bcells_in _ | assumption) | fail)
    all_goals first | exact vrl_flat _ hoin | exact vrl_flat _ (icells_in _)
  rw [rm (by omega) hlt] at h1 h2
  simp only at h1 h2
  have hpt : (p.take m ++ [wg p (m + 2)]).length = m + 1 := by simp; omega
  have h3' : WSm (p.take m ++ [wg p (m + 2)]) := (h3.take m).snoc (h3.get _)
  have fin3 : (o ++ [(wdst (wg p (m + 1)) (wg p m), 2)]).length + (p.take m ++ [wg p (m + 2)]).length ≤ i + 1 := by rw [hpt]; simp; omega
  have fin4 : (p.take m ++ [wg p (m + 2)]).length < m + 3 := by rw [hpt]; omega
  have hpa := ic_app (p.take m) (wg p (m + 2))
  have hpin := icells_in (p.take m ++ [wg p (m + 2)])
  rw [← ic_tk] at hpa
  rw [← hpa] at hpin
  have q3 : (((m + 3 : Nat) : Int) == 3) = false := by simp only [beq_eq_false_iff_ne]; omega
  have pm : ((icells p).take m).length = m := by rw [ic_tk, icells_len]; simp; omega
  have pt : ((icells p).take m).take m = (icells p).take m := List.take_of_length_le (by omega)
  have pl : ((icells p).take m).all D.leaf = true := by rw [ic_tk]; exact icells_leaf _
  have pin : ∀ d ∈ (icells p).take m, In (fun _ => False) d := fun d hd => icells_in p d (List.mem_of_mem_take hd)
  have k8 : m ≤ m + 3 := by omega
  have k9 : (m : Int) ≤ ((m + 3 : Nat) : Int) := by omega
  clear rs r3 rm hlt
  generalize wdst (wg p (m + 2)) (wg p (m + 1)) = X at *
  generalize wdst (wg p (m + 1)) (wg p m) = Y at *
  generalize wg p (m + 2) = a at *
  generalize wg p (m + 1) = b at *
  generalize wg p m = c at *
  have hap := sc_snc o Y 2
  have hoin := scells_in (o ++ [(Y, 2)])
  have hol : (o ++ [(Y, 2)]).length = o.length + 1 := by simp
  rw [← hap] at hoin
  (repeat' (first | (with_reducible first | refine thenQ_n ?_ | refine blockQ_n ?_ | refine thenQ_e ?_ | refine blockQ_t ?_ | refine blockQ_f (by decide) ?_) | apply aw_seq | apply aw_skip | apply aw_exit | apply aw_ret | apply aw_block | apply aw_condT rfl | apply aw_condF rfl | ((first | refine aw_hide fun K hK => aw_region ?_ | refine acall0 (ca) ?_ | refine acall0 (cb) ?_ | refine ago_if (by omega) ?_ | skip); simp (disch := first | exact okY | omega) only [ZU, Nat.reduceAdd, Nat.reduceMul, dI, AOpRun, aexec, Nat.reduceBEq, ↓eget_h, isSh, ↓reduceIte, abin, k7, k1, fits, k4, Nat.mul_one, run1, ↓hget_h, Nat.add_zero, ga, k2, k5, gb, k3, k6, gc, q, q3, fillD, D.isBot, D.cells, ne_eq, not_true_eq_false, Nat.reduceGT, or_self, splice, List.take, List.drop, base, sLc, Nat.le_refl, sLt, elems, List.all, D.leaf, and_true, ups, hdel_c, hdel_n, asI, Int.le_refl, k9, true_or, hLc, k8, pl, pm, pt]) | subst hK))
  refine ⟨(o ++ [(Y, 2)], p.take m ++ [a]), ⟨by rw [List.append_assoc]; exact h1, h2, h3', fin3⟩, fin4, ?_⟩
  simp only
  rw [hol, hpt, ← hap, ← hpa]
  refine wk_q [] [(40, 412), (48, 516)] ?_ ?_ <;> repeat' (first | exact trivial | exact vr_val _ | exact vr_list _ | exact vr_vec _ _ _ _ rfl | refine And.intro ⟨_, rfl, .inl ⟨_, rfl, by decide, ?_⟩⟩ ?_ | apply And.intro | exact vrl_flat _ (by first | exact icells_in _ | exact rcells_in _ | exact scells_in _ | exact bcells_in _ | assumption) | fail)
  all_goals first | exact vrl_flat _ hoin | exact vrl_flat _ hpin
end Go.Proofs.Ytdcodicoclecnaa
/- The document: damage (views last). No conditions. -/
namespace Go.Proofs.Ytdcodicoclecnaa
open Go.RowKit Lift

set_option maxRecDepth 100000 in
set_option maxHeartbeats 8000000 in
theorem rdamage_ac (s : List Int) (st : List (Int × Int)) (hs : s.length ≤ 1000) (hst : st.length ≤ 1000000) : AC Try.prog 100 [.list (ints s), .list (sps st)] [] [] (.tup [dI (dmV s st), dI (dmE s st)]) := by
  refine kref09_Damage.ac (n0 := 0) (by simp) ⟨.list _, .list _, trivial⟩ trivial rfl ?_
  unfold cref09_Damage dmV dmE
  have cc := rcycles_ac s hs
  have hcl := cycL_len s
  have hch := cycL_h s
  have sl := sps_len st
  have sa := sps_all st
  by_cases he : csE s = 0
  case neg =>
    have q : (csE s != 0) = true := by simpa using he
    rw [if_neg he, if_neg he]
    generalize csE s = e at *
    generalize cycL s = c at *
    (repeat' (first | (with_reducible first | refine thenQ_n ?_ | refine blockQ_n ?_ | refine thenQ_e ?_ | refine blockQ_t ?_ | refine blockQ_f (by decide) ?_) | apply aw_seq | apply aw_skip | apply aw_exit | apply aw_ret | apply aw_block | apply aw_condT rfl | apply aw_condF rfl | ((first | refine aw_hide fun K hK => aw_region ?_ | refine acall0 (cc) ?_ | refine ago_if (by omega) ?_ | skip); simp (disch := first | exact okY | omega) only [ZU, Nat.reduceAdd, Nat.reduceMul, AOpRun, aexec, Nat.reduceBEq, ↓eget_h, dI, opt1, isSh, ↓reduceIte, abin, q]) | subst hK))
    (refine end_q [] [] ?_ ?_ <;> repeat' (first | exact trivial | exact vr_val _ | apply vr_tup | apply And.intro))
  rw [if_pos he, if_pos he]
  rw [he] at cc
  generalize cycL s = c at *
  have cl := sps_len c
  have ca := sps_all c
  by_cases h8 : st.length > 8
  · have q : decide ((st.length : Int) > 8) = true := decide_eq_true (by omega)
    rw [stE_long h8, if_neg (by omega)]
    (repeat' (first | (with_reducible first | refine thenQ_n ?_ | refine blockQ_n ?_ | refine thenQ_e ?_ | refine blockQ_t ?_ | refine blockQ_f (by decide) ?_) | apply aw_seq | apply aw_skip | apply aw_exit | apply aw_ret | apply aw_block | apply aw_condT rfl | apply aw_condF rfl | ((first | refine aw_hide fun K hK => aw_region ?_ | refine acall0 (cc) ?_ | refine ago_if (by omega) ?_ | skip); simp (disch := first | exact okY | omega) only [ZU, Nat.reduceAdd, Nat.reduceMul, AOpRun, aexec, Nat.reduceBEq, ↓eget_h, dI, opt1, isSh, ↓reduceIte, abin, bne_self_eq_false, sl, q]) | subst hK))
    (refine end_q [] [] ?_ ?_ <;> repeat' (first | exact trivial | exact vr_val _ | apply vr_tup | apply And.intro))
  have q8 : decide ((st.length : Int) > 8) = false := decide_eq_false (by omega)
  have hyes := @stE_yes st h8
  have hno := @stE_no st h8
  (repeat' (first | (with_reducible first | refine thenQ_n ?_ | refine blockQ_n ?_ | refine thenQ_e ?_ | refine blockQ_t ?_ | refine blockQ_f (by decide) ?_) | apply aw_seq | apply aw_skip | apply aw_exit | apply aw_ret | apply aw_block | apply aw_condT rfl | apply aw_condF rfl | ((first | refine aw_hide fun K hK => aw_region ?_ | refine acall0 (cc) ?_ | refine ago_if (by omega) ?_ | skip); simp (disch := first | exact okY | omega) only [ZU, Nat.reduceAdd, Nat.reduceMul, AOpRun, aexec, Nat.reduceBEq, ↓eget_h, dI, opt1, isSh, ↓reduceIte, abin, bne_self_eq_false, sl, q8]) | subst hK))
  clear cc
  refine aw_loop (fun i : Nat => ⟨[(1, .list (sps st)), (6, .list (sps c)), (8, dI i)], [], 100⟩) (fun i => i ≤ st.length ∧ ∀ j, j < i → stG st j = true) (fun i => st.length - i) ⟨0, ⟨by omega, fun j hj => by omega⟩, ?_⟩ ?_
  · unfold dI
    refine wk_q [] [] ?_ ?_ <;> repeat' (first | exact trivial | exact vr_val _ | exact vr_list _ | apply And.intro)
  rintro i ⟨hile, hin⟩
  by_cases hi2 : i < st.length
  case neg =>
    obtain rfl : i = st.length := by omega
    have e0 := hyes hin
    obtain ⟨_, hso⟩ := stE_ok e0
    rw [e0, if_pos rfl]
    clear hyes hno
    (repeat' (first | (with_reducible first | refine thenQ_n ?_ | refine blockQ_n ?_ | refine thenQ_e ?_ | refine blockQ_t ?_ | refine blockQ_f (by decide) ?_) | apply aw_seq | apply aw_skip | apply aw_exit | apply aw_ret | apply aw_block | apply aw_condT rfl | apply aw_condF rfl | ((first | refine aw_hide fun K hK => aw_region ?_ | refine ago_if (by omega) ?_ | skip); simp (disch := first | exact okY | omega) only [ZU, Nat.reduceAdd, Nat.reduceMul, dI, AOpRun, aexec, Nat.reduceBEq, ↓eget_h, sl, isSh, ↓reduceIte, abin, Int.lt_irrefl, decide_false]) | subst hK))
    refine aw_loop (fun i : Nat => ⟨[(1, .list (sps st)), (6, .list (sps c)), (9, dI (dsum st (c.take i))), (10, dI i)], [], 100⟩) (fun i => i ≤ c.length) (fun i => c.length - i) ⟨0, by omega, ?_⟩ ?_
    · unfold dI
      refine wk_q [] [] ?_ ?_ <;> repeat' (first | exact trivial | exact vr_val _ | exact vr_list _ | apply And.intro)
    intro i hile
    by_cases hi2 : i < c.length
    case neg =>
      obtain rfl : i = c.length := by omega
      rw [List.take_length]
      (repeat' (first | (with_reducible first | refine thenQ_n ?_ | refine blockQ_n ?_ | refine thenQ_e ?_ | refine blockQ_t ?_ | refine blockQ_f (by decide) ?_) | apply aw_seq | apply aw_skip | apply aw_exit | apply aw_ret | apply aw_block | apply aw_condT rfl | apply aw_condF rfl | ((first | refine aw_hide fun K hK => aw_region ?_ | refine ago_if (by omega) ?_ | skip); simp (disch := first | exact okY | omega) only [ZU, Nat.reduceAdd, Nat.reduceMul, dI, AOpRun, aexec, Nat.reduceBEq, ↓eget_h, cl, isSh, ↓reduceIte, abin, Int.lt_irrefl, decide_false]) | subst hK))
      (refine end_q [] [] ?_ ?_ <;> repeat' (first | exact trivial | exact vr_val _ | apply vr_tup | apply And.intro))
    have gi := sps_gd c i hi2
    have ki : (i : Int) < (c.length : Int) := by omega
    have hb := dsum_bd hso (hch.take i)
    have hlen : (c.take i).length = i := by simp; omega
    rw [hlen] at hb
    have ed := dsum_take st c i hi2
    have hh := hch.get hi2
    have hdm := dmg_bd hso (lo c i) st.length (Nat.le_refl _)
    generalize hT : dsum st (c.take (i + 1)) = T at *
    generalize dsum st (c.take i) = S at *
    generalize hi c i = h at *
    generalize hz : lo c i = z at *
    (repeat' (first | (with_reducible first | refine thenQ_n ?_ | refine blockQ_n ?_ | refine thenQ_e ?_ | refine blockQ_t ?_ | refine blockQ_f (by decide) ?_) | apply aw_seq | apply aw_skip | apply aw_exit | apply aw_ret | apply aw_block | apply aw_condT rfl | apply aw_condF rfl | ((first | refine aw_hide fun K hK => aw_region ?_ | refine ago_if (by omega) ?_ | skip); simp (disch := first | exact okY | omega) only [ZU, Nat.reduceAdd, Nat.reduceMul, dI, AOpRun, aexec, Nat.reduceBEq, ↓eget_h, cl, isSh, ↓reduceIte, abin, ki]) | subst hK))
    refine aw_loop (fun k : Nat => ⟨[(1, .list (sps st)), (6, .list (sps c)), (9, dI S), (10, dI i), (11, dI (dmg st z k)), (12, dI k)], [], 100⟩) (fun k => k ≤ st.length) (fun k => st.length - k) ⟨0, by omega, ?_⟩ ?_
    · unfold dI
      refine wk_q [] [] ?_ ?_ <;> repeat' (first | exact trivial | exact vr_val _ | exact vr_list _ | apply And.intro)
    intro k hk
    by_cases hk2 : k < st.length
    case neg =>
      obtain rfl : k = st.length := by omega
      have m1 : 0 ≤ h * dmg st z st.length ∧ h * dmg st z st.length ≤ 2000000 := by rcases hh with rfl | rfl <;> omega
      generalize dmg st z st.length = d at *
      generalize hm : h * d = M at *
      (repeat' (first | (with_reducible first | refine thenQ_n ?_ | refine blockQ_n ?_ | refine thenQ_e ?_ | refine blockQ_t ?_ | refine blockQ_f (by decide) ?_) | apply aw_seq | apply aw_skip | apply aw_exit | apply aw_ret | apply aw_block | apply aw_condT rfl | apply aw_condF rfl | ((first | refine aw_hide fun K hK => aw_region ?_ | refine ago_if (by omega) ?_ | skip); simp (disch := first | exact okY | omega) only [ZU, Nat.reduceAdd, Nat.reduceMul, dI, AOpRun, aexec, Nat.reduceBEq, ↓eget_h, sl, isSh, ↓reduceIte, abin, Int.lt_irrefl, decide_false, ca, opt1, gi, Int.reduceLE, cast_lit, Int.reduceLT, Int.reduceToNat, List.drop, run1, hm, fits]) | subst hK))
      refine ⟨i + 1, by omega, by omega, ?_⟩
      rw [hT, ed]
      refine wk_q [] [] ?_ ?_ <;> repeat' (first | exact trivial | exact vr_val _ | exact vr_list _ | apply And.intro)
    have gk := sps_gd st k hk2
    have kk : (k : Int) < (st.length : Int) := by omega
    have hd := dmg_succ st z k
    generalize hD : dmg st z (k + 1) = D1 at *
    generalize dmg st z k = d at *
    generalize hi st k = v at *
    generalize lo st k = u at *
    by_cases huz : u ≤ z
    · rw [if_pos huz] at hd
      subst hd
      have q : decide (u ≤ z) = true := decide_eq_true huz
      (repeat' (first | (with_reducible first | refine thenQ_n ?_ | refine blockQ_n ?_ | refine thenQ_e ?_ | refine blockQ_t ?_ | refine blockQ_f (by decide) ?_) | apply aw_seq | apply aw_skip | apply aw_exit | apply aw_ret | apply aw_block | apply aw_condT rfl | apply aw_condF rfl | ((first | refine aw_hide fun K hK => aw_region ?_ | refine ago_if (by omega) ?_ | skip); simp (disch := first | exact okY | omega) only [ZU, Nat.reduceAdd, Nat.reduceMul, dI, AOpRun, aexec, Nat.reduceBEq, ↓eget_h, sl, isSh, ↓reduceIte, abin, kk, sa, opt1, gk, Int.le_refl, cast_lit, Int.reduceLT, Int.toNat_zero, List.drop, run1, ca, gi, q, Int.reduceLE, Int.reduceToNat, fits]) | subst hK))
      refine ⟨k + 1, by omega, by omega, ?_⟩
      rw [hD]
      refine wk_q [] [] ?_ ?_ <;> repeat' (first | exact trivial | exact vr_val _ | exact vr_list _ | apply And.intro)
    · rw [if_neg huz] at hd
      subst hd
      have q : decide (u ≤ z) = false := decide_eq_false huz
      (repeat' (first | (with_reducible first | refine thenQ_n ?_ | refine blockQ_n ?_ | refine thenQ_e ?_ | refine blockQ_t ?_ | refine blockQ_f (by decide) ?_) | apply aw_seq | apply aw_skip | apply aw_exit | apply aw_ret | apply aw_block | apply aw_condT rfl | apply aw_condF rfl | ((first | refine aw_hide fun K hK => aw_region ?_ | refine ago_if (by omega) ?_ | skip); simp (disch := first | exact okY | omega) only [ZU, Nat.reduceAdd, Nat.reduceMul, dI, AOpRun, aexec, Nat.reduceBEq, ↓eget_h, sl, isSh, ↓reduceIte, abin, kk, sa, opt1, gk, Int.le_refl, cast_lit, Int.reduceLT, Int.toNat_zero, List.drop, run1, ca, gi, q, fits]) | subst hK))
      refine ⟨k + 1, by omega, by omega, ?_⟩
      rw [hD]
      refine wk_q [] [] ?_ ?_ <;> repeat' (first | exact trivial | exact vr_val _ | exact vr_list _ | apply And.intro)
  have gi := sps_gd st i hi2
  have ki : (i : Int) < (st.length : Int) := by omega
  have hno2 := @hno i hi2
  have hnext : stG st i = true → ∀ j, j < i + 1 → stG st j = true := fun h j hj => by
    rcases (by omega : j < i ∨ j = i) with h2 | rfl
    · exact hin j h2
    · exact h
  have hgd : stG st i = (wI (lo st i) 0 1000000 && wI (hi st i) 0 1000000 && (decide (i = 0) || !decide (lo st i ≤ lo st (i - 1)))) := rfl
  clear hin hyes hno
  have fin : i + 1 ≤ st.length := by omega
  have fin2 : st.length - (i + 1) < st.length - i := by omega
  generalize stG st i = G at *
  have w1 := wqwi_ac (lo st i) 0 1000000
  have w2 := wqwi_ac (hi st i) 0 1000000
  cases h1 : wI (lo st i) 0 1000000 with
  | false =>
    rw [h1, Bool.false_and, Bool.false_and] at hgd
    rw [hno2 hgd, if_neg (by omega)]
    rw [h1] at w1
    (repeat' (first | (with_reducible first | refine thenQ_n ?_ | refine blockQ_n ?_ | refine thenQ_e ?_ | refine blockQ_t ?_ | refine blockQ_f (by decide) ?_) | apply aw_seq | apply aw_skip | apply aw_exit | apply aw_ret | apply aw_block | apply aw_condT rfl | apply aw_condF rfl | ((first | refine aw_hide fun K hK => aw_region ?_ | refine acall0 (w1) ?_ | refine acall0 (w2) ?_ | refine ago_if (by omega) ?_ | skip); simp (disch := first | exact okY | omega) only [ZU, Nat.reduceAdd, Nat.reduceMul, dI, AOpRun, aexec, Nat.reduceBEq, ↓eget_h, sl, isSh, ↓reduceIte, abin, ki, sa, opt1, gi, Int.le_refl, cast_lit, Int.reduceLT, Int.toNat_zero, List.drop, run1, dB, ARun_some, AG_tf, AG_un, blockQ]) | subst hK))
    (refine end_q [] [] ?_ ?_ <;> repeat' (first | exact trivial | exact vr_val _ | apply vr_tup | apply And.intro))
  | true =>
  cases h2 : wI (hi st i) 0 1000000 with
  | false =>
    rw [h1, h2, Bool.true_and, Bool.false_and] at hgd
    rw [hno2 hgd, if_neg (by omega)]
    rw [h1] at w1
    rw [h2] at w2
    (repeat' (first | (with_reducible first | refine thenQ_n ?_ | refine blockQ_n ?_ | refine thenQ_e ?_ | refine blockQ_t ?_ | refine blockQ_f (by decide) ?_) | apply aw_seq | apply aw_skip | apply aw_exit | apply aw_ret | apply aw_block | apply aw_condT rfl | apply aw_condF rfl | ((first | refine aw_hide fun K hK => aw_region ?_ | refine acall0 (w1) ?_ | refine acall0 (w2) ?_ | refine ago_if (by omega) ?_ | skip); simp (disch := first | exact okY | omega) only [ZU, Nat.reduceAdd, Nat.reduceMul, dI, AOpRun, aexec, Nat.reduceBEq, ↓eget_h, sl, isSh, ↓reduceIte, abin, ki, sa, opt1, gi, Int.le_refl, cast_lit, Int.reduceLT, Int.toNat_zero, List.drop, run1, dB, ARun_some, AG_ff, Int.reduceLE, Int.reduceToNat, AG_tf, AG_un, blockQ]) | subst hK))
    (refine end_q [] [] ?_ ?_ <;> repeat' (first | exact trivial | exact vr_val _ | apply vr_tup | apply And.intro))
  | true =>
  rw [h1, h2, Bool.true_and, Bool.true_and] at hgd
  rw [h1] at w1
  rw [h2] at w2
  cases i with
  | zero =>
    have hG : G = true := by rw [hgd]; rfl
    (have hg : (987654321 : Nat) - 987654321 = 0 := rfl; have hr := hg; repeat' (first | (with_reducible first | refine thenQ_n ?_ | refine blockQ_n ?_ | refine thenQ_e ?_ | refine blockQ_t ?_ | refine blockQ_f (by decide) ?_) | apply aw_seq | apply aw_skip | apply aw_exit | apply aw_ret | apply aw_block | apply aw_condT rfl | apply aw_condF rfl | (refine aw_cond rfl (fun hg => ?_) (fun hg => ?_) <;> (try (have hq := hg; simp only [Bool.not_eq_true', Bool.not_eq_false', Bool.and_eq_true, Bool.and_eq_false_iff, Bool.or_eq_true, Bool.or_eq_false_iff, decide_eq_true_eq, decide_eq_false_iff_not, bne_iff_ne, beq_iff_eq, beq_eq_false_iff_ne, bne_eq_false_iff_eq, ne_eq, Int.not_lt, Int.not_le, Decidable.not_not] at hq)) <;> (try (have hr := hg; simp only [decide_eq_true_eq, decide_eq_false_iff_not] at hr)) <;> (try (exfalso; omega))) | (refine ag_bool (fun hg => ?_) (fun hg => ?_) <;> (try (have hq := hg; simp only [Bool.not_eq_true', Bool.not_eq_false', Bool.and_eq_true, Bool.and_eq_false_iff, Bool.or_eq_true, Bool.or_eq_false_iff, decide_eq_true_eq, decide_eq_false_iff_not, bne_iff_ne, beq_iff_eq, beq_eq_false_iff_ne, bne_eq_false_iff_eq, ne_eq, Int.not_lt, Int.not_le, Decidable.not_not] at hq)) <;> (try (have hr := hg; simp only [decide_eq_true_eq, decide_eq_false_iff_not] at hr)) <;> (try (exfalso; omega)) <;> simp (disch := first | exact okY | omega) only [ZU, hr, decide_false, AG_ft, Nat.reduceAdd, Nat.reduceBEq, ARun_some, ↓eget_h, AG_ff, AOpRun, aexec, ↓reduceIte]) | ((first | refine aw_hide fun K hK => aw_region ?_ | refine acall0 (w1) ?_ | refine acall0 (w2) ?_ | refine ago_if (by omega) ?_ | skip); simp (disch := first | exact okY | omega) only [ZU, Nat.reduceAdd, Nat.reduceMul, dI, cast_lit, AOpRun, aexec, Nat.reduceBEq, ↓eget_h, sl, isSh, ↓reduceIte, abin, hr, Int.le_refl, sa, opt1, Int.toNat_zero, gi, Int.reduceLT, List.drop, run1, dB, ARun_some, AG_ff, Int.reduceLE, Int.reduceToNat, Int.reduceAdd, fits]) | subst hK))
    refine ⟨0 + 1, ⟨fin, hnext hG⟩, fin2, ?_⟩
    refine wk_q [] [] ?_ ?_ <;> repeat' (first | exact trivial | exact vr_val _ | exact vr_list _ | apply And.intro)
  | succ j =>
    have gj := sps_gd st j (by omega)
    have k1 : ((j + 1 : Nat) : Int) - 1 = (j : Int) := by omega
    have k2 : decide (((j + 1 : Nat) : Int) > 0) = true := decide_eq_true (by omega)
    have k3 : decide (j + 1 = 0) = false := rfl
    rw [k3, Bool.false_or, Nat.add_sub_cancel] at hgd
    generalize lo st (j + 1) = u at *
    generalize lo st j = w at *
    by_cases huw : u ≤ w
    · have q : decide (u ≤ w) = true := decide_eq_true huw
      rw [q] at hgd
      rw [hno2 hgd, if_neg (by omega)]
      (repeat' (first | (with_reducible first | refine thenQ_n ?_ | refine blockQ_n ?_ | refine thenQ_e ?_ | refine blockQ_t ?_ | refine blockQ_f (by decide) ?_) | apply aw_seq | apply aw_skip | apply aw_exit | apply aw_ret | apply aw_block | apply aw_condT rfl | apply aw_condF rfl | ((first | refine aw_hide fun K hK => aw_region ?_ | refine acall0 (w1) ?_ | refine acall0 (w2) ?_ | refine ago_if (by omega) ?_ | skip); simp (disch := first | exact okY | omega) only [ZU, Nat.reduceAdd, Nat.reduceMul, dI, AOpRun, aexec, Nat.reduceBEq, ↓eget_h, sl, isSh, ↓reduceIte, abin, ki, sa, opt1, gi, Int.le_refl, cast_lit, Int.reduceLT, Int.toNat_zero, List.drop, run1, dB, ARun_some, AG_ff, Int.reduceLE, Int.reduceToNat, k2, AG_tt, k1, fits, gj, q, blockQ]) | subst hK))
      (refine end_q [] [] ?_ ?_ <;> repeat' (first | exact trivial | exact vr_val _ | apply vr_tup | apply And.intro))
    · have q : decide (u ≤ w) = false := decide_eq_false huw
      rw [q] at hgd
      (repeat' (first | (with_reducible first | refine thenQ_n ?_ | refine blockQ_n ?_ | refine thenQ_e ?_ | refine blockQ_t ?_ | refine blockQ_f (by decide) ?_) | apply aw_seq | apply aw_skip | apply aw_exit | apply aw_ret | apply aw_block | apply aw_condT rfl | apply aw_condF rfl | ((first | refine aw_hide fun K hK => aw_region ?_ | refine acall0 (w1) ?_ | refine acall0 (w2) ?_ | refine ago_if (by omega) ?_ | skip); simp (disch := first | exact okY | omega) only [ZU, Nat.reduceAdd, Nat.reduceMul, dI, AOpRun, aexec, Nat.reduceBEq, ↓eget_h, sl, isSh, ↓reduceIte, abin, ki, sa, opt1, gi, Int.le_refl, cast_lit, Int.reduceLT, Int.toNat_zero, List.drop, run1, dB, ARun_some, AG_ff, Int.reduceLE, Int.reduceToNat, k2, AG_tt, k1, fits, gj, q]) | subst hK))
      refine ⟨j + 1 + 1, ⟨fin, hnext hgd⟩, fin2, ?_⟩
      refine wk_q [] [] ?_ ?_ <;> repeat' (first | exact trivial | exact vr_val _ | exact vr_list _ | apply And.intro)
end Go.Proofs.Ytdcodicoclecnaa
/- record: the check of a layout, walked. No conditions. -/
namespace Go.Proofs.Ytdcodicoclecnaa
open Go.RowKit Lift

set_option maxRecDepth 100000 in
set_option maxHeartbeats 8000000 in
theorem check_ac (l : Lay) (hl : LayIn l) : AC Try.prog 27 [layD l] [] [] (dI (layE l 120)) := by
  refine krecord_Check.ac (n0 := 0) (by simp) ⟨in_layD _ _, trivial⟩ trivial rfl ?_
  unfold crecord_Check layD layC
  have hmax : maxLen = 9223372036854775807 := rfl
  have hnf := hl.nf
  cases h1 : wI l.words 2 32 with
  | false =>
    have e : layE l 120 = 120 := layE_no fun h => by have := wI_f h1; have := h.w1; have := h.w2; omega
    rw [e]
    (repeat' (first | (with_reducible first | refine thenQ_n ?_ | refine blockQ_n ?_ | refine thenQ_e ?_ | refine blockQ_t ?_ | refine blockQ_f (by decide) ?_) | apply aw_seq | apply aw_skip | apply aw_exit | apply aw_ret | apply aw_block | apply aw_condT rfl | apply aw_condF rfl | ((first | refine aw_hide fun K hK => aw_region ?_ | refine acall0 (within_ac _ _ _) ?_ | refine ago_if (by omega) ?_ | skip); simp (disch := first | exact okY | omega) only [ZU, Nat.reduceAdd, Nat.reduceMul, dI, AOpRun, aexec, D.isBot, ↓eget_h, or_self, ↓reduceIte, D.cells, Nat.reduceBEq, run1, dB, h1, ARun_some, AG_tf]) | subst hK))
    all_goals (refine end_q [] [] ?_ ?_ <;> repeat' (first | exact trivial | exact vr_val _))
  | true =>
  have w1 := wI_t h1
  by_cases h2 : l.fl.length ≤ 16
  case neg =>
    have e : layE l 120 = 120 := layE_no fun h => h2 h.nf
    have q : decide ((l.fl.length : Int) > 16) = true := decide_eq_true (by omega)
    rw [e]
    (repeat' (first | (with_reducible first | refine thenQ_n ?_ | refine blockQ_n ?_ | refine thenQ_e ?_ | refine blockQ_t ?_ | refine blockQ_f (by decide) ?_) | apply aw_seq | apply aw_skip | apply aw_exit | apply aw_ret | apply aw_block | apply aw_condT rfl | apply aw_condF rfl | ((first | refine aw_hide fun K hK => aw_region ?_ | refine acall0 (within_ac _ _ _) ?_ | refine ago_if (by omega) ?_ | skip); simp (disch := first | exact okY | omega) only [ZU, Nat.reduceAdd, Nat.reduceMul, dI, AOpRun, aexec, D.isBot, ↓eget_h, or_self, ↓reduceIte, D.cells, Nat.reduceBEq, run1, dB, h1, ARun_some, AG_ff, fls_len, isSh, abin, q]) | subst hK))
    all_goals (refine end_q [] [] ?_ ?_ <;> repeat' (first | exact trivial | exact vr_val _))
  have q2 : decide ((l.fl.length : Int) > 16) = false := decide_eq_false (by omega)
  (repeat' (first | (with_reducible first | refine thenQ_n ?_ | refine blockQ_n ?_ | refine thenQ_e ?_ | refine blockQ_t ?_ | refine blockQ_f (by decide) ?_) | apply aw_seq | apply aw_skip | apply aw_exit | apply aw_ret | apply aw_block | apply aw_condT rfl | apply aw_condF rfl | ((first | refine aw_hide fun K hK => aw_region ?_ | refine acall0 (within_ac _ _ _) ?_ | refine ago_if (by omega) ?_ | skip); simp (disch := first | exact okY | omega) only [ZU, Nat.reduceAdd, Nat.reduceMul, dI, AOpRun, aexec, D.isBot, ↓eget_h, or_self, ↓reduceIte, D.cells, Nat.reduceBEq, run1, dB, h1, ARun_some, AG_ff, fls_len, isSh, abin, q2, Nat.reduceLeDiff, List.drop, List.take]) | subst hK))
  refine aw_loop (fun k : Nat => ⟨[(1, .ptr 0 0), (23, .agg [dI l.s0, dI l.s1, dI l.s2, dI l.s3]), (24, dI k)], [(0, layC l)], 100⟩) (fun k => k ≤ 4 ∧ SyncOk l k) (fun k => 4 - k) ⟨0, ⟨by omega, fun j hj => by omega⟩, ?_⟩ ?_
  · refine wk_q [] [(0, 0)] ?_ ?_ <;> repeat' (first | exact trivial | exact vr_val _ | exact vr_list _ | exact vr_ptr _ _ _ rfl | apply vr_agg | refine And.intro ⟨_, rfl, .inl ⟨_, rfl, by decide, ?_⟩⟩ ?_ | apply And.intro)
  rintro k ⟨hk, hin⟩
  by_cases hk4 : k < 4
  · have vw := sync_view l k (by omega) (H := hget [(0, layC l)]) rfl
    have hcn := contains_ac ((sync l).take k) ((sync l)[k]?.getD 0) (by simp [sync]; omega)
    have hno := sync_no l k hk4
    have hst := sync_step hk4 hin
    have mm : (0 ≤ idxI ((sync l).take k) ((sync l)[k]?.getD 0)) ↔ (sync l)[k]?.getD 0 ∈ (sync l).take k := idx_mem
    obtain ⟨x, hx⟩ : ∃ x, (sync l)[k]?.getD 0 = x := ⟨_, rfl⟩
    have gx : ([.val (.int .i64 l.s0), .val (.int .i64 l.s1), .val (.int .i64 l.s2), .val (.int .i64 l.s3)] : List D)[k]? = some (.val (.int .i64 x)) := by
      have : ([.val (.int .i64 l.s0), .val (.int .i64 l.s1), .val (.int .i64 l.s2), .val (.int .i64 l.s3)] : List D) = (sync l).map dI := rfl
      have hk' : k < (sync l).length := by simp [sync]; omega
      rw [this, ← hx]; simp [hk', dI]
    rw [hx] at hno hst hcn mm
    obtain ⟨c, hc⟩ : ∃ c, decide (0 ≤ idxI ((sync l).take k) x) = c := ⟨_, rfl⟩
    rw [hc] at hcn
    have ki : (k : Int) < 4 := by omega
    have ki4 : (k : Int) ≤ 4 := by omega
    have l6 : (layC l).length = 6 := rfl
    cases hw : wI x 0 4095 with
    | false =>
      have e : layE l 120 = 120 := layE_no (hno (.inl hw))
      rw [e]
      (repeat' (first | apply aw_seq | ((first | apply aw_skip | apply aw_exit); try simp only [thenQ, blockQ, if_true, if_false, Nat.reduceEqDiff, reduceCtorEq]) | apply aw_ret | apply aw_block | apply aw_condT rfl | apply aw_condF rfl | ((first | refine aw_region ?_ | refine acall0 (within_ac _ _ _) ?_ | refine ago_if (by omega) ?_ | skip); simp (disch := first | exact okY | omega) only [ZU, dI, Nat.mul_one, Nat.reduceAdd, AOpRun, aexec, Nat.reduceBEq, ↓eget_h, isSh, ↓reduceIte, abin, ki, Nat.reduceMul, D.isAgg, cast_lit, opt1, D.cells, gx, dB, hw, ARun_some, AG_tf, blockQ])))
      all_goals (refine end_q [] [] ?_ ?_ <;> repeat' (first | exact trivial | exact vr_val _))
    | true =>
      cases c with
      | true =>
        have e : layE l 120 = 120 := layE_no (hno (.inr (mm.1 (of_decide_eq_true hc))))
        rw [e]
        (repeat' (first | apply aw_seq | ((first | apply aw_skip | apply aw_exit); try simp only [thenQ, blockQ, if_true, if_false, Nat.reduceEqDiff, reduceCtorEq]) | apply aw_ret | apply aw_block | apply aw_condT rfl | apply aw_condF rfl | ((first | refine aw_region ?_ | refine acall0 (within_ac _ _ _) ?_ | refine acall (hcn) [0] ⟨vw, .refl _, trivial⟩ (.inr (.val _)) (by simp only [List.mem_cons, List.not_mem_nil, or_false, forall_eq_or_imp, forall_eq]; first | exact ⟨_, rfl⟩ | exact ⟨⟨_, rfl⟩, ⟨_, rfl⟩⟩) (by kernel_rfl) ?_ | refine ago_if (by omega) ?_ | skip); simp (disch := first | exact okY | omega) only [ZU, dI, Nat.mul_one, Nat.reduceAdd, AOpRun, aexec, Nat.reduceBEq, ↓eget_h, isSh, ↓reduceIte, abin, ki, Nat.reduceMul, D.isAgg, cast_lit, opt1, D.cells, gx, dB, hw, ARun_some, AG_ff, asI, Int.le_refl, ki4, l6, Nat.reduceLeDiff, true_or, Int.toNat_zero, Int.sub_zero, blockQ])))
        all_goals (refine end_q [] [] ?_ ?_ <;> repeat' (first | exact trivial | exact vr_val _))
      | false =>
        (repeat' (first | apply aw_seq | ((first | apply aw_skip | apply aw_exit); try simp only [thenQ, blockQ, if_true, if_false, Nat.reduceEqDiff, reduceCtorEq]) | apply aw_ret | apply aw_block | apply aw_condT rfl | apply aw_condF rfl | ((first | refine aw_region ?_ | refine acall0 (within_ac _ _ _) ?_ | refine acall (hcn) [0] ⟨vw, .refl _, trivial⟩ (.inr (.val _)) (by simp only [List.mem_cons, List.not_mem_nil, or_false, forall_eq_or_imp, forall_eq]; first | exact ⟨_, rfl⟩ | exact ⟨⟨_, rfl⟩, ⟨_, rfl⟩⟩) (by kernel_rfl) ?_ | refine ago_if (by omega) ?_ | skip); simp (disch := first | exact okY | omega) only [ZU, dI, Nat.mul_one, Nat.reduceAdd, AOpRun, aexec, Nat.reduceBEq, ↓eget_h, isSh, ↓reduceIte, abin, ki, Nat.reduceMul, D.isAgg, cast_lit, opt1, D.cells, gx, dB, hw, ARun_some, AG_ff, asI, Int.le_refl, ki4, l6, Nat.reduceLeDiff, true_or, Int.toNat_zero, Int.sub_zero, fits])))
        refine ⟨k + 1, ⟨by omega, hst hw fun h => of_decide_eq_false hc (mm.2 h)⟩, by omega, ?_⟩
        refine wk_q [] [(0, 0)] ?_ ?_ <;> repeat' (first | exact trivial | exact vr_val _ | exact vr_list _ | exact vr_ptr _ _ _ rfl | apply vr_agg | refine And.intro ⟨_, rfl, .inl ⟨_, rfl, by decide, ?_⟩⟩ ?_ | apply And.intro)
  obtain rfl : k = 4 := by omega
  have cF : ∀ k, k < l.fl.length → (fls l.fl)[k]? = some (flC (fAt l k)) := fun k h => fls_gd l.fl k h
  (repeat' (first | (with_reducible first | refine thenQ_n ?_ | refine blockQ_n ?_ | refine thenQ_e ?_ | refine blockQ_t ?_ | refine blockQ_f (by decide) ?_) | apply aw_seq | apply aw_skip | apply aw_exit | apply aw_ret | apply aw_block | apply aw_condT rfl | apply aw_condF rfl | ((first | refine aw_hide fun K hK => aw_region ?_ | refine ago_if (by omega) ?_ | skip); simp (disch := first | exact okY | omega) only [ZU, Nat.reduceMul, Nat.reduceAdd, dI, cast_lit, layC, AOpRun, aexec, Nat.reduceBEq, ↓eget_h, isSh, ↓reduceIte, abin, Int.reduceLT, decide_false, run1, fls_len]) | subst hK))
  refine aw_loop (fun k : Nat => ⟨[(1, .ptr 0 0), (40, .list (fls l.fl)), (41, dI l.fl.length), (42, dI k)], [(0, [dI l.words, dI l.s0, dI l.s1, dI l.s2, dI l.s3, .list (fls l.fl)])], 100⟩) (fun k => k ≤ l.fl.length ∧ ∀ j, j < k → FOk l.words (fAt l j)) (fun k => l.fl.length - k) ⟨0, ⟨by omega, fun j hj => by omega⟩, ?_⟩ ?_
  · refine wk_q [] [(0, 0)] ?_ ?_ <;> repeat' (first | exact trivial | exact vr_val _ | exact vr_list _ | exact vr_ptr _ _ _ rfl | refine And.intro ⟨_, rfl, .inl ⟨_, rfl, by decide, ?_⟩⟩ ?_ | apply And.intro)
  · rintro k ⟨hk, hfo⟩
    by_cases hk2 : k < l.fl.length
    · have g1 := cF k hk2
      have va := valid_ac l.words (fAt l k) w1 (hl.sz k hk2)
      cases hv : fokB l.words (fAt l k) with
      | false =>
        have e : layE l 120 = 120 := layE_no fun h => by
          have := fok_iff.2 (h.fo k hk2)
          rw [show l.fl[k]?.getD fl0 = fAt l k from rfl, hv] at this
          cases this
        rw [e]
        rw [hv] at va
        (have hg : (987654321 : Nat) - 987654321 = 0 := rfl; have hr := hg; repeat' (first | apply aw_seq | ((first | apply aw_skip | apply aw_exit); try simp only [thenQ, blockQ, if_true, if_false, Nat.reduceEqDiff, reduceCtorEq]) | apply aw_ret | apply aw_block | apply aw_condT rfl | apply aw_condF rfl | (refine aw_cond rfl (fun hg => ?_) (fun hg => ?_) <;> (try (have hq := hg; simp only [Bool.not_eq_true', Bool.not_eq_false', Bool.and_eq_true, Bool.and_eq_false_iff, Bool.or_eq_true, Bool.or_eq_false_iff, decide_eq_true_eq, decide_eq_false_iff_not, bne_iff_ne, beq_iff_eq, beq_eq_false_iff_ne, bne_eq_false_iff_eq, ne_eq, Int.not_lt, Int.not_le, Decidable.not_not] at hq)) <;> (try (have hr := hg; simp only [decide_eq_true_eq, decide_eq_false_iff_not] at hr)) <;> (try (exfalso; omega))) | ((first | refine aw_region ?_ | refine acall0 (va) ?_ | refine ago_if (by omega) ?_ | skip); simp (disch := first | exact okY | omega) only [ZU, dI, Nat.mul_one, Nat.reduceAdd, AOpRun, aexec, Nat.reduceBEq, ↓eget_h, isSh, ↓reduceIte, abin, Nat.reduceMul, hr, fls_all, opt1, g1, flC, dB, Nat.reduceLeDiff, List.take, ↓hget_h, D.isBot, D.cells, List.all, D.leaf, splice, List.drop, fillD, ne_eq, not_true_eq_false, Nat.reduceGT, or_self, run1, blockQ])))
        all_goals (refine end_q [] [] ?_ ?_ <;> repeat' (first | exact trivial | exact vr_val _))
      | true =>
        rw [hv] at va
        (have hg : (987654321 : Nat) - 987654321 = 0 := rfl; have hr := hg; repeat' (first | apply aw_seq | ((first | apply aw_skip | apply aw_exit); try simp only [thenQ, blockQ, if_true, if_false, Nat.reduceEqDiff, reduceCtorEq]) | apply aw_ret | apply aw_block | apply aw_condT rfl | apply aw_condF rfl | (refine aw_cond rfl (fun hg => ?_) (fun hg => ?_) <;> (try (have hq := hg; simp only [Bool.not_eq_true', Bool.not_eq_false', Bool.and_eq_true, Bool.and_eq_false_iff, Bool.or_eq_true, Bool.or_eq_false_iff, decide_eq_true_eq, decide_eq_false_iff_not, bne_iff_ne, beq_iff_eq, beq_eq_false_iff_ne, bne_eq_false_iff_eq, ne_eq, Int.not_lt, Int.not_le, Decidable.not_not] at hq)) <;> (try (have hr := hg; simp only [decide_eq_true_eq, decide_eq_false_iff_not] at hr)) <;> (try (exfalso; omega))) | ((first | refine aw_region ?_ | refine acall0 (va) ?_ | refine ago_if (by omega) ?_ | skip); simp (disch := first | exact okY | omega) only [ZU, dI, Nat.mul_one, Nat.reduceAdd, AOpRun, aexec, Nat.reduceBEq, ↓eget_h, isSh, ↓reduceIte, abin, Nat.reduceMul, hr, fls_all, opt1, g1, flC, dB, Nat.reduceLeDiff, List.take, ↓hget_h, D.isBot, D.cells, List.all, D.leaf, splice, List.drop, fillD, ne_eq, not_true_eq_false, Nat.reduceGT, or_self, run1, fits])))
        refine ⟨k + 1, ⟨by omega, fun j hj => ?_⟩, by omega, ?_⟩
        · rcases (by omega : j < k ∨ j = k) with h | rfl
          · exact hfo j h
          · exact fok_iff.1 hv
        · refine wk_q [] [(0, 0)] ?_ ?_ <;> repeat' (first | exact trivial | exact vr_val _ | exact vr_list _ | exact vr_ptr _ _ _ rfl | refine And.intro ⟨_, rfl, .inl ⟨_, rfl, by decide, ?_⟩⟩ ?_ | apply And.intro)
    · obtain rfl : k = l.fl.length := by omega
      have hF : ∀ j, j < l.fl.length → FOk l.words (fAt l j) := hfo
      (have hg : (987654321 : Nat) - 987654321 = 0 := rfl; have hr := hg; repeat' (first | (with_reducible first | refine thenQ_n ?_ | refine blockQ_n ?_ | refine thenQ_e ?_ | refine blockQ_t ?_ | refine blockQ_f (by decide) ?_) | apply aw_seq | apply aw_skip | apply aw_exit | apply aw_ret | apply aw_block | apply aw_condT rfl | apply aw_condF rfl | (refine aw_cond rfl (fun hg => ?_) (fun hg => ?_) <;> (try (have hq := hg; simp only [Bool.not_eq_true', Bool.not_eq_false', Bool.and_eq_true, Bool.and_eq_false_iff, Bool.or_eq_true, Bool.or_eq_false_iff, decide_eq_true_eq, decide_eq_false_iff_not, bne_iff_ne, beq_iff_eq, beq_eq_false_iff_ne, bne_eq_false_iff_eq, ne_eq, Int.not_lt, Int.not_le, Decidable.not_not] at hq)) <;> (try (have hr := hg; simp only [decide_eq_true_eq, decide_eq_false_iff_not] at hr)) <;> (try (exfalso; omega))) | ((first | refine aw_hide fun K hK => aw_region ?_ | refine ago_if (by omega) ?_ | skip); simp (disch := first | exact okY | omega) only [ZU, Nat.reduceMul, Nat.reduceAdd, dI, AOpRun, aexec, Nat.reduceBEq, ↓eget_h, isSh, ↓reduceIte, abin, hr, decide_false]) | subst hK))
      refine aw_loop (fun s : Nat => ⟨[(1, .ptr 0 0), (53, dI s)], [(0, [dI l.words, dI l.s0, dI l.s1, dI l.s2, dI l.s3, .list (fls l.fl)])], 100⟩) (fun s => s ≤ 4 ∧ ∀ t : Nat, t < s → UsdOk l t l.fl.length) (fun s => 4 - s) ⟨0, ⟨by omega, fun j hj => by omega⟩, ?_⟩ ?_
      · refine wk_q [] [(0, 0)] ?_ ?_ <;> repeat' (first | exact trivial | exact vr_val _ | exact vr_list _ | exact vr_ptr _ _ _ rfl | refine And.intro ⟨_, rfl, .inl ⟨_, rfl, by decide, ?_⟩⟩ ?_ | apply And.intro)
      rintro s ⟨hs, hus⟩
      by_cases hs4 : s < 4
      case neg =>
        obtain rfl : s = 4 := by omega
        have e : layE l 120 = 0 := layE_ok ⟨w1.1, w1.2, h2, fun k hk => (hin k hk).1, fun i hi k hk => (hin i hi).2 k hk, hF, fun i hi k hk s hs h3 h4 => hus s hs i hi k hk h3 h4⟩
        rw [e]
        (repeat' (first | (with_reducible first | refine thenQ_n ?_ | refine blockQ_n ?_ | refine thenQ_e ?_ | refine blockQ_t ?_ | refine blockQ_f (by decide) ?_) | apply aw_seq | apply aw_skip | apply aw_exit | apply aw_ret | apply aw_block | apply aw_condT rfl | apply aw_condF rfl | ((first | refine aw_hide fun K hK => aw_region ?_ | refine ago_if (by omega) ?_ | skip); simp (disch := first | exact okY | omega) only [ZU, Nat.reduceMul, Nat.reduceAdd, dI, cast_lit, AOpRun, aexec, Nat.reduceBEq, ↓eget_h, isSh, ↓reduceIte, abin, Int.reduceLT, decide_false]) | subst hK))
        all_goals (refine end_q [] [] ?_ ?_ <;> repeat' (first | exact trivial | exact vr_val _))
      have ki : (s : Int) < 4 := by omega
      have hrep : (List.replicate l.words.toNat [D.val (.int .i64 0)]).flatten = icells (usd s l 0) := by rw [rep_ic, usd_zero]
      (repeat' (first | (with_reducible first | refine thenQ_n ?_ | refine blockQ_n ?_ | refine thenQ_e ?_ | refine blockQ_t ?_ | refine blockQ_f (by decide) ?_) | apply aw_seq | apply aw_skip | apply aw_exit | apply aw_ret | apply aw_block | apply aw_condT rfl | apply aw_condF rfl | ((first | refine aw_hide fun K hK => aw_region ?_ | refine ago_if (by omega) ?_ | skip); simp (disch := first | exact okY | omega) only [ZU, Nat.reduceMul, Nat.reduceAdd, dI, AOpRun, aexec, Nat.reduceBEq, ↓eget_h, isSh, ↓reduceIte, abin, ki, run1, cast_lit, and_true, true_and, hrep, fls_len]) | subst hK))
      refine aw_loop (fun k : Nat => ⟨[(1, .ptr 0 0), (7, dI s), (8, .vec 200 l.words.toNat 1), (53, dI s), (60, .list (fls l.fl)), (61, dI l.fl.length), (62, dI k)], [(0, [dI l.words, dI l.s0, dI l.s1, dI l.s2, dI l.s3, .list (fls l.fl)]), (200, icells (usd s l k))], 300⟩) (fun k => k ≤ l.fl.length ∧ UsdOk l s k) (fun k => l.fl.length - k) ⟨0, ⟨by omega, fun i hi => by omega⟩, ?_⟩ ?_
      · refine wk_q [] [(0, 0), (200, 140)] ?_ ?_ <;> repeat' (first | exact trivial | exact vr_val _ | exact vr_list _ | exact vr_vec _ _ _ _ rfl | exact vr_ptr _ _ _ rfl | refine And.intro ⟨_, rfl, .inl ⟨_, rfl, by decide, ?_⟩⟩ ?_ | apply And.intro | exact vrl_flat _ (by first | exact icells_in _ | exact rcells_in _ | exact scells_in _ | exact bcells_in _ | assumption))
      rintro k ⟨hk, huk⟩
      by_cases hk2 : k < l.fl.length
      case neg =>
        obtain rfl : k = l.fl.length := by omega
        (have hg : (987654321 : Nat) - 987654321 = 0 := rfl; have hr := hg; repeat' (first | (with_reducible first | refine thenQ_n ?_ | refine blockQ_n ?_ | refine thenQ_e ?_ | refine blockQ_t ?_ | refine blockQ_f (by decide) ?_) | apply aw_seq | apply aw_skip | apply aw_exit | apply aw_ret | apply aw_block | apply aw_condT rfl | apply aw_condF rfl | (refine aw_cond rfl (fun hg => ?_) (fun hg => ?_) <;> (try (have hq := hg; simp only [Bool.not_eq_true', Bool.not_eq_false', Bool.and_eq_true, Bool.and_eq_false_iff, Bool.or_eq_true, Bool.or_eq_false_iff, decide_eq_true_eq, decide_eq_false_iff_not, bne_iff_ne, beq_iff_eq, beq_eq_false_iff_ne, bne_eq_false_iff_eq, ne_eq, Int.not_lt, Int.not_le, Decidable.not_not] at hq)) <;> (try (have hr := hg; simp only [decide_eq_true_eq, decide_eq_false_iff_not] at hr)) <;> (try (exfalso; omega))) | ((first | refine aw_hide fun K hK => aw_region ?_ | refine ago_if (by omega) ?_ | skip); simp (disch := first | exact okY | omega) only [ZU, Nat.reduceMul, Nat.reduceAdd, dI, AOpRun, aexec, Nat.reduceBEq, ↓eget_h, isSh, ↓reduceIte, abin, hr, decide_false, fits]) | subst hK))
        refine ⟨s + 1, ⟨by omega, fun t ht => ?_⟩, by omega, ?_⟩
        · rcases (by omega : t < s ∨ t = s) with h | rfl
          · exact hus t h
          · exact huk
        · refine wk_q [] [(0, 0)] ?_ ?_ <;> repeat' (first | exact trivial | exact vr_val _ | exact vr_list _ | exact vr_ptr _ _ _ rfl | refine And.intro ⟨_, rfl, .inl ⟨_, rfl, by decide, ?_⟩⟩ ?_ | apply And.intro)
      have g1 := cF k hk2
      have hf := hF k hk2
      have iac := in_sub_ac hf s
      by_cases hi : inSub (fAt l k) s
      case neg =>
        rw [inB_f hi] at iac
        have eu := usd_no s l k hi
        (have hg : (987654321 : Nat) - 987654321 = 0 := rfl; have hr := hg; repeat' (first | (with_reducible first | refine thenQ_n ?_ | refine blockQ_n ?_ | refine thenQ_e ?_ | refine blockQ_t ?_ | refine blockQ_f (by decide) ?_) | apply aw_seq | apply aw_skip | apply aw_exit | apply aw_ret | apply aw_block | apply aw_condT rfl | apply aw_condF rfl | (refine aw_cond rfl (fun hg => ?_) (fun hg => ?_) <;> (try (have hq := hg; simp only [Bool.not_eq_true', Bool.not_eq_false', Bool.and_eq_true, Bool.and_eq_false_iff, Bool.or_eq_true, Bool.or_eq_false_iff, decide_eq_true_eq, decide_eq_false_iff_not, bne_iff_ne, beq_iff_eq, beq_eq_false_iff_ne, bne_eq_false_iff_eq, ne_eq, Int.not_lt, Int.not_le, Decidable.not_not] at hq)) <;> (try (have hr := hg; simp only [decide_eq_true_eq, decide_eq_false_iff_not] at hr)) <;> (try (exfalso; omega))) | ((first | refine aw_hide fun K hK => aw_region ?_ | refine acall0 (iac) ?_ | refine ago_if (by omega) ?_ | skip); simp (disch := first | exact okY | omega) only [ZU, Nat.mul_one, Nat.reduceAdd, dI, AOpRun, aexec, Nat.reduceBEq, ↓eget_h, isSh, ↓reduceIte, abin, Nat.reduceMul, hr, fls_all, opt1, g1, flC, dB, Nat.reduceLeDiff, List.take, ↓hget_h, D.isBot, D.cells, List.all, D.leaf, splice, List.drop, fillD, ne_eq, not_true_eq_false, Nat.reduceGT, or_self, fits]) | subst hK))
        refine ⟨k + 1, ⟨by omega, fun i hik j hj h3 h4 => ?_⟩, by omega, ?_⟩
        · rcases (by omega : i < k ∨ i = k) with h | rfl
          · exact huk i h j hj h3 h4
          · exact absurd h3 hi
        · rw [eu]
          refine wk_q [] [(0, 0), (200, 200)] ?_ ?_ <;> repeat' (first | exact trivial | exact vr_val _ | exact vr_list _ | exact vr_vec _ _ _ _ rfl | exact vr_ptr _ _ _ rfl | refine And.intro ⟨_, rfl, .inl ⟨_, rfl, by decide, ?_⟩⟩ ?_ | apply And.intro | exact vrl_flat _ (by first | exact icells_in _ | exact rcells_in _ | exact scells_in _ | exact bcells_in _ | assumption))
      rw [inB_t hi] at iac
      have mac := mask_ac hf
      have hw0 : 0 ≤ (fAt l k).word := by have := hf.w1; omega
      have hw1 : (fAt l k).word < (l.words.toNat : Int) := by have := hf.w2; omega
      have hwn : (fAt l k).word.toNat < l.words.toNat := by omega
      have hwi : (((fAt l k).word.toNat : Nat) : Int) = (fAt l k).word := by omega
      have lu := usd_len s l k
      have gu := ic_gd (usd s l k) (fAt l k).word.toNat (by omega)
      rw [usd_get s l k _ hwn, hwi] at gu
      have ts := ic_t (usd s l k) (fAt l k).word.toNat ((orM s l (fAt l k).word k ||| mskF (fAt l k) : Nat) : Int) (by omega)
      rw [← usd_in s l k hi hw0] at ts
      have ol := orM_lt s l (fAt l k).word hF k (by omega)
      have ml := mskF_lt hf
      have an := and_nat (orM s l (fAt l k).word k) (mskF (fAt l k)) (by omega) (by omega)
      have on := or_nat (orM s l (fAt l k).word k) (mskF (fAt l k)) (by omega) (by omega)
      have cf := orM_conf (s := s) hF hk2
      by_cases hz : orM s l (fAt l k).word k &&& mskF (fAt l k) = 0
      case neg =>
        have q : ((((orM s l (fAt l k).word k &&& mskF (fAt l k) : Nat) : Int)) != 0) = true := by simp only [bne_iff_ne]; omega
        have e : layE l 120 = 120 := layE_no fun h => hz (cf.2 fun j hj h4 => h.ov k hk2 j hj s hs4 hi h4)
        rw [e]
        (have hg : (987654321 : Nat) - 987654321 = 0 := rfl; have hr := hg; repeat' (first | (with_reducible first | refine thenQ_n ?_ | refine blockQ_n ?_ | refine thenQ_e ?_ | refine blockQ_t ?_ | refine blockQ_f (by decide) ?_) | apply aw_seq | apply aw_skip | apply aw_exit | apply aw_ret | apply aw_block | apply aw_condT rfl | apply aw_condF rfl | (refine aw_cond rfl (fun hg => ?_) (fun hg => ?_) <;> (try (have hq := hg; simp only [Bool.not_eq_true', Bool.not_eq_false', Bool.and_eq_true, Bool.and_eq_false_iff, Bool.or_eq_true, Bool.or_eq_false_iff, decide_eq_true_eq, decide_eq_false_iff_not, bne_iff_ne, beq_iff_eq, beq_eq_false_iff_ne, bne_eq_false_iff_eq, ne_eq, Int.not_lt, Int.not_le, Decidable.not_not] at hq)) <;> (try (have hr := hg; simp only [decide_eq_true_eq, decide_eq_false_iff_not] at hr)) <;> (try (exfalso; omega))) | ((first | refine aw_hide fun K hK => aw_region ?_ | refine acall0 (iac) ?_ | refine acall0 (mac) ?_ | refine ago_if (by omega) ?_ | skip); simp (disch := first | exact okY | omega) only [ZU, Nat.mul_one, Nat.reduceAdd, dI, AOpRun, aexec, Nat.reduceBEq, ↓eget_h, isSh, ↓reduceIte, abin, Nat.reduceMul, hr, fls_all, opt1, g1, flC, dB, Nat.reduceLeDiff, List.take, ↓hget_h, D.isBot, D.cells, List.all, D.leaf, splice, List.drop, fillD, ne_eq, not_true_eq_false, Nat.reduceGT, or_self, Nat.add_zero, run1, hw0, hw1, gu, an, q, blockQ]) | subst hK))
        all_goals (refine end_q [] [] ?_ ?_ <;> repeat' (first | exact trivial | exact vr_val _))
      have q : ((((orM s l (fAt l k).word k &&& mskF (fAt l k) : Nat) : Int)) != 0) = false := by rw [hz]; rfl
      have lc : (fAt l k).word.toNat + 1 ≤ (icells (usd s l k)).length := by rw [icells_len, lu]; omega
      (have hg : (987654321 : Nat) - 987654321 = 0 := rfl; have hr := hg; repeat' (first | (with_reducible first | refine thenQ_n ?_ | refine blockQ_n ?_ | refine thenQ_e ?_ | refine blockQ_t ?_ | refine blockQ_f (by decide) ?_) | apply aw_seq | apply aw_skip | apply aw_exit | apply aw_ret | apply aw_block | apply aw_condT rfl | apply aw_condF rfl | (refine aw_cond rfl (fun hg => ?_) (fun hg => ?_) <;> (try (have hq := hg; simp only [Bool.not_eq_true', Bool.not_eq_false', Bool.and_eq_true, Bool.and_eq_false_iff, Bool.or_eq_true, Bool.or_eq_false_iff, decide_eq_true_eq, decide_eq_false_iff_not, bne_iff_ne, beq_iff_eq, beq_eq_false_iff_ne, bne_eq_false_iff_eq, ne_eq, Int.not_lt, Int.not_le, Decidable.not_not] at hq)) <;> (try (have hr := hg; simp only [decide_eq_true_eq, decide_eq_false_iff_not] at hr)) <;> (try (exfalso; omega))) | ((first | refine aw_hide fun K hK => aw_region ?_ | refine acall0 (iac) ?_ | refine acall0 (mac) ?_ | refine ago_if (by omega) ?_ | skip); simp (disch := first | exact okY | omega) only [ZU, Nat.mul_one, Nat.reduceAdd, dI, AOpRun, aexec, Nat.reduceBEq, ↓eget_h, isSh, ↓reduceIte, abin, Nat.reduceMul, hr, fls_all, opt1, g1, flC, dB, Nat.reduceLeDiff, List.take, ↓hget_h, D.isBot, D.cells, List.all, D.leaf, splice, List.drop, fillD, ne_eq, not_true_eq_false, Nat.reduceGT, or_self, Nat.add_zero, run1, hw0, hw1, gu, an, q, on, lc, ts, fits]) | subst hK))
      refine ⟨k + 1, ⟨by omega, fun i hik j hj h3 h4 => ?_⟩, by omega, ?_⟩
      · rcases (by omega : i < k ∨ i = k) with h | rfl
        · exact huk i h j hj h3 h4
        · exact cf.1 hz j hj h4
      · refine wk_q [] [(0, 0), (200, 200)] ?_ ?_ <;> repeat' (first | exact trivial | exact vr_val _ | exact vr_list _ | exact vr_vec _ _ _ _ rfl | exact vr_ptr _ _ _ rfl | refine And.intro ⟨_, rfl, .inl ⟨_, rfl, by decide, ?_⟩⟩ ?_ | apply And.intro | exact vrl_flat _ (by first | exact icells_in _ | exact rcells_in _ | exact scells_in _ | exact bcells_in _ | assumption))
end Go.Proofs.Ytdcodicoclecnaa
/- The functions' bodies, translated. Written by a program; no conditions. -/
namespace Go.Proofs.Ytdcodicoclecnaa
open Go.RowKit Lift

def crecord_newTape : ACode :=
 (.seq
 (.region false [⟨some 2, .box (.tmp 0), none, []⟩,
 ⟨some 4, .mv (.const (.pointer none)), none, []⟩,
 ⟨some 5, .mv (.const (.int .i64 0)), none, []⟩] [])
 (.seq
 (.seq
 (.region false [⟨some 12, .loadN 6 (.tmp 2), none, []⟩,
 ⟨some 13, .call (.func 27) [(.tmp 12)], none, []⟩,
 ⟨some 6, .mv (.tmp 13), none, []⟩] [12, 13])
 (.seq
 (.region false [⟨some 14, .mv (.tmp 6), none, []⟩,
 ⟨some 15, .bin .neq (.tmp 14) (.const (.int .i64 0)), none, []⟩] [14])
 (.cond (.tmp 15)
 (.seq
 (.region false [⟨some 16, .mv (.tmp 6), none, []⟩,
 ⟨some 4, .mv (.const (.pointer none)), none, []⟩,
 ⟨some 5, .mv (.tmp 16), none, []⟩] [16])
 .ret)
 .skip)))
 (.seq
 (.seq
 (.region false [⟨some 17, .mv (.tmp 1), none, []⟩,
 ⟨some 18, .len_ (.tmp 17), none, []⟩,
 ⟨some 19, .bin .gtr (.tmp 18) (.const (.int .i64 200)), none, []⟩] [17, 18])
 (.cond (.tmp 19)
 (.seq
 (.region false [⟨some 4, .mv (.const (.pointer none)), none, []⟩,
 ⟨some 5, .mv (.const (.int .i64 2)), none, []⟩] [])
 .ret)
 .skip))
 (.seq
 (.region false [⟨some 20, .loadN 6 (.tmp 2), none, []⟩,
 ⟨some 21, .mv (.tmp 1), none, []⟩,
 ⟨some 22, .build [(.val (.int .i64 0)), (.val (.int .i64 0)), (.val (.int .i64 0)), (.val (.int .i64 0)), (.val (.int .i64 0)), (.val (.slice none 0 0)), (.val (.slice none 0 0)), (.val (.slice none 0 0))] [(0, 6, (.tmp 20)), (6, 1, (.tmp 21))], none, []⟩,
 ⟨some 23, .box (.tmp 22), none, []⟩,
 ⟨some 7, .mv (.tmp 23), none, []⟩] [20, 21, 22, 23])
 (.seq
 (.region false [⟨some 8, .mv (.func 116), none, []⟩] [])
 (.seq
 (.seq
 (.region false [⟨some 24, .mv (.tmp 1), none, []⟩,
 ⟨some 25, .len_ (.tmp 24), none, []⟩,
 ⟨some 26, .mv (.const (.int .i64 0)), none, []⟩] [])
 (.block 0
 (.loop
 (.seq
 (.region false [⟨some 27, .bin .lss (.tmp 26) (.tmp 25), none, []⟩] [])
 (.seq
 (.cond (.tmp 27)
 .skip
 (.exit 0))
 (.seq
 (.block 1
 (.seq
 (.region false [⟨some 28, .iadS 1 (.tmp 24) (.tmp 26), none, []⟩,
 ⟨some 29, .load1 (.tmp 28), none, []⟩,
 ⟨some 10, .mv (.tmp 29), none, []⟩] [28, 29])
 (.seq
 (.region false [⟨some 11, .mv (.const (.int .i64 (-1))), none, []⟩] [])
 (.seq
 (.seq
 (.region false [⟨some 30, .mv (.tmp 10), none, []⟩,
 ⟨some 31, .len_ (.tmp 30), none, []⟩,
 ⟨some 32, .fad 0 (.tmp 2), none, []⟩,
 ⟨some 33, .load1 (.tmp 32), none, []⟩,
 ⟨some 34, .bin .eql (.tmp 31) (.tmp 33), none, []⟩,
 ⟨some 35, .mv (.tmp 34), none, []⟩,
 ⟨some 36, .mv (.tmp 10), (some (some 35, true)), []⟩,
 ⟨some 37, .mv (.tmp 8), (some (some 35, true)), []⟩,
 ⟨some 38, .call (.func 110) [(.tmp 36), (.tmp 37)], (some (some 35, true)), []⟩,
 ⟨some 39, .un .not (.tmp 38), (some (some 35, true)), []⟩,
 ⟨some 40, .pick (.tmp 35) (.tmp 39) (.const (.bool false)), none, []⟩] [30, 31, 32, 33, 34, 35, 36, 37, 38, 39])
 (.cond (.tmp 40)
 (.region true [⟨some 41, .fad 1 (.tmp 2), none, []⟩,
 ⟨some 42, .slA 4 1 (.tmp 41) none none, none, [0]⟩,
 ⟨some 43, .mv (.tmp 10), none, []⟩,
 ⟨some 44, .iadS 1 (.tmp 43) (.const (.int .i64 0)), none, [2]⟩,
 ⟨some 45, .load1 (.tmp 44), none, [3, 2]⟩,
 ⟨some 46, .call (.func 117) [(.tmp 42), (.tmp 45)], none, [1, 0, 4, 3, 2]⟩,
 ⟨some 11, .mv (.tmp 46), none, [5, 1, 0, 4, 3, 2]⟩] [41, 42, 43, 44, 45, 46])
 .skip))
 (.region false [⟨some 47, .mv (.tmp 7), none, []⟩,
 ⟨some 48, .mv (.tmp 7), none, []⟩,
 ⟨some 49, .nilc (.tmp 48), none, []⟩,
 ⟨some 50, .fad 7 (.tmp 49), none, []⟩,
 ⟨some 51, .load1 (.tmp 50), none, []⟩,
 ⟨some 52, .mv (.tmp 11), none, []⟩,
 ⟨some 53, .buildSl 1 1 [(.val (.int .i64 0))] [(0, 1, (.tmp 52))], none, []⟩,
 ⟨some 54, .app 1 8 (.tmp 51) (.tmp 53), none, []⟩,
 ⟨some 55, .nilc (.tmp 47), none, []⟩,
 ⟨some 56, .fad 7 (.tmp 55), none, []⟩,
 ⟨none, .store 1 (.tmp 56) (.tmp 54), none, []⟩] [47, 48, 49, 50, 51, 52, 53, 54, 55, 56])))))
 (.region false [⟨some 57, .bin .add (.tmp 26) (.const (.int .i64 1)), none, []⟩,
 ⟨some 26, .mv (.tmp 57), none, []⟩] [57])))))))
 (.seq
 (.region false [⟨some 58, .mv (.tmp 7), none, []⟩,
 ⟨some 4, .mv (.tmp 58), none, []⟩,
 ⟨some 5, .mv (.const (.int .i64 0)), none, []⟩] [58])
 .ret)))))))
set_option maxRecDepth 100000 in
theorem krecord_newTape : IsCode Try.prog 71 59 crecord_newTape [.tmp 4, .tmp 5] :=
 ⟨Try.f71, _, [40, 27, 19, 15, 0, 2, 6, 1, 26, 25, 24, 10, 8, 7, 11, 4, 5], Try.func71, rfl, by decide, rfl, by kernel_rfl, by kernel_rfl⟩
def cprecord_tape_good : ACode :=
 (.seq
 (.region false [⟨some 6, .mv (.tmp 0), none, []⟩,
 ⟨some 7, .nilc (.tmp 6), none, []⟩,
 ⟨some 8, .fad 7 (.tmp 7), none, []⟩,
 ⟨some 9, .load1 (.tmp 8), none, []⟩,
 ⟨some 10, .len_ (.tmp 9), none, []⟩,
 ⟨some 11, .mv (.const (.int .i64 0)), none, []⟩] [6, 7, 8])
 (.block 0
 (.loop
 (.seq
 (.region false [⟨some 12, .bin .lss (.tmp 11) (.tmp 10), none, []⟩] [])
 (.seq
 (.cond (.tmp 12)
 .skip
 (.exit 0))
 (.seq
 (.block 1
 (.seq
 (.region false [⟨some 13, .mv (.tmp 11), none, []⟩,
 ⟨some 14, .iadS 1 (.tmp 9) (.tmp 11), none, []⟩,
 ⟨some 15, .load1 (.tmp 14), none, []⟩,
 ⟨some 4, .mv (.tmp 13), none, []⟩,
 ⟨some 5, .mv (.tmp 15), none, []⟩] [13, 14, 15])
 (.seq
 (.region false [⟨some 16, .mv (.tmp 5), none, []⟩,
 ⟨some 17, .bin .geq (.tmp 16) (.const (.int .i64 0)), none, []⟩,
 ⟨some 18, .mv (.tmp 17), none, []⟩,
 ⟨some 19, .mv (.tmp 1), (some (some 18, true)), []⟩,
 ⟨some 20, .mv (.tmp 4), (some (some 18, true)), []⟩,
 ⟨some 21, .mv (.tmp 5), (some (some 18, true)), []⟩,
 ⟨some 22, .call (.tmp 19) [(.tmp 20), (.tmp 21)], (some (some 18, true)), []⟩,
 ⟨some 23, .un .not (.tmp 22), (some (some 18, true)), []⟩,
 ⟨some 24, .pick (.tmp 18) (.tmp 23) (.const (.bool false)), none, []⟩] [16, 17, 18, 19, 20, 21, 22, 23])
 (.cond (.tmp 24)
 .ret
 .skip))))
 (.region false [⟨some 25, .bin .add (.tmp 11) (.const (.int .i64 1)), none, []⟩,
 ⟨some 11, .mv (.tmp 25), none, []⟩] [25])))))))
set_option maxRecDepth 100000 in
theorem kprecord_tape_good : IsCode Try.prog 72 26 cprecord_tape_good [] :=
 ⟨Try.f72, _, [24, 12, 0, 11, 10, 9, 5, 1, 4], Try.func72, rfl, by decide, rfl, by kernel_rfl, by kernel_rfl⟩
def cprecord_tape_samples : ACode :=
 (.seq
 (.region false [⟨some 2, .box (.tmp 0), none, []⟩,
 ⟨some 4, .mv (.const (.nilFunc)), none, []⟩] [])
 (.seq
 (.region false [⟨some 6, .load1 (.tmp 2), none, []⟩,
 ⟨some 7, .nilc (.tmp 6), none, []⟩,
 ⟨some 8, .fad 0 (.tmp 7), none, []⟩,
 ⟨some 9, .fad 5 (.tmp 8), none, []⟩,
 ⟨some 10, .load1 (.tmp 9), none, []⟩,
 ⟨some 11, .mv (.tmp 1), none, []⟩,
 ⟨some 12, .iadS 9 (.tmp 10) (.tmp 11), none, []⟩,
 ⟨some 13, .loadN 9 (.tmp 12), none, []⟩,
 ⟨some 14, .build [(.val (.int .i64 0)), (.val (.int .i64 0)), (.val (.int .i64 0)), (.val (.bool false)), (.val (.int .i64 0)), (.val (.int .i64 0)), (.val (.int .i64 0)), (.val (.int .i64 0)), (.val (.int .i64 0))] [(0, 9, (.tmp 13))], none, []⟩,
 ⟨some 5, .mem [(.val (.int .i64 0)), (.val (.int .i64 0)), (.val (.int .i64 0)), (.val (.bool false)), (.val (.int .i64 0)), (.val (.int .i64 0)), (.val (.int .i64 0)), (.val (.int .i64 0)), (.val (.int .i64 0))], none, []⟩,
 ⟨none, .store 9 (.tmp 5) (.tmp 14), none, []⟩] [6, 7, 8, 9, 10, 11, 12, 13, 14])
 (.seq
 (.region false [⟨some 15, .mkfn 113 [] [(.tmp 2), (.tmp 5)], none, []⟩,
 ⟨some 4, .mv (.tmp 15), none, []⟩] [15])
 .ret)))
set_option maxRecDepth 100000 in
theorem kprecord_tape_samples : IsCode Try.prog 67 16 cprecord_tape_samples [.tmp 4] :=
 ⟨Try.f67, _, [0, 2, 1, 5, 4], Try.func67, rfl, by decide, rfl, by kernel_rfl, by kernel_rfl⟩
def cprecord_tape_samples_S1_B8 : ACode :=
 (.block 1
 (.seq
 (.region true [⟨some 10, .loadN 9 (.tmp 2), none, []⟩,
 ⟨some 11, .mv (.tmp 5), none, []⟩,
 ⟨some 12, .call (.func 77) [(.tmp 10), (.tmp 11)], none, [0, 1]⟩,
 ⟨some 13, .mv (.tmp 12), none, [2, 0, 1]⟩,
 ⟨some 14, .load1 (.tmp 3), (some (some 13, true)), [3, 2, 0, 1]⟩,
 ⟨some 15, .mv (.tmp 4), (some (some 13, true)), [3, 2, 0, 1]⟩,
 ⟨some 16, .loadN 9 (.tmp 2), (some (some 13, true)), [3, 2, 0, 1]⟩,
 ⟨some 17, .loadN 9 (.tmp 2), (some (some 13, true)), [3, 2, 0, 1]⟩,
 ⟨some 18, .load1 (.tmp 1), (some (some 13, true)), [3, 2, 0, 1]⟩,
 ⟨some 19, .nilc (.tmp 18), (some (some 13, true)), [8, 3, 2, 0, 1]⟩,
 ⟨some 20, .fad 6 (.tmp 19), (some (some 13, true)), [9, 8, 3, 2, 0, 1]⟩,
 ⟨some 21, .load1 (.tmp 20), (some (some 13, true)), [10, 9, 8, 3, 2, 0, 1]⟩,
 ⟨some 22, .mv (.tmp 4), (some (some 13, true)), [3, 2, 0, 1]⟩,
 ⟨some 23, .iadS 1 (.tmp 21) (.tmp 22), (some (some 13, true)), [11, 10, 9, 8, 3, 2, 0, 1, 12]⟩,
 ⟨some 24, .load1 (.tmp 23), (some (some 13, true)), [13, 11, 10, 9, 8, 3, 2, 0, 1, 12]⟩,
 ⟨some 25, .fad 0 (.tmp 2), (some (some 13, true)), [3, 2, 0, 1]⟩,
 ⟨some 26, .fad 0 (.tmp 25), (some (some 13, true)), [15, 3, 2, 0, 1]⟩,
 ⟨some 27, .load1 (.tmp 26), (some (some 13, true)), [16, 15, 3, 2, 0, 1]⟩,
 ⟨some 28, .iadS 1 (.tmp 24) (.tmp 27), (some (some 13, true)), [14, 13, 11, 10, 9, 8, 3, 2, 0, 1, 12, 17, 16, 15]⟩,
 ⟨some 29, .load1 (.tmp 28), (some (some 13, true)), [18, 14, 13, 11, 10, 9, 8, 3, 2, 0, 1, 12, 17, 16, 15]⟩,
 ⟨some 30, .call (.func 115) [(.tmp 17), (.tmp 29)], (some (some 13, true)), [7, 3, 2, 0, 1, 19, 18, 14, 13, 11, 10, 9, 8, 12, 17, 16, 15]⟩,
 ⟨some 31, .call (.func 114) [(.tmp 16), (.tmp 30)], (some (some 13, true)), [6, 3, 2, 0, 1, 20, 7, 19, 18, 14, 13, 11, 10, 9, 8, 12, 17, 16, 15]⟩,
 ⟨some 32, .call (.tmp 14) [(.tmp 15), (.tmp 31)], (some (some 13, true)), [4, 3, 2, 0, 1, 5, 21, 6, 20, 7, 19, 18, 14, 13, 11, 10, 9, 8, 12, 17, 16, 15]⟩,
 ⟨some 33, .un .not (.tmp 32), (some (some 13, true)), [22, 4, 3, 2, 0, 1, 5, 21, 6, 20, 7, 19, 18, 14, 13, 11, 10, 9, 8, 12, 17, 16, 15]⟩,
 ⟨some 34, .pick (.tmp 13) (.tmp 33) (.const (.bool false)), none, [3, 2, 0, 1, 23, 22, 4, 5, 21, 6, 20, 7, 19, 18, 14, 13, 11, 10, 9, 8, 12, 17, 16, 15]⟩] [10, 11, 12, 13, 14, 15, 16, 17, 18, 19, 20, 21, 22, 23, 24, 25, 26, 27, 28, 29, 30, 31, 32, 33])
 (.cond (.tmp 34)
 .ret
 .skip)))
def cprecord_tape_samples_S1 : ACode :=
 (.seq
 (.region false [⟨some 3, .box (.tmp 0), none, []⟩] [])
 (.seq
 (.region false [⟨some 6, .load1 (.tmp 1), none, []⟩,
 ⟨some 7, .mkfn 72 [(.tmp 6)] [], none, []⟩] [6])
 (.block 0
 (.rangeFunc (.tmp 7) [8, 9] [(4, 8), (5, 9)] cprecord_tape_samples_S1_B8))))
set_option maxRecDepth 100000 in
theorem kprecord_tape_samples_S1 : IsCode Try.prog 113 35 cprecord_tape_samples_S1 [] :=
 ⟨Try.f113, _, [34, 8, 9, 7, 0, 1, 2, 5, 3, 4], Try.func113, rfl, by decide, rfl, by kernel_rfl, by kernel_rfl⟩
def cprecord_tape_has : ACode :=
 (.seq
 (.region false [⟨some 4, .mv (.const (.bool false)), none, []⟩] [])
 (.seq
 (.region false [⟨some 5, .mv (.tmp 1), none, []⟩,
 ⟨some 6, .mv (.tmp 0), none, []⟩,
 ⟨some 7, .nilc (.tmp 6), none, []⟩,
 ⟨some 8, .fad 0 (.tmp 7), none, []⟩,
 ⟨some 9, .fad 5 (.tmp 8), none, []⟩,
 ⟨some 10, .load1 (.tmp 9), none, []⟩,
 ⟨some 11, .len_ (.tmp 10), none, []⟩,
 ⟨some 12, .bin .sub (.tmp 11) (.const (.int .i64 1)), none, []⟩,
 ⟨some 13, .call (.func 74) [(.tmp 5), (.const (.int .i64 0)), (.tmp 12)], none, []⟩,
 ⟨some 4, .mv (.tmp 13), none, []⟩] [5, 6, 7, 8, 9, 10, 11, 12, 13])
 .ret))
set_option maxRecDepth 100000 in
theorem kprecord_tape_has : IsCode Try.prog 112 14 cprecord_tape_has [.tmp 4] :=
 ⟨Try.f112, _, [1, 0, 4], Try.func112, rfl, by decide, rfl, by kernel_rfl, by kernel_rfl⟩
def crecord_withField : ACode :=
 (.seq
 (.region false [⟨some 3, .box (.tmp 0), none, []⟩,
 ⟨some 6, .mv (.const (.pointer none)), none, []⟩,
 ⟨some 7, .mv (.const (.int .i64 0)), none, []⟩] [])
 (.seq
 (.region false [⟨some 11, .loadN 6 (.tmp 3), none, []⟩,
 ⟨some 12, .mv (.tmp 1), none, []⟩,
 ⟨some 13, .call (.func 71) [(.tmp 11), (.tmp 12)], none, []⟩,
 ⟨some 10, .mv (.tmp 13), none, []⟩,
 ⟨some 14, .ext (.tmp 10) 0, none, []⟩,
 ⟨some 15, .ext (.tmp 10) 1, none, []⟩,
 ⟨some 8, .mem [(.val (.pointer none))], none, []⟩,
 ⟨none, .store 1 (.tmp 8) (.tmp 14), none, []⟩,
 ⟨some 9, .mv (.tmp 15), none, []⟩] [11, 12, 13, 10, 14, 15])
 (.seq
 (.seq
 (.region false [⟨some 16, .mv (.tmp 9), none, []⟩,
 ⟨some 17, .bin .neq (.tmp 16) (.const (.int .i64 0)), none, []⟩] [16])
 (.cond (.tmp 17)
 (.seq
 (.region false [⟨some 18, .mv (.tmp 9), none, []⟩,
 ⟨some 6, .mv (.const (.pointer none)), none, []⟩,
 ⟨some 7, .mv (.tmp 18), none, []⟩] [18])
 .ret)
 .skip))
 (.seq
 (.seq
 (.region false [⟨some 19, .mv (.tmp 2), none, []⟩,
 ⟨some 20, .mkfn 111 [] [(.tmp 8)], none, []⟩,
 ⟨some 21, .call (.func 110) [(.tmp 19), (.tmp 20)], none, []⟩] [19, 20])
 (.cond (.tmp 21)
 (.seq
 (.region false [⟨some 6, .mv (.const (.pointer none)), none, []⟩,
 ⟨some 7, .mv (.const (.int .i64 1)), none, []⟩] [])
 .ret)
 .skip))
 (.seq
 (.region false [⟨some 22, .load1 (.tmp 8), none, []⟩,
 ⟨some 6, .mv (.tmp 22), none, []⟩,
 ⟨some 7, .mv (.const (.int .i64 0)), none, []⟩] [22])
 .ret)))))
set_option maxRecDepth 100000 in
theorem krecord_withField : IsCode Try.prog 66 23 crecord_withField [.tmp 6, .tmp 7] :=
 ⟨Try.f66, _, [21, 17, 0, 3, 1, 9, 2, 8, 6, 7], Try.func66, rfl, by decide, rfl, by kernel_rfl, by kernel_rfl⟩
def crecord_withField_S1 : ACode :=
 (.seq
 (.region false [⟨some 3, .mv (.const (.bool false)), none, []⟩] [])
 (.seq
 (.region false [⟨some 4, .load1 (.tmp 1), none, []⟩,
 ⟨some 5, .mv (.tmp 0), none, []⟩,
 ⟨some 6, .call (.func 112) [(.tmp 4), (.tmp 5)], none, []⟩,
 ⟨some 7, .un .not (.tmp 6), none, []⟩,
 ⟨some 3, .mv (.tmp 7), none, []⟩] [4, 5, 6, 7])
 .ret))
set_option maxRecDepth 100000 in
theorem krecord_withField_S1 : IsCode Try.prog 111 8 crecord_withField_S1 [.tmp 3] :=
 ⟨Try.f111, _, [1, 0, 3], Try.func111, rfl, by decide, rfl, by kernel_rfl, by kernel_rfl⟩
end Go.Proofs.Ytdcodicoclecnaa
