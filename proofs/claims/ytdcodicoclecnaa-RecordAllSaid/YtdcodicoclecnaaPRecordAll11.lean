/- Texts of the law RecordAll, part 11. No conditions. -/
import Derived.Test.YtdcodicoclecnaaPRecordAll10
import Derived.Test.YtdcodicoclecnaaRows
set_option linter.unusedSimpArgs false
set_option linter.unusedVariables false
/- ref: all events, sorted in one by one (views last). No conditions. -/
namespace Go.Proofs.Ytdcodicoclecnaa
open Go Go.RowKit Lift

theorem fcells_lo : ∀ (l : List Fd) (i : Nat), i < l.length → (fcells l)[i * 3 + 1]? = some (.val (.int .i64 (fk (fat l i))))
  | [], i, h => absurd h (Nat.not_lt_zero i)
  | x :: l, 0, h => rfl
  | x :: l, i + 1, h => by
    have ih := fcells_lo l i (by simpa using h)
    rw [fcells_cons, show (i + 1) * 3 + 1 = i * 3 + 1 + 3 by omega]
    exact ih
set_option maxRecDepth 100000 in
set_option maxHeartbeats 16000000 in
theorem refAll_ac (l : Lay) (frs : List (List Int)) (x : List Evt) (hl : LayIn l) (hf : FrIn frs) (hx : x.length ≤ 1000) (hc : ∀ k, (evAt x k).1.length ≤ 1000000) : AC Try.prog 63 [layD l, .list (rows frs), .list (evls x)] [] [] (.tup [.list (fdL (alR l frs x)), dI (alE l frs x)]) := by
  refine kref12_All.ac (n0 := 0) (by simp) ⟨in_layD _ _, .list _, .list _, trivial⟩ trivial rfl ?_
  unfold cref12_All
  have ll := evls_len x
  have ck := checkF_ac l frs hl hf
  rcases tpE_cases l frs with ⟨h0, h1, h2⟩ | ⟨h0, hb⟩
  case inr =>
    have e : alE l frs x = tpE l frs := if_neg h0
    have er : alR l frs x = [] := if_neg (by rw [e]; exact h0)
    rw [er, e]
    unfold layD layC at *
    generalize tpE l frs = E at *
    (repeat' (first | (with_reducible first | refine thenQ_n ?_ | refine blockQ_n ?_ | refine thenQ_e ?_ | refine blockQ_t ?_ | refine blockQ_f (by decide) ?_) | apply aw_seq | apply aw_skip | apply aw_exit | apply aw_ret | apply aw_block | apply aw_condT rfl | apply aw_condF rfl | ((first | refine aw_hide fun K hK => aw_region ?_ | refine acall0 (ck) ?_ | refine ago_if (by omega) ?_ | skip); simp (disch := first | exact okY | omega) only [List.length, Nat.zero_add, Nat.reduceAdd, Nat.reduceMul, envOf, dI, ARun_none, AOpRun, aexec, D.isBot, FSt.ev, St.F, ↓eget_h, Bool.false_eq_true, Option.isSome, hget_n, or_self, ↓reduceIte, D.cells, AGo_ok, St.app, putO, eput_c, Nat.reduceBEq, eput_n, cond_false, hups, hput_n, List.map, ARun_nil, dropE_c, inL_n, dropE_n, eget_c, hget_c, beq_self_eq_true, cond_true, Nat.reduceLeDiff, List.drop, List.take, inL_c, isSh, Option.map, abin, hb, thenQ]) | subst hK))
    (refine end_q [] [] ?_ ?_ <;> repeat' (first | exact trivial | exact vr_val _ | exact vr_nil | apply vr_tup | apply And.intro))
  rw [h0] at ck
  have e : alE l frs x = if x.length > 8 then 2 else if x.all (eB l) = true then 0 else 121 := if_pos h0
  have hmax : maxLen = 9223372036854775807 := rfl
  have ce := fun k => checkE_ac l (evAt x k).1 (evAt x k).2 (by have := hc k; omega) (by have := h1.nf; omega)
  have et := fun k hk => revents_ac l frs (evAt x k).1 (evAt x k).2 h1 h2 hf hk
  unfold layD layC at *
  by_cases x8 : x.length > 8
  case pos =>
    rw [if_pos x8] at e
    have er : alR l frs x = [] := if_neg (by rw [e]; decide)
    rw [er, e]
    have q : decide ((x.length : Int) > 8) = true := decide_eq_true (by omega)
    generalize evls x = XX at *
    (repeat' (first | (with_reducible first | refine thenQ_n ?_ | refine blockQ_n ?_ | refine thenQ_e ?_ | refine blockQ_t ?_ | refine blockQ_f (by decide) ?_) | apply aw_seq | apply aw_skip | apply aw_exit | apply aw_ret | apply aw_block | apply aw_condT rfl | apply aw_condF rfl | ((first | refine aw_hide fun K hK => aw_region ?_ | refine acall0 (ck) ?_ | refine ago_if (by omega) ?_ | skip); simp (disch := first | exact okY | omega) only [List.length, Nat.zero_add, Nat.reduceAdd, Nat.reduceMul, envOf, dI, ARun_none, AOpRun, aexec, D.isBot, FSt.ev, St.F, ↓eget_h, Bool.false_eq_true, Option.isSome, hget_n, or_self, ↓reduceIte, D.cells, AGo_ok, St.app, putO, eput_c, Nat.reduceBEq, eput_n, cond_false, hups, hput_n, List.map, ARun_nil, dropE_c, inL_n, dropE_n, eget_c, hget_c, beq_self_eq_true, cond_true, Nat.reduceLeDiff, List.drop, List.take, inL_c, isSh, Option.map, abin, bne_self_eq_false, ll, q, thenQ]) | subst hK))
    (refine end_q [] [] ?_ ?_ <;> repeat' (first | exact trivial | exact vr_val _ | exact vr_nil | apply vr_tup | apply And.intro))
  rw [if_neg x8] at e
  have q : decide ((x.length : Int) > 8) = false := decide_eq_false (by omega)
  have gd := evls_gd x
  have la := evls_all x
  generalize evls x = XX at *
  (repeat' (first | (with_reducible first | refine thenQ_n ?_ | refine blockQ_n ?_ | refine thenQ_e ?_ | refine blockQ_t ?_ | refine blockQ_f (by decide) ?_) | apply aw_seq | apply aw_skip | apply aw_exit | apply aw_ret | apply aw_block | apply aw_condT rfl | apply aw_condF rfl | ((first | refine aw_hide fun K hK => aw_region ?_ | refine acall0 (ck) ?_ | refine ago_if (by omega) ?_ | skip); simp (disch := first | exact okY | omega) only [List.length, Nat.zero_add, Nat.reduceAdd, Nat.reduceMul, envOf, dI, ARun_none, AOpRun, aexec, D.isBot, FSt.ev, St.F, ↓eget_h, Bool.false_eq_true, Option.isSome, hget_n, or_self, ↓reduceIte, D.cells, AGo_ok, St.app, putO, eput_c, Nat.reduceBEq, eput_n, cond_false, hups, hput_n, List.map, ARun_nil, dropE_c, inL_n, dropE_n, eget_c, hget_c, beq_self_eq_true, cond_true, Nat.reduceLeDiff, List.drop, List.take, inL_c, isSh, Option.map, abin, bne_self_eq_false, ll, q]) | subst hK))
  refine aw_loop (fun i : Nat => ⟨[(1, .list (rows frs)), (2, .list XX), (3, .ptr 0 0), (9, dI i)], [(0, [dI l.words, dI l.s0, dI l.s1, dI l.s2, dI l.s3, .list (fls l.fl)])], 600⟩) (fun i => i ≤ x.length ∧ ∀ j, j < i → eB l (evAt x j) = true) (fun i => x.length - i) ⟨0, ⟨by omega, fun j hj => by omega⟩, ?_⟩ ?_
  · unfold dI
    refine wk_q [] [(0, 0)] ?_ ?_ <;> repeat' (first | exact trivial | exact vr_val _ | exact vr_list _ | exact vr_ptr _ _ _ rfl | refine And.intro ⟨_, rfl, .inl ⟨_, rfl, by decide, ?_⟩⟩ ?_ | apply And.intro)
  rintro i ⟨hi, hin⟩
  by_cases hi2 : i < x.length
  case pos =>
    have d0 : decide ((i : Int) < (x.length : Int)) = true := decide_eq_true (by omega)
    have ki : (i : Int) < (x.length : Int) := by omega
    have gd := gd i hi2
    have ce := ce i
    unfold evD at ce
    cases hb : evB l (evAt x i).1 (evAt x i).2 with
    | false =>
      have ha : x.all (eB l) = false := List.all_eq_false.2 ⟨x[i], List.getElem_mem hi2, by
        have : evAt x i = x[i] := by simp [evAt, hi2]
        rw [this] at hb
        simpa [eB] using hb⟩
      rw [ha, if_neg (by simp)] at e
      have er : alR l frs x = [] := if_neg (by rw [e]; decide)
      rw [er, e]
      rw [hb] at ce
      clear et
      generalize evAt x i = ee at *
      (repeat' (first | (with_reducible first | refine thenQ_n ?_ | refine blockQ_n ?_ | refine thenQ_e ?_ | refine blockQ_t ?_ | refine blockQ_f (by decide) ?_) | apply aw_seq | apply aw_skip | apply aw_exit | apply aw_ret | apply aw_block | apply aw_condT rfl | apply aw_condF rfl | ((first | refine aw_hide fun K hK => aw_region ?_ | refine acall0 (ce) ?_ | refine ago_if (by omega) ?_ | skip); simp (disch := first | exact okY | omega) only [List.length, Nat.zero_add, Nat.reduceAdd, Nat.reduceMul, dI, ARun_none, AOpRun, aexec, FSt.ev, St.F, eget_c, Nat.reduceBEq, ↓eget_h, cond_false, AGo_ok, St.app, putO, eput_c, eput_n, hups, List.map, ll, isSh, Bool.false_eq_true, ↓reduceIte, Option.map, abin, ki, decide_true, ARun_nil, dropE_c, inL_c, inL_n, beq_self_eq_true, cond_true, dropE_n, hget_c, hget_n, Nat.reduceLeDiff, List.drop, List.take, Int.natCast_nonneg, la, and_self, opt1, Int.toNat_natCast, gd, dB, Bool.not_false, blockQ, thenQ]) | subst hK))
      (refine end_q [] [] ?_ ?_ <;> repeat' (first | exact trivial | exact vr_val _ | exact vr_nil | apply vr_tup | apply And.intro))
    | true =>
      have nx : ∃ i', (i' ≤ x.length ∧ ∀ j, j < i' → eB l (evAt x j) = true) ∧ x.length - i' < x.length - i ∧ i' = i + 1 := ⟨i + 1, ⟨by omega, fun j hj => by
        rcases (by omega : j < i ∨ j = i) with h | rfl
        · exact hin j h
        · exact hb⟩, by omega, rfl⟩
      obtain ⟨i', n1, n2, rfl⟩ := nx
      rw [hb] at ce
      clear et hin
      generalize evAt x i = ee at *
      (repeat' (first | (with_reducible first | refine thenQ_n ?_ | refine blockQ_n ?_ | refine thenQ_e ?_ | refine blockQ_t ?_ | refine blockQ_f (by decide) ?_) | apply aw_seq | apply aw_skip | apply aw_exit | apply aw_ret | apply aw_block | apply aw_condT rfl | apply aw_condF rfl | ((first | refine aw_hide fun K hK => aw_region ?_ | refine acall0 (ce) ?_ | refine ago_if (by omega) ?_ | skip); simp (disch := first | exact okY | omega) only [List.length, Nat.zero_add, Nat.reduceAdd, Nat.reduceMul, dI, ARun_none, AOpRun, aexec, FSt.ev, St.F, eget_c, Nat.reduceBEq, ↓eget_h, cond_false, AGo_ok, St.app, putO, eput_c, eput_n, hups, List.map, ll, isSh, Bool.false_eq_true, ↓reduceIte, Option.map, abin, ki, decide_true, ARun_nil, dropE_c, inL_c, inL_n, beq_self_eq_true, cond_true, dropE_n, hget_c, hget_n, Nat.reduceLeDiff, List.drop, List.take, Int.natCast_nonneg, la, and_self, opt1, Int.toNat_natCast, gd, dB, Bool.not_true, fits]) | subst hK))
      refine ⟨i + 1, n1, n2, ?_⟩
      refine wk_q [] [(0, 0)] ?_ ?_ <;> repeat' (first | exact trivial | exact vr_val _ | exact vr_list _ | exact vr_ptr _ _ _ rfl | refine And.intro ⟨_, rfl, .inl ⟨_, rfl, by decide, ?_⟩⟩ ?_ | apply And.intro)
  obtain rfl : i = x.length := by omega
  have ha : x.all (eB l) = true := List.all_eq_true.2 fun y hy => by
    obtain ⟨j, hj, rfl⟩ := List.getElem_of_mem hy
    have := hin j hj
    rwa [show evAt x j = x[j] by simp [evAt, hj]] at this
  rw [ha, if_pos rfl] at e
  have er : alR l frs x = isrt (allL (fun k => evS l frs (evAt x k)) x.length) := if_pos e
  rw [er, e]
  have hSl : ∀ k, (evS l frs (evAt x k)).length ≤ 201 := fun k => by
    have hb := (evK_bd (isJ l frs (evAt x k).1) (evAt x k).2 (frs.length + 1))
    unfold evS
    omega
  obtain ⟨S, hS⟩ : ∃ S : Nat → List (Int × Int), S = fun k => evS l frs (evAt x k) := ⟨_, rfl⟩
  have et : ∀ k, k < x.length → AC Try.prog 95 [.agg [dI l.words, dI l.s0, dI l.s1, dI l.s2, dI l.s3, .list (fls l.fl)], .list (rows frs), evD (evAt x k).1 (evAt x k).2] [] [] (.list (sps (S k))) := fun k hk => by rw [hS]; exact et k (hin k hk)
  have hSl : ∀ k, (S k).length ≤ 201 := fun k => by rw [hS]; exact hSl k
  rw [← hS]
  have hAl := allL_len hSl
  clear e er hS h0 ck ce hin hc
  have dz : decide ((x.length : Int) < (x.length : Int)) = false := decide_eq_false (by omega)
  (repeat' (first | (with_reducible first | refine thenQ_n ?_ | refine blockQ_n ?_ | refine thenQ_e ?_ | refine blockQ_t ?_ | refine blockQ_f (by decide) ?_) | apply aw_seq | apply aw_skip | apply aw_exit | apply aw_ret | apply aw_block | apply aw_condT rfl | apply aw_condF rfl | ((first | refine aw_hide fun K hK => aw_region ?_ | refine ago_if (by omega) ?_ | skip); simp (disch := first | exact okY | omega) only [List.length, Nat.zero_add, Nat.reduceAdd, Nat.reduceMul, dI, ARun_none, AOpRun, aexec, FSt.ev, St.F, eget_c, Nat.reduceBEq, ↓eget_h, cond_false, AGo_ok, St.app, putO, eput_c, eput_n, hups, List.map, ll, isSh, Bool.false_eq_true, ↓reduceIte, Option.map, abin, dz, ARun_nil, dropE_c, inL_c, inL_n, beq_self_eq_true, cond_true, dropE_n]) | subst hK))
  refine aw_loop (fun i : Nat => ⟨[(1, .list (rows frs)), (2, .list XX), (3, .ptr 0 0), (10, .vec 40 (isrt (allL S i)).length 3), (11, dI i)], [(0, [dI l.words, dI l.s0, dI l.s1, dI l.s2, dI l.s3, .list (fls l.fl)]), (40, fcells (isrt (allL S i)))], 1600⟩) (fun i => i ≤ x.length) (fun i => x.length - i) ⟨0, by omega, ?_⟩ ?_
  · show Wk _ _ ⟨[_, _, _, (10, .vec 40 0 3), _], [_, (40, [])], _⟩
    unfold dI
    refine wk_q [] [(0, 0), (40, 1500)] ?_ ?_ <;> repeat' (first | exact trivial | exact vr_val _ | exact vr_list _ | exact vr_ptr _ _ _ rfl | exact vr_nilv _ _ _ rfl | refine And.intro ⟨_, rfl, .inl ⟨_, rfl, by decide, ?_⟩⟩ ?_ | refine And.intro ⟨_, rfl, .inr ⟨rfl, rfl, of_decide_eq_true (by kernel_rfl)⟩⟩ ?_ | apply And.intro)
  intro i hi
  have hA := hAl i
  by_cases hi2 : i < x.length
  case neg =>
    obtain rfl : i = x.length := by omega
    clear et hSl gd la hAl
    generalize allL S x.length = L at *
    generalize isrt L = L2 at *
    (repeat' (first | (with_reducible first | refine thenQ_n ?_ | refine blockQ_n ?_ | refine thenQ_e ?_ | refine blockQ_t ?_ | refine blockQ_f (by decide) ?_) | apply aw_seq | apply aw_skip | apply aw_exit | apply aw_ret | apply aw_block | apply aw_condT rfl | apply aw_condF rfl | ((first | refine aw_hide fun K hK => aw_region ?_ | refine ago_if (by omega) ?_ | skip); simp (disch := first | exact okY | omega) only [List.length, Nat.zero_add, Nat.reduceAdd, Nat.reduceMul, dI, ARun_none, AOpRun, aexec, FSt.ev, St.F, eget_c, Nat.reduceBEq, ↓eget_h, cond_false, AGo_ok, St.app, putO, eput_c, eput_n, hups, List.map, ll, isSh, Bool.false_eq_true, ↓reduceIte, Option.map, abin, dz, ARun_nil, dropE_c, inL_c, inL_n, beq_self_eq_true, cond_true, dropE_n]) | subst hK))
    refine end_q [40] [] ?_ ?_ <;> repeat' (first | exact trivial | exact vr_val _ | apply vr_tup | refine vr_fl _ _ _ _ _ (by decide) rfl ?_ ?_ ?_ ?_ | apply And.intro)
    all_goals first | exact fdL_three _ | exact fdL_len _ | exact fdL_flat _ | exact fcells_in _ _
  have d0 : decide ((i : Int) < (x.length : Int)) = true := decide_eq_true (by omega)
  have ki : (i : Int) < (x.length : Int) := by omega
  have et := et i hi2
  have hS1 := hSl i
  have gd := gd i hi2
  have hA2 := hAl (i + 1)
  have nx : ∃ i', i' ≤ x.length ∧ x.length - i' < x.length - i ∧ i' = i + 1 := ⟨i + 1, by omega, by omega, rfl⟩
  obtain ⟨i', n1, n2, rfl⟩ := nx
  have eA : allL S (i + 1) = allL S i ++ fnd i (S i) := rfl
  unfold evD at et
  clear hSl hAl dz
  generalize hB : allL S (i + 1) = B at *
  generalize allL S i = A at *
  generalize evAt x i = ee at *
  have sl := sps_len (S i)
  have sa := sps_all (S i)
  have sg := fun k hk => sps_gd (S i) k hk
  have fk1 := fun k hk => fnd_take i (S i) k hk
  have fl1 := fun k => fnd_len i ((S i).take k)
  generalize S i = T at *
  (repeat' (first | (with_reducible first | refine thenQ_n ?_ | refine blockQ_n ?_ | refine thenQ_e ?_ | refine blockQ_t ?_ | refine blockQ_f (by decide) ?_) | apply aw_seq | apply aw_skip | apply aw_exit | apply aw_ret | apply aw_block | apply aw_condT rfl | apply aw_condF rfl | ((first | refine aw_hide fun K hK => aw_region ?_ | refine acall0 (et) ?_ | refine ago_if (by omega) ?_ | skip); simp (disch := first | exact okY | omega) only [List.length, Nat.zero_add, Nat.reduceAdd, Nat.reduceMul, dI, ARun_none, AOpRun, aexec, FSt.ev, St.F, eget_c, Nat.reduceBEq, ↓eget_h, cond_false, AGo_ok, St.app, putO, eput_c, eput_n, hups, List.map, ll, isSh, Bool.false_eq_true, ↓reduceIte, Option.map, abin, ki, decide_true, ARun_nil, dropE_c, inL_c, inL_n, beq_self_eq_true, cond_true, dropE_n, hget_c, hget_n, Nat.reduceLeDiff, List.drop, List.take, Int.natCast_nonneg, la, and_self, opt1, Int.toNat_natCast, gd]) | subst hK))
  refine aw_loop (fun k : Nat => ⟨[(1, .list (rows frs)), (2, .list XX), (3, .ptr 0 0), (10, .vec 40 (isrt (A ++ fnd i (T.take k))).length 3), (11, dI i), (12, .list (sps T)), (13, dI k)], [(0, [dI l.words, dI l.s0, dI l.s1, dI l.s2, dI l.s3, .list (fls l.fl)]), (40, fcells (isrt (A ++ fnd i (T.take k))))], 2400⟩) (fun k => k ≤ T.length) (fun k => T.length - k) ⟨0, by omega, ?_⟩ ?_
  · simp only [List.take_zero, show fnd i [] = [] from rfl, List.append_nil]
    unfold dI
    refine wk_q [] [(0, 0), (40, 40)] ?_ ?_ <;> repeat' (first | exact trivial | exact vr_val _ | exact vr_list _ | exact vr_vec _ _ _ _ rfl | exact vr_ptr _ _ _ rfl | refine And.intro ⟨_, rfl, .inl ⟨_, rfl, by decide, ?_⟩⟩ ?_ | apply And.intro)
    all_goals exact vrl_flat _ (fcells_in _ _)
  intro k hk
  by_cases hk2 : k < T.length
  case neg =>
    obtain rfl : k = T.length := by omega
    have d1 : decide ((T.length : Int) < (T.length : Int)) = false := decide_eq_false (by omega)
    simp only [List.take_length]
    rw [← eA]
    (repeat' (first | (with_reducible first | refine thenQ_n ?_ | refine blockQ_n ?_ | refine thenQ_e ?_ | refine blockQ_t ?_ | refine blockQ_f (by decide) ?_) | apply aw_seq | apply aw_skip | apply aw_exit | apply aw_ret | apply aw_block | apply aw_condT rfl | apply aw_condF rfl | ((first | refine aw_hide fun K hK => aw_region ?_ | refine ago_if (by omega) ?_ | skip); simp (disch := first | exact okY | omega) only [List.length, Nat.zero_add, Nat.reduceAdd, Nat.reduceMul, dI, ARun_none, AOpRun, aexec, FSt.ev, St.F, eget_c, Nat.reduceBEq, ↓eget_h, cond_false, AGo_ok, St.app, putO, eput_c, eput_n, hups, List.map, sl, isSh, Bool.false_eq_true, ↓reduceIte, Option.map, abin, d1, ARun_nil, dropE_c, inL_c, inL_n, beq_self_eq_true, cond_true, dropE_n, fits]) | subst hK))
    refine ⟨i + 1, n1, n2, ?_⟩
    simp only [hB]
    refine wk_q [] [(0, 0), (40, 40)] ?_ ?_ <;> repeat' (first | exact trivial | exact vr_val _ | exact vr_list _ | exact vr_vec _ _ _ _ rfl | exact vr_ptr _ _ _ rfl | refine And.intro ⟨_, rfl, .inl ⟨_, rfl, by decide, ?_⟩⟩ ?_ | apply And.intro)
    all_goals exact vrl_flat _ (fcells_in _ _)
  have d1 : decide ((k : Int) < (T.length : Int)) = true := decide_eq_true (by omega)
  have kj : (k : Int) < (T.length : Int) := by omega
  have sg := sg k hk2
  have fk1 := fk1 k hk2
  have fl1 := fl1 k
  have hn : (A ++ fnd i (T.take k)).length ≤ 2000 := by rw [List.length_append, fl1]; simp; omega
  have e2 : isrt (A ++ fnd i (T.take (k + 1))) = insS ((i : Int), lo T k, Go.Proofs.Ytdcodicoclecnaa.hi T k) (isrt (A ++ fnd i (T.take k))) := by rw [fk1, ← List.append_assoc, isrt_snoc]
  have nx : ∃ k', k' ≤ T.length ∧ T.length - k' < T.length - k ∧ k' = k + 1 := ⟨k + 1, by omega, by omega, rfl⟩
  obtain ⟨k', m1, m2, rfl⟩ := nx
  have wl : (isrt (A ++ fnd i (T.take k))).length ≤ 2000 := by rw [isrt_len _ _ rfl]; exact hn
  have wS := isrt_srt _ (A ++ fnd i (T.take k)) rfl
  have w2 := insS_len ((i : Int), lo T k, Go.Proofs.Ytdcodicoclecnaa.hi T k) (isrt (A ++ fnd i (T.take k)))
  generalize isrt (A ++ fnd i (T.take k)) = W at *
  have fcl := fcells_len W
  have fct : (fcells W).take (W.length * 3) = fcells W := List.take_of_length_le (by omega)
  have fs := fcells_snoc W i (lo T k) (Go.Proofs.Ytdcodicoclecnaa.hi T k)
  clear fk1 fl1 eA gd et hn
  generalize hu : lo T k = u at *
  generalize hvv : Go.Proofs.Ytdcodicoclecnaa.hi T k = v at *
  (iterate 12 (try (first | apply aw_seq | ((first | apply aw_skip | apply aw_exit); with_reducible repeat' (first | refine thenQ_n ?_ | refine blockQ_n ?_ | refine thenQ_e ?_ | refine blockQ_t ?_ | refine blockQ_f (by decide) ?_)) | apply aw_ret | apply aw_block | apply aw_condT rfl | apply aw_condF rfl | ((first | refine aw_hide fun K hK => aw_region ?_ | refine ago_if (by omega) ?_ | skip); simp (disch := first | exact okY | omega) only [List.length, Nat.zero_add, Nat.reduceAdd, Nat.reduceMul, dI, ARun_none, AOpRun, aexec, FSt.ev, St.F, eget_c, Nat.reduceBEq, ↓eget_h, cond_false, AGo_ok, St.app, putO, eput_c, eput_n, hups, List.map, sl, isSh, Bool.false_eq_true, ↓reduceIte, Option.map, abin, kj, decide_true, ARun_nil, dropE_c, inL_c, inL_n, beq_self_eq_true, cond_true, dropE_n, Int.natCast_nonneg, sa, and_self, opt1, Int.toNat_natCast, sg, Nat.le_refl, List.take, fillD, D.isBot, D.cells, ne_eq, not_true_eq_false, Nat.reduceGT, or_self, splice, List.nil_append, List.drop, List.cons_append, List.append_nil, Option.isSome, hget_c, hget_n, hput_c, hput_n, base, ↓hget_h, fcl, fct, elems, List.all, D.leaf, Bool.and_true, and_true, ups, hdel_c, hdel_n]) | (subst hK; with_reducible repeat' (first | refine thenQ_n ?_ | refine blockQ_n ?_ | refine thenQ_e ?_ | refine blockQ_t ?_ | refine blockQ_f (by decide) ?_)))))
  have bt : fcells W ++ [.val (.int .i64 (i : Int)), .val (.int .i64 u), .val (.int .i64 v)] = fcells (bub [] W ((i : Int), u, v) [] W.length) := by
    rw [bub_top, ← fs]; rfl
  have hbe := fun j h1 h2 h3 => bub_end [] W ((i : Int), u, v) [] j wS h1 h2 h3
  simp only [List.nil_append, List.append_nil] at hbe
  refine aw_wk (s' := ⟨[(1, .list (rows frs)), (2, .list XX), (3, .ptr 0 0), (10, .vec 40 (W.length + 1) 3), (11, dI i), (12, .list (sps T)), (13, dI k)], [(0, [dI l.words, dI l.s0, dI l.s1, dI l.s2, dI l.s3, .list (fls l.fl)]), (40, fcells (bub [] W ((i : Int), u, v) [] W.length))], 3200⟩) ?_ ?_
  · rw [← bt]
    have hin := fcells_in (bub [] W ((i : Int), u, v) [] W.length) (fun _ => False)
    rw [← bt] at hin
    unfold dI
    refine wk_q [] [(0, 0), (40, 2496)] ?_ ?_ <;> repeat' (first | exact trivial | exact vr_val _ | exact vr_list _ | exact vr_vec _ _ _ _ rfl | exact vr_ptr _ _ _ rfl | refine And.intro ⟨_, rfl, .inl ⟨_, rfl, by decide, ?_⟩⟩ ?_ | apply And.intro | exact vrl_flat _ (by first | exact icells_in _ | exact rcells_in _ | exact scells_in _ | exact bcells_in _ | assumption) | fail)
    all_goals exact vrl_flat _ hin
  clear fs fct fcl bt
  have ew : ((W.length + 1 : Nat) : Int) - 1 = (W.length : Int) := by omega
  have ew' : ((W.length : Int) + 1) - 1 = (W.length : Int) := by omega
  refine aw_seq (aw_region ?_)
  simp (disch := first | exact okY | omega) only [thenQ, dI, List.length, Nat.zero_add, Nat.reduceAdd, Nat.reduceMul, ARun_none, AOpRun, aexec, FSt.ev, St.F, eget_c, Nat.reduceBEq, ↓eget_h, cond_false, AGo_ok, St.app, putO, eput_c, eput_n, hups, List.map, isSh, Bool.false_eq_true, ↓reduceIte, Option.map, abin, ew, fits, ARun_nil, dropE_c, inL_c, inL_n, beq_self_eq_true, cond_true, dropE_n]
  generalize hy : ((i : Int), u, v) = y at *
  refine aw_block (aw_loop (fun j : Nat => ⟨[(1, .list (rows frs)), (2, .list XX), (3, .ptr 0 0), (10, .vec 40 (W.length + 1) 3), (11, dI i), (12, .list (sps T)), (13, dI k), (14, dI j)], [(0, [dI l.words, dI l.s0, dI l.s1, dI l.s2, dI l.s3, .list (fls l.fl)]), (40, fcells (bub [] W y [] j))], 3600⟩) (fun j => j ≤ W.length ∧ ∀ t, j ≤ t → t < W.length → fk y < fk (fat W t)) (fun j => j) ⟨W.length, ⟨Nat.le_refl _, fun t h1 h2 => by omega⟩, ?_⟩ ?_)
  · unfold dI
    refine wk_q [] [(0, 0), (40, 40)] ?_ ?_ <;> repeat' (first | exact trivial | exact vr_val _ | exact vr_list _ | exact vr_vec _ _ _ _ rfl | exact vr_ptr _ _ _ rfl | refine And.intro ⟨_, rfl, .inl ⟨_, rfl, by decide, ?_⟩⟩ ?_ | apply And.intro)
    all_goals exact vrl_flat _ (fcells_in _ _)
  intro j ⟨hj, hall⟩
  by_cases hj0 : j = 0
  case pos =>
    subst hj0
    have be := hbe 0 (by omega) (.inl rfl) hall
    rw [be]
    rw [← e2] at w2 ⊢
    clear hbe hall be
    (have hg : (987654321 : Nat) - 987654321 = 0 := rfl; have hr := hg; repeat' (first | (with_reducible first | refine thenQ_n ?_ | refine blockQ_n ?_ | refine thenQ_e ?_ | refine blockQ_t ?_ | refine blockQ_f (by decide) ?_) | apply aw_seq | apply aw_skip | apply aw_exit | apply aw_ret | apply aw_block | apply aw_condT rfl | apply aw_condF rfl | (refine ag_bool (fun hg => ?_) (fun hg => ?_) <;> (try (have hq := hg; simp only [Bool.not_eq_true', Bool.not_eq_false', Bool.and_eq_true, Bool.and_eq_false_iff, Bool.or_eq_true, Bool.or_eq_false_iff, decide_eq_true_eq, decide_eq_false_iff_not, bne_iff_ne, beq_iff_eq, beq_eq_false_iff_ne, bne_eq_false_iff_eq, ne_eq, Int.not_lt, Int.not_le, Decidable.not_not] at hq)) <;> (try (have hr := hg; simp only [decide_eq_true_eq, decide_eq_false_iff_not] at hr)) <;> (try (exfalso; omega)) <;> simp (disch := first | exact okY | omega) only [hr, decide_false, AG_ft, Nat.reduceAdd, St.app, putO, eput_c, Nat.reduceBEq, eput_n, cond_false, hups, ARun_some, eget_c, ↓eget_h, ARun_none, AOpRun, aexec, FSt.ev, St.F, Bool.false_eq_true, ↓reduceIte, AGo_ok, List.map, ARun_nil, dropE_c, inL_c, inL_n, beq_self_eq_true, cond_true, dropE_n]) | ((first | refine aw_hide fun K hK => aw_region ?_ | refine ago_if (by omega) ?_ | skip); simp (disch := first | exact okY | omega) only [List.length, Nat.zero_add, Nat.reduceAdd, Nat.reduceMul, dI, cast_lit, ARun_none, AOpRun, aexec, FSt.ev, St.F, eget_c, Nat.reduceBEq, ↓eget_h, cond_false, AGo_ok, St.app, putO, eput_c, eput_n, hups, List.map, isSh, Bool.false_eq_true, ↓reduceIte, Option.map, abin, ARun_some, fits, beq_self_eq_true, cond_true, ARun_nil, dropE_c, inL_c, inL_n, dropE_n]) | subst hK))
    refine ⟨k + 1, m1, m2, ?_⟩
    simp only [w2]
    refine wk_q [] [(0, 0), (40, 40)] ?_ ?_ <;> repeat' (first | exact trivial | exact vr_val _ | exact vr_list _ | exact vr_vec _ _ _ _ rfl | exact vr_ptr _ _ _ rfl | refine And.intro ⟨_, rfl, .inl ⟨_, rfl, by decide, ?_⟩⟩ ?_ | apply And.intro)
    all_goals exact vrl_flat _ (fcells_in _ _)
  obtain ⟨t, rfl⟩ : ∃ t, j = t + 1 := ⟨j - 1, by omega⟩
  have ht : t < W.length := by omega
  have bl := bub_len [] W y [] (t + 1)
  have ba := bub_at [] W y [] t ht
  have bn := bub_next [] W y [] t ht
  have be := fun (h : ¬ fk y < fk (fat W t)) => hbe (t + 1) (by omega) (.inr (by rw [show t + 1 - 1 = t by omega]; exact h)) hall
  simp only [List.length_nil, Nat.zero_add, Nat.add_zero] at bl ba bn
  obtain ⟨ba1, ba2⟩ := ba
  have nxj : ∃ j', j' = t ∧ j' < t + 1 := ⟨t, rfl, by omega⟩
  generalize hd : bub [] W y [] (t + 1) = d at *
  have hp : t + 1 < d.length := by omega
  have hq : t < d.length := by omega
  have g1 := fcells_lo d (t + 1) hp
  have g2 := fcells_lo d t hq
  have r1 := fcells_rd d _ hp
  have r2 := fcells_rd d _ hq
  have w1 := fcells_wr d _ (fat d t) hp
  have w3 := fcells_wr (d.set (t + 1) (fat d t)) t (fat d (t + 1)) (by simpa using hq)
  have fl := fcells_len d
  have fl2 := fcells_len (d.set (t + 1) (fat d t))
  rw [List.length_set] at fl2
  unfold swp at bn
  rw [bn] at w3
  rw [ba1, ba2] at w3
  rw [ba2] at w1 r2 fl2 g2
  rw [ba1] at r1 g1
  have hdN : d.length = W.length + 1 := by omega
  obtain ⟨J, hJ⟩ : ∃ J : Int, J = ((t + 1 : Nat) : Int) := ⟨_, rfl⟩
  try simp only
  rw [← hJ]
  have t1 : J.toNat = t + 1 := by omega
  have t2 : (J - 1).toNat = t := by omega
  have q0 : decide (J > 0) = true := decide_eq_true (by omega)
  have hJb : 0 ≤ J ∧ J ≤ 1000000 := by omega
  simp only [splice, fc, dI, List.length_cons, List.length_nil, Nat.zero_add, Nat.reduceAdd] at r1 r2 w1 w3
  generalize hf : fat W t = f at *
  generalize hd2 : d.set (t + 1) f = d2 at *
  by_cases hc : fk y < fk f
  · have q1 : decide (fk y < fk f) = true := decide_eq_true hc
    have h5 : ∀ t', t ≤ t' → t' < W.length → fk y < fk (fat W t') := fun t' h1 h2 => by
      by_cases h3 : t' = t
      · rw [h3, hf]; exact hc
      · exact hall t' (by omega) h2
    clear be hall hd hd2 ba1 ba2 bn bl hbe hf
    generalize hBB : fcells (bub [] W y [] t) = BB at *
    generalize hky : fk y = ky at q1 g1
    generalize fk f = kf at q1 g2
    (repeat' (first | (with_reducible first | refine thenQ_n ?_ | refine blockQ_n ?_ | refine thenQ_e ?_ | refine blockQ_t ?_ | refine blockQ_f (by decide) ?_) | apply aw_seq | apply aw_skip | apply aw_exit | apply aw_ret | apply aw_block | apply aw_condT rfl | apply aw_condF rfl | ((first | refine aw_hide fun K hK => aw_region ?_ | refine ago_if (by omega) ?_ | skip); simp (disch := first | exact okY | omega) only [List.length, Nat.zero_add, Nat.reduceAdd, Nat.reduceMul, dI, ARun_none, AOpRun, aexec, FSt.ev, St.F, eget_c, Nat.reduceBEq, ↓eget_h, cond_false, AGo_ok, St.app, putO, eput_c, eput_n, hups, List.map, isSh, Bool.false_eq_true, ↓reduceIte, Option.map, abin, q0, ARun_some, AG_tt, and_true, t1, Nat.add_zero, run1, hget_c, ↓hget_h, g1, fits, t2, g2, q1, ARun_nil, dropE_c, inL_c, inL_n, beq_self_eq_true, cond_true, dropE_n, fl, r2, r1, D.isBot, D.cells, List.all, D.leaf, Bool.and_true, true_and, splice, w1, hput_c, hput_n, fl2, w3]) | subst hK))
    refine ⟨t, ⟨by omega, fun t' a b => by first | exact h5 t' a b | (rw [← hky]; exact h5 t' a b)⟩, by omega, ?_⟩
    subst hBB
    simp only [show (t : Int) = J - 1 by omega]
    refine wk_q [] [(0, 0), (40, 40)] ?_ ?_ <;> repeat' (first | exact trivial | exact vr_val _ | exact vr_list _ | exact vr_vec _ _ _ _ rfl | exact vr_ptr _ _ _ rfl | refine And.intro ⟨_, rfl, .inl ⟨_, rfl, by decide, ?_⟩⟩ ?_ | apply And.intro)
    all_goals exact vrl_flat _ (fcells_in _ _)
  · have q1 : decide (fk y < fk f) = false := decide_eq_false hc
    have be := be hc
    rw [be]
    rw [be] at fl g1 g2
    rw [← e2] at w2 fl g1 g2 ⊢
    clear hall hd hd2 ba1 ba2 bn bl hbe w1 w3 r1 r2 fl2
    generalize fk y = ky at q1 g1
    generalize fk f = kf at q1 g2
    (repeat' (first | (with_reducible first | refine thenQ_n ?_ | refine blockQ_n ?_ | refine thenQ_e ?_ | refine blockQ_t ?_ | refine blockQ_f (by decide) ?_) | apply aw_seq | apply aw_skip | apply aw_exit | apply aw_ret | apply aw_block | apply aw_condT rfl | apply aw_condF rfl | ((first | refine aw_hide fun K hK => aw_region ?_ | refine ago_if (by omega) ?_ | skip); simp (disch := first | exact okY | omega) only [List.length, Nat.zero_add, Nat.reduceAdd, Nat.reduceMul, dI, ARun_none, AOpRun, aexec, FSt.ev, St.F, eget_c, Nat.reduceBEq, ↓eget_h, cond_false, AGo_ok, St.app, putO, eput_c, eput_n, hups, List.map, isSh, Bool.false_eq_true, ↓reduceIte, Option.map, abin, q0, ARun_some, AG_tt, and_true, t1, Nat.add_zero, run1, hget_c, ↓hget_h, g1, fits, t2, g2, q1, ARun_nil, dropE_c, inL_c, inL_n, beq_self_eq_true, cond_true, dropE_n]) | subst hK))
    refine ⟨k + 1, m1, m2, ?_⟩
    simp only [w2]
    refine wk_q [] [(0, 0), (40, 40)] ?_ ?_ <;> repeat' (first | exact trivial | exact vr_val _ | exact vr_list _ | exact vr_vec _ _ _ _ rfl | exact vr_ptr _ _ _ rfl | refine And.intro ⟨_, rfl, .inl ⟨_, rfl, by decide, ?_⟩⟩ ?_ | apply And.intro)
    all_goals exact vrl_flat _ (fcells_in _ _)
end Go.Proofs.Ytdcodicoclecnaa
/- A safety case, in numbers. No conditions. -/
namespace Go.Proofs.Ytdcodicoclecnaa
open Go.RowKit Lift

structure Clm where
  needs : List Int
  proofs : List Int
  any : Bool
structure Cas where
  cl : List Clm
  pf : List (Int × Int)
def clC (x : Clm) : List D := [.list (ints x.needs), .list (ints x.proofs), dB x.any]
def cls (l : List Clm) : List (List D) := l.map clC
def cl0 : Clm := ⟨[], [], false⟩
theorem cls_len (l : List Clm) : (cls l).length = l.length := by simp [cls]
theorem cls_all (l : List Clm) : (cls l).all (fun x => x.length == 3) = true := by simp [cls, clC]
theorem cls_three (l : List Clm) : ∀ e ∈ cls l, e.length = 3 := by simp [cls, clC]
theorem cls_gd (l : List Clm) (k : Nat) (h : k < l.length) : (cls l)[k]? = some (clC (l[k]?.getD cl0)) := by simp [cls, h]
def Asc (l : List Int) (b : Int) : Prop := ∀ i, i < l.length → 0 ≤ l[i]?.getD 0 ∧ l[i]?.getD 0 < b ∧ (0 < i → l[i - 1]?.getD 0 < l[i]?.getD 0)
def pfOk (a : Int × Int) : Prop := 0 ≤ a.1 ∧ a.1 ≤ a.2 ∧ a.2 ≤ 2000
instance (a : Int × Int) : Decidable (pfOk a) := inferInstanceAs (Decidable (_ ∧ _))
def clAt (c : Cas) (i : Nat) : Clm := c.cl[i]?.getD cl0
def pfAt (c : Cas) (i : Nat) : Int × Int := c.pf[i]?.getD (0, 0)
structure CasOk (c : Cas) : Prop where
  n1 : c.cl.length ≤ 16
  n2 : c.pf.length ≤ 12
  asc : ∀ i, i < c.cl.length → Asc (clAt c i).needs i ∧ Asc (clAt c i).proofs c.pf.length
  pf : ∀ i, i < c.pf.length → pfOk (pfAt c i)
open Classical in
noncomputable def casE (c : Cas) (E : Int) : Int := if CasOk c then 0 else E
theorem casE_ok {c : Cas} {E : Int} (h : CasOk c) : casE c E = 0 := if_pos h
theorem casE_no {c : Cas} {E : Int} (h : ¬ CasOk c) : casE c E = E := if_neg h
noncomputable def clmE (c : Cas) (claim tick E A : Int) : Int := if casE c E ≠ 0 then casE c E else if 0 ≤ claim ∧ claim ≤ (c.cl.length : Int) - 1 ∧ 0 ≤ tick ∧ tick ≤ 2000 then 0 else A
def cntT (c : Cas) (tick : Int) (i : Nat) : Bool := decide (i < c.pf.length) && (decide ((pfAt c i).1 ≤ tick) && decide (tick ≤ (pfAt c i).2))
def clV (x : Clm) (h : List Bool) (cn : Nat → Bool) : Bool :=
  if x.any = true then x.needs.any (fun n => h[n.toNat]?.getD false) || x.proofs.any (fun n => cn n.toNat)
  else x.needs.all (fun n => h[n.toNat]?.getD false) && x.proofs.all (fun n => cn n.toNat)
def hlK (c : Cas) (cn : Nat → Bool) : Nat → List Bool
  | 0 => []
  | i + 1 => hlK c cn i ++ [clV (clAt c i) (hlK c cn i) cn]
theorem hlK_len (c : Cas) (cn : Nat → Bool) : ∀ i, (hlK c cn i).length = i
  | 0 => rfl
  | i + 1 => by simp [hlK, hlK_len c cn i]
def holdC (c : Cas) (cl : Nat) (cn : Nat → Bool) : Bool := (hlK c cn (cl + 1))[cl]?.getD false
def hlF (c : Cas) (cn : Nat → Bool) (n i : Nat) : List Bool := (List.range n).map fun j => if j < i then (hlK c cn i)[j]?.getD false else false
theorem hlF_len (c : Cas) (cn : Nat → Bool) (n i : Nat) : (hlF c cn n i).length = n := by simp [hlF]
theorem hlF_get (c : Cas) (cn : Nat → Bool) (n i j : Nat) (h : j < i) (hn : j < n) : (hlF c cn n i)[j]?.getD false = (hlK c cn i)[j]?.getD false := by simp [hlF, hn, h]
theorem hlF_zero (c : Cas) (cn : Nat → Bool) (n : Nat) : hlF c cn n 0 = List.replicate n false := by
  unfold hlF
  refine List.ext_getElem (by simp) fun i h1 h2 => ?_
  simp
theorem hlF_succ (c : Cas) (cn : Nat → Bool) (n i : Nat) (h : i < n) : hlF c cn n (i + 1) = (hlF c cn n i).set i (clV (clAt c i) (hlK c cn i) cn) := by
  unfold hlF
  refine List.ext_getElem (by simp) fun j h1 h2 => ?_
  rw [List.getElem_set]
  simp only [List.getElem_map, List.getElem_range]
  have hl := hlK_len c cn i
  by_cases e : i = j
  · subst e
    rw [if_pos rfl, if_pos (by omega), hlK, List.getElem?_append_right (by omega)]
    simp [hl]
  · rw [if_neg e]
    by_cases hj : j < i
    · rw [if_pos (by omega), if_pos hj, hlK, List.getElem?_append_left (by omega)]
    · rw [if_neg (by omega), if_neg hj]
theorem asc_lt {l : List Int} {b : Int} (h : Asc l b) {n : Int} (hn : n ∈ l) : 0 ≤ n ∧ n < b := by
  obtain ⟨i, hi, rfl⟩ := List.getElem_of_mem hn
  have := h i hi
  simp [hi] at this
  exact ⟨this.1, this.2.1⟩
end Go.Proofs.Ytdcodicoclecnaa
/- The functions' bodies, translated. Written by a program; no conditions. -/
namespace Go.Proofs.Ytdcodicoclecnaa
open Go.RowKit Lift

def crecord_ascends : ACode :=
 (.seq
 (.region false [⟨some 4, .mv (.const (.bool false)), none, []⟩] [])
 (.seq
 (.region false [⟨some 5, .mv (.const (.int .i64 (-1))), none, []⟩] [])
 (.seq
 (.seq
 (.region false [⟨some 8, .mv (.tmp 0), none, []⟩,
 ⟨some 9, .len_ (.tmp 8), none, []⟩,
 ⟨some 10, .mv (.const (.int .i64 0)), none, []⟩] [])
 (.block 0
 (.loop
 (.seq
 (.region false [⟨some 11, .bin .lss (.tmp 10) (.tmp 9), none, []⟩] [])
 (.seq
 (.cond (.tmp 11)
 .skip
 (.exit 0))
 (.seq
 (.block 1
 (.seq
 (.region false [⟨some 12, .iadS 1 (.tmp 8) (.tmp 10), none, []⟩,
 ⟨some 13, .load1 (.tmp 12), none, []⟩,
 ⟨some 7, .mv (.tmp 13), none, []⟩] [12, 13])
 (.seq
 (.seq
 (.region false [⟨some 14, .mv (.tmp 7), none, []⟩,
 ⟨some 15, .mv (.tmp 5), none, []⟩,
 ⟨some 16, .bin .leq (.tmp 14) (.tmp 15), none, []⟩,
 ⟨some 17, .mv (.tmp 16), none, []⟩,
 ⟨some 18, .mv (.tmp 7), (some (some 17, false)), []⟩,
 ⟨some 19, .mv (.tmp 1), (some (some 17, false)), []⟩,
 ⟨some 20, .bin .geq (.tmp 18) (.tmp 19), (some (some 17, false)), []⟩,
 ⟨some 21, .pick (.tmp 17) (.const (.bool true)) (.tmp 20), none, []⟩] [14, 15, 16, 17, 18, 19, 20])
 (.cond (.tmp 21)
 (.seq
 (.region false [⟨some 4, .mv (.const (.bool false)), none, []⟩] [])
 .ret)
 .skip))
 (.region false [⟨some 22, .mv (.tmp 7), none, []⟩,
 ⟨some 5, .mv (.tmp 22), none, []⟩] [22]))))
 (.region false [⟨some 23, .bin .add (.tmp 10) (.const (.int .i64 1)), none, []⟩,
 ⟨some 10, .mv (.tmp 23), none, []⟩] [23])))))))
 (.seq
 (.region false [⟨some 4, .mv (.const (.bool true)), none, []⟩] [])
 .ret))))
set_option maxRecDepth 100000 in
theorem krecord_ascends : IsCode Try.prog 145 24 crecord_ascends [.tmp 4] :=
 ⟨Try.f145, _, [21, 11, 0, 10, 9, 8, 7, 5, 1, 4], Try.func145, rfl, by decide, rfl, by kernel_rfl, by kernel_rfl⟩
def crecord_proof : ACode :=
 (.seq
 (.region false [⟨some 1, .box (.tmp 0), none, []⟩,
 ⟨some 2, .mv (.const (.bool false)), none, []⟩] [])
 (.seq
 (.region false [⟨some 3, .loadN 2 (.tmp 1), none, []⟩,
 ⟨some 4, .buildSl 2 1 [(.val (.int .i64 0)), (.val (.int .i64 0))] [(0, 2, (.tmp 3))], none, []⟩,
 ⟨some 5, .call (.func 159) [(.tmp 4)], none, []⟩,
 ⟨some 6, .bin .eql (.tmp 5) (.const (.int .i64 0)), none, []⟩,
 ⟨some 7, .mv (.tmp 6), none, []⟩,
 ⟨some 8, .fad 0 (.tmp 1), (some (some 7, true)), []⟩,
 ⟨some 9, .load1 (.tmp 8), (some (some 7, true)), []⟩,
 ⟨some 10, .bin .geq (.tmp 9) (.const (.int .i64 0)), (some (some 7, true)), []⟩,
 ⟨some 11, .pick (.tmp 7) (.tmp 10) (.const (.bool false)), none, []⟩,
 ⟨some 12, .mv (.tmp 11), none, []⟩,
 ⟨some 13, .fad 1 (.tmp 1), (some (some 12, true)), []⟩,
 ⟨some 14, .load1 (.tmp 13), (some (some 12, true)), []⟩,
 ⟨some 15, .bin .leq (.tmp 14) (.const (.int .i64 2000)), (some (some 12, true)), []⟩,
 ⟨some 16, .pick (.tmp 12) (.tmp 15) (.const (.bool false)), none, []⟩,
 ⟨some 2, .mv (.tmp 16), none, []⟩] [3, 4, 5, 6, 7, 8, 9, 10, 11, 12, 13, 14, 15, 16])
 .ret))
set_option maxRecDepth 100000 in
theorem krecord_proof : IsCode Try.prog 148 17 crecord_proof [.tmp 2] :=
 ⟨Try.f148, _, [0, 1, 2], Try.func148, rfl, by decide, rfl, by kernel_rfl, by kernel_rfl⟩
def crecord_valid : ACode :=
 (.seq
 (.region false [⟨some 1, .box (.tmp 0), none, []⟩,
 ⟨some 2, .mv (.const (.bool false)), none, []⟩] [])
 (.seq
 (.seq
 (.region false [⟨some 5, .fad 0 (.tmp 1), none, []⟩,
 ⟨some 6, .load1 (.tmp 5), none, []⟩,
 ⟨some 7, .len_ (.tmp 6), none, []⟩,
 ⟨some 8, .bin .gtr (.tmp 7) (.const (.int .i64 16)), none, []⟩,
 ⟨some 9, .mv (.tmp 8), none, []⟩,
 ⟨some 10, .fad 1 (.tmp 1), (some (some 9, false)), []⟩,
 ⟨some 11, .load1 (.tmp 10), (some (some 9, false)), []⟩,
 ⟨some 12, .len_ (.tmp 11), (some (some 9, false)), []⟩,
 ⟨some 13, .bin .gtr (.tmp 12) (.const (.int .i64 12)), (some (some 9, false)), []⟩,
 ⟨some 14, .pick (.tmp 9) (.const (.bool true)) (.tmp 13), none, []⟩] [5, 6, 7, 8, 9, 10, 11, 12, 13])
 (.cond (.tmp 14)
 (.seq
 (.region false [⟨some 2, .mv (.const (.bool false)), none, []⟩] [])
 .ret)
 .skip))
 (.seq
 (.seq
 (.region false [⟨some 15, .fad 0 (.tmp 1), none, []⟩,
 ⟨some 16, .load1 (.tmp 15), none, []⟩,
 ⟨some 17, .len_ (.tmp 16), none, []⟩,
 ⟨some 18, .mv (.const (.int .i64 0)), none, []⟩] [15])
 (.block 0
 (.loop
 (.seq
 (.region false [⟨some 19, .bin .lss (.tmp 18) (.tmp 17), none, []⟩] [])
 (.seq
 (.cond (.tmp 19)
 .skip
 (.exit 0))
 (.seq
 (.block 1
 (.seq
 (.region false [⟨some 20, .mv (.tmp 18), none, []⟩,
 ⟨some 21, .iadS 3 (.tmp 16) (.tmp 18), none, []⟩,
 ⟨some 22, .loadN 3 (.tmp 21), none, []⟩,
 ⟨some 4, .mem [(.val (.slice none 0 0)), (.val (.slice none 0 0)), (.val (.bool false))], none, []⟩,
 ⟨some 3, .mv (.tmp 20), none, []⟩,
 ⟨none, .store 3 (.tmp 4) (.tmp 22), none, []⟩] [20, 21, 22])
 (.seq
 (.region false [⟨some 23, .fad 0 (.tmp 4), none, []⟩,
 ⟨some 24, .load1 (.tmp 23), none, []⟩,
 ⟨some 25, .mv (.tmp 3), none, []⟩,
 ⟨some 26, .call (.func 145) [(.tmp 24), (.tmp 25)], none, []⟩,
 ⟨some 27, .un .not (.tmp 26), none, []⟩,
 ⟨some 28, .mv (.tmp 27), none, []⟩,
 ⟨some 29, .fad 1 (.tmp 4), (some (some 28, false)), []⟩,
 ⟨some 30, .load1 (.tmp 29), (some (some 28, false)), []⟩,
 ⟨some 31, .fad 1 (.tmp 1), (some (some 28, false)), []⟩,
 ⟨some 32, .load1 (.tmp 31), (some (some 28, false)), []⟩,
 ⟨some 33, .len_ (.tmp 32), (some (some 28, false)), []⟩,
 ⟨some 34, .call (.func 145) [(.tmp 30), (.tmp 33)], (some (some 28, false)), []⟩,
 ⟨some 35, .un .not (.tmp 34), (some (some 28, false)), []⟩,
 ⟨some 36, .pick (.tmp 28) (.const (.bool true)) (.tmp 35), none, []⟩] [23, 24, 25, 26, 27, 28, 29, 30, 31, 32, 33, 34, 35])
 (.cond (.tmp 36)
 (.seq
 (.region false [⟨some 2, .mv (.const (.bool false)), none, []⟩] [])
 .ret)
 .skip))))
 (.region false [⟨some 37, .bin .add (.tmp 18) (.const (.int .i64 1)), none, []⟩,
 ⟨some 18, .mv (.tmp 37), none, []⟩] [37])))))))
 (.seq
 (.region false [⟨some 38, .fad 1 (.tmp 1), none, []⟩,
 ⟨some 39, .load1 (.tmp 38), none, []⟩,
 ⟨some 40, .call (.func 146) [(.tmp 39), (.func 147)], none, []⟩,
 ⟨some 41, .un .not (.tmp 40), none, []⟩,
 ⟨some 2, .mv (.tmp 41), none, []⟩] [38, 39, 40, 41])
 .ret))))
set_option maxRecDepth 100000 in
theorem krecord_valid : IsCode Try.prog 118 42 crecord_valid [.tmp 2] :=
 ⟨Try.f118, _, [36, 19, 14, 0, 1, 18, 17, 16, 4, 3, 2], Try.func118, rfl, by decide, rfl, by kernel_rfl, by kernel_rfl⟩
def crecord_valid_S1 : ACode :=
 (.seq
 (.region false [⟨some 1, .box (.tmp 0), none, []⟩,
 ⟨some 2, .mv (.const (.bool false)), none, []⟩] [])
 (.seq
 (.region false [⟨some 3, .loadN 2 (.tmp 1), none, []⟩,
 ⟨some 4, .call (.func 148) [(.tmp 3)], none, []⟩,
 ⟨some 5, .un .not (.tmp 4), none, []⟩,
 ⟨some 2, .mv (.tmp 5), none, []⟩] [3, 4, 5])
 .ret))
set_option maxRecDepth 100000 in
theorem krecord_valid_S1 : IsCode Try.prog 147 6 crecord_valid_S1 [.tmp 2] :=
 ⟨Try.f147, _, [0, 1, 2], Try.func147, rfl, by decide, rfl, by kernel_rfl, by kernel_rfl⟩
def crecord_check : ACode :=
 (.seq
 (.region false [⟨some 3, .box (.tmp 0), none, []⟩,
 ⟨some 6, .mv (.const (.int .i64 0)), none, []⟩] [])
 (.seq
 (.block 0
 (.seq
 (.region false [⟨some 8, .loadN 2 (.tmp 3), none, []⟩,
 ⟨some 9, .call (.func 118) [(.tmp 8)], none, []⟩,
 ⟨some 10, .un .not (.tmp 9), none, []⟩,
 ⟨some 7, .mv (.tmp 10), none, []⟩] [8, 9, 10])
 (.cond (.tmp 7)
 (.seq
 (.region false [⟨some 6, .mv (.const (.int .i64 122)), none, []⟩] [])
 .ret)
 (.seq
 (.seq
 (.region false [⟨some 12, .mv (.tmp 1), none, []⟩,
 ⟨some 13, .fad 0 (.tmp 3), none, []⟩,
 ⟨some 14, .load1 (.tmp 13), none, []⟩,
 ⟨some 15, .len_ (.tmp 14), none, []⟩,
 ⟨some 16, .bin .sub (.tmp 15) (.const (.int .i64 1)), none, []⟩,
 ⟨some 17, .call (.func 74) [(.tmp 12), (.const (.int .i64 0)), (.tmp 16)], none, []⟩,
 ⟨some 18, .un .not (.tmp 17), none, []⟩,
 ⟨some 11, .mv (.tmp 18), none, []⟩] [12, 13, 14, 15, 16, 17, 18])
 (.cond (.tmp 11)
 .skip
 (.region false [⟨some 19, .mv (.tmp 2), none, []⟩,
 ⟨some 20, .call (.func 74) [(.tmp 19), (.const (.int .i64 0)), (.const (.int .i64 2000))], none, []⟩,
 ⟨some 21, .un .not (.tmp 20), none, []⟩,
 ⟨some 11, .mv (.tmp 21), none, []⟩] [19, 20, 21])))
 (.cond (.tmp 11)
 (.seq
 (.region false [⟨some 6, .mv (.const (.int .i64 1)), none, []⟩] [])
 .ret)
 .skip)))))
 (.seq
 (.region false [⟨some 6, .mv (.const (.int .i64 0)), none, []⟩] [])
 .ret)))
set_option maxRecDepth 100000 in
theorem krecord_check : IsCode Try.prog 82 22 crecord_check [.tmp 6] :=
 ⟨Try.f82, _, [11, 7, 0, 3, 1, 2, 6], Try.func82, rfl, by decide, rfl, by kernel_rfl, by kernel_rfl⟩
def crecord_proofs_has : ACode :=
 (.seq
 (.region false [⟨some 4, .mv (.const (.bool false)), none, []⟩] [])
 (.seq
 (.region false [⟨some 5, .mv (.tmp 0), none, []⟩,
 ⟨some 6, .mv (.tmp 1), none, []⟩,
 ⟨some 7, .bin .shr (.tmp 5) (.tmp 6), none, []⟩,
 ⟨some 8, .bin .and (.tmp 7) (.const (.int .i64 1)), none, []⟩,
 ⟨some 9, .bin .eql (.tmp 8) (.const (.int .i64 1)), none, []⟩,
 ⟨some 4, .mv (.tmp 9), none, []⟩] [5, 6, 7, 8, 9])
 .ret))
set_option maxRecDepth 100000 in
theorem krecord_proofs_has : IsCode Try.prog 89 10 crecord_proofs_has [.tmp 4] :=
 ⟨Try.f89, _, [0, 1, 4], Try.func89, rfl, by decide, rfl, by kernel_rfl, by kernel_rfl⟩
def crecord_proofs_with : ACode :=
 (.seq
 (.region false [⟨some 4, .mv (.const (.int .i64 0)), none, []⟩] [])
 (.seq
 (.region false [⟨some 5, .mv (.tmp 0), none, []⟩,
 ⟨some 6, .mv (.tmp 1), none, []⟩,
 ⟨some 7, .bin .shl (.const (.int .i64 1)) (.tmp 6), none, []⟩,
 ⟨some 8, .bin .or (.tmp 5) (.tmp 7), none, []⟩,
 ⟨some 4, .mv (.tmp 8), none, []⟩] [5, 6, 7, 8])
 .ret))
set_option maxRecDepth 100000 in
theorem krecord_proofs_with : IsCode Try.prog 90 9 crecord_proofs_with [.tmp 4] :=
 ⟨Try.f90, _, [0, 1, 4], Try.func90, rfl, by decide, rfl, by kernel_rfl, by kernel_rfl⟩
def crecord_counting : ACode :=
 (.seq
 (.region false [⟨some 2, .box (.tmp 0), none, []⟩,
 ⟨some 4, .mv (.const (.int .i64 0)), none, []⟩] [])
 (.seq
 (.seq
 (.region false [⟨some 7, .fad 1 (.tmp 2), none, []⟩,
 ⟨some 8, .load1 (.tmp 7), none, []⟩,
 ⟨some 9, .len_ (.tmp 8), none, []⟩,
 ⟨some 10, .mv (.const (.int .i64 0)), none, []⟩] [7])
 (.block 0
 (.loop
 (.seq
 (.region false [⟨some 11, .bin .lss (.tmp 10) (.tmp 9), none, []⟩] [])
 (.seq
 (.cond (.tmp 11)
 .skip
 (.exit 0))
 (.seq
 (.block 1
 (.seq
 (.region false [⟨some 12, .mv (.tmp 10), none, []⟩,
 ⟨some 13, .iadS 2 (.tmp 8) (.tmp 10), none, []⟩,
 ⟨some 14, .loadN 2 (.tmp 13), none, []⟩,
 ⟨some 6, .mem [(.val (.int .i64 0)), (.val (.int .i64 0))], none, []⟩,
 ⟨some 5, .mv (.tmp 12), none, []⟩,
 ⟨none, .store 2 (.tmp 6) (.tmp 14), none, []⟩] [12, 13, 14])
 (.seq
 (.region false [⟨some 15, .mv (.tmp 1), none, []⟩,
 ⟨some 16, .fad 0 (.tmp 6), none, []⟩,
 ⟨some 17, .load1 (.tmp 16), none, []⟩,
 ⟨some 18, .fad 1 (.tmp 6), none, []⟩,
 ⟨some 19, .load1 (.tmp 18), none, []⟩,
 ⟨some 20, .call (.func 74) [(.tmp 15), (.tmp 17), (.tmp 19)], none, []⟩] [15, 16, 17, 18, 19])
 (.cond (.tmp 20)
 (.region false [⟨some 21, .mv (.tmp 4), none, []⟩,
 ⟨some 22, .mv (.tmp 5), none, []⟩,
 ⟨some 23, .call (.func 90) [(.tmp 21), (.tmp 22)], none, []⟩,
 ⟨some 4, .mv (.tmp 23), none, []⟩] [21, 22, 23])
 .skip))))
 (.region false [⟨some 24, .bin .add (.tmp 10) (.const (.int .i64 1)), none, []⟩,
 ⟨some 10, .mv (.tmp 24), none, []⟩] [24])))))))
 (.seq
 (.region false [⟨some 25, .mv (.tmp 4), none, []⟩,
 ⟨some 4, .mv (.tmp 25), none, []⟩] [25])
 .ret)))
set_option maxRecDepth 100000 in
theorem krecord_counting : IsCode Try.prog 84 26 crecord_counting [.tmp 4] :=
 ⟨Try.f84, _, [20, 11, 0, 2, 10, 9, 8, 1, 6, 4, 5], Try.func84, rfl, by decide, rfl, by kernel_rfl, by kernel_rfl⟩
def crecord_holds : ACode :=
 (.seq
 (.region false [⟨some 3, .box (.tmp 0), none, []⟩,
 ⟨some 6, .mv (.const (.bool false)), none, []⟩] [])
 (.seq
 (.region false [⟨some 11, .mv (.tmp 1), none, []⟩,
 ⟨some 12, .bin .add (.tmp 11) (.const (.int .i64 1)), none, []⟩,
 ⟨some 13, .mksl 1 1 [(.val (.bool false))] (.tmp 12) (.tmp 12), none, []⟩,
 ⟨some 7, .mem [(.val (.slice none 0 0))], none, []⟩,
 ⟨none, .store 1 (.tmp 7) (.tmp 13), none, []⟩] [11, 12, 13])
 (.seq
 (.seq
 (.region false [⟨some 14, .fad 0 (.tmp 3), none, []⟩,
 ⟨some 15, .load1 (.tmp 14), none, []⟩,
 ⟨some 16, .mv (.tmp 1), none, []⟩,
 ⟨some 17, .bin .add (.tmp 16) (.const (.int .i64 1)), none, []⟩,
 ⟨some 18, .slS 3 (.tmp 15) none (some (.tmp 17)), none, []⟩,
 ⟨some 19, .len_ (.tmp 18), none, []⟩,
 ⟨some 20, .mv (.const (.int .i64 0)), none, []⟩] [14, 15, 16, 17])
 (.block 0
 (.loop
 (.seq
 (.region false [⟨some 21, .bin .lss (.tmp 20) (.tmp 19), none, []⟩] [])
 (.seq
 (.cond (.tmp 21)
 .skip
 (.exit 0))
 (.seq
 (.block 1
 (.seq
 (.region false [⟨some 22, .mv (.tmp 20), none, []⟩,
 ⟨some 23, .iadS 3 (.tmp 18) (.tmp 20), none, []⟩,
 ⟨some 24, .loadN 3 (.tmp 23), none, []⟩,
 ⟨some 9, .mem [(.val (.slice none 0 0)), (.val (.slice none 0 0)), (.val (.bool false))], none, []⟩,
 ⟨some 8, .mv (.tmp 22), none, []⟩,
 ⟨none, .store 3 (.tmp 9) (.tmp 24), none, []⟩] [22, 23, 24])
 (.seq
 (.region true [⟨some 25, .fad 0 (.tmp 9), none, []⟩,
 ⟨some 26, .load1 (.tmp 25), none, [0]⟩,
 ⟨some 27, .mkfn 120 [] [(.tmp 7)], none, []⟩,
 ⟨some 28, .call (.func 119) [(.tmp 26), (.tmp 27)], none, [1, 0, 2]⟩,
 ⟨some 29, .fad 1 (.tmp 9), none, []⟩,
 ⟨some 30, .load1 (.tmp 29), none, [4]⟩,
 ⟨some 31, .mv (.tmp 2), none, []⟩,
 ⟨some 32, .mkfn 89 [(.tmp 31)] [], none, [6]⟩,
 ⟨some 33, .call (.func 119) [(.tmp 30), (.tmp 32)], none, [5, 4, 7, 6, 3, 1, 0, 2]⟩,
 ⟨some 34, .app 1 1 (.tmp 28) (.tmp 33), none, [3, 1, 0, 2, 8, 5, 4, 7, 6]⟩,
 ⟨some 10, .mv (.tmp 34), none, [9, 3, 1, 0, 2, 8, 5, 4, 7, 6]⟩] [25, 26, 27, 28, 29, 30, 31, 32, 33, 34])
 (.seq
 (.region false [⟨some 35, .fad 2 (.tmp 9), none, []⟩,
 ⟨some 36, .load1 (.tmp 35), none, []⟩] [35])
 (.cond (.tmp 36)
 (.region true [⟨some 37, .load1 (.tmp 7), none, []⟩,
 ⟨some 38, .mv (.tmp 8), none, []⟩,
 ⟨some 39, .mv (.tmp 10), none, []⟩,
 ⟨some 40, .call (.func 121) [(.tmp 39), (.const (.bool true))], none, [2]⟩,
 ⟨some 41, .iadS 1 (.tmp 37) (.tmp 38), none, [0, 1, 2, 3]⟩,
 ⟨none, .store 1 (.tmp 41) (.tmp 40), none, [4, 0, 1, 2, 3]⟩] [37, 38, 39, 40, 41])
 (.region true [⟨some 42, .load1 (.tmp 7), none, []⟩,
 ⟨some 43, .mv (.tmp 8), none, []⟩,
 ⟨some 44, .mv (.tmp 10), none, []⟩,
 ⟨some 45, .call (.func 121) [(.tmp 44), (.const (.bool false))], none, [2]⟩,
 ⟨some 46, .un .not (.tmp 45), none, [3, 2]⟩,
 ⟨some 47, .iadS 1 (.tmp 42) (.tmp 43), none, [0, 1, 2, 3, 4]⟩,
 ⟨none, .store 1 (.tmp 47) (.tmp 46), none, [5, 0, 1, 2, 3, 4]⟩] [42, 43, 44, 45, 46, 47]))))))
 (.region false [⟨some 48, .bin .add (.tmp 20) (.const (.int .i64 1)), none, []⟩,
 ⟨some 20, .mv (.tmp 48), none, []⟩] [48])))))))
 (.seq
 (.region false [⟨some 49, .load1 (.tmp 7), none, []⟩,
 ⟨some 50, .mv (.tmp 1), none, []⟩,
 ⟨some 51, .iadS 1 (.tmp 49) (.tmp 50), none, []⟩,
 ⟨some 52, .load1 (.tmp 51), none, []⟩,
 ⟨some 6, .mv (.tmp 52), none, []⟩] [49, 50, 51, 52])
 .ret))))
set_option maxRecDepth 100000 in
theorem krecord_holds : IsCode Try.prog 83 53 crecord_holds [.tmp 6] :=
 ⟨Try.f83, _, [36, 21, 0, 1, 3, 20, 19, 18, 9, 7, 2, 8, 10, 6], Try.func83, rfl, by decide, rfl, by kernel_rfl, by kernel_rfl⟩
def crecord_holds_S1 : ACode :=
 (.seq
 (.region false [⟨some 3, .mv (.const (.bool false)), none, []⟩] [])
 (.seq
 (.region false [⟨some 4, .load1 (.tmp 1), none, []⟩,
 ⟨some 5, .mv (.tmp 0), none, []⟩,
 ⟨some 6, .iadS 1 (.tmp 4) (.tmp 5), none, []⟩,
 ⟨some 7, .load1 (.tmp 6), none, []⟩,
 ⟨some 3, .mv (.tmp 7), none, []⟩] [4, 5, 6, 7])
 .ret))
set_option maxRecDepth 100000 in
theorem krecord_holds_S1 : IsCode Try.prog 120 8 crecord_holds_S1 [.tmp 3] :=
 ⟨Try.f120, _, [1, 0, 3], Try.func120, rfl, by decide, rfl, by kernel_rfl, by kernel_rfl⟩
def crecord_pick : ACode :=
 (.seq
 (.region false [⟨some 4, .mv (.const (.slice none 0 0)), none, []⟩] [])
 (.seq
 (.seq
 (.region false [⟨some 7, .mv (.tmp 0), none, []⟩,
 ⟨some 8, .len_ (.tmp 7), none, []⟩,
 ⟨some 9, .mv (.const (.int .i64 0)), none, []⟩] [])
 (.block 0
 (.loop
 (.seq
 (.region false [⟨some 10, .bin .lss (.tmp 9) (.tmp 8), none, []⟩] [])
 (.seq
 (.cond (.tmp 10)
 .skip
 (.exit 0))
 (.seq
 (.block 1
 (.seq
 (.region false [⟨some 11, .iadS 1 (.tmp 7) (.tmp 9), none, []⟩,
 ⟨some 12, .load1 (.tmp 11), none, []⟩,
 ⟨some 6, .mv (.tmp 12), none, []⟩] [11, 12])
 (.region false [⟨some 13, .mv (.tmp 4), none, []⟩,
 ⟨some 14, .mv (.tmp 1), none, []⟩,
 ⟨some 15, .mv (.tmp 6), none, []⟩,
 ⟨some 16, .call (.tmp 14) [(.tmp 15)], none, []⟩,
 ⟨some 17, .buildSl 1 1 [(.val (.bool false))] [(0, 1, (.tmp 16))], none, []⟩,
 ⟨some 18, .app 1 1 (.tmp 13) (.tmp 17), none, []⟩,
 ⟨some 4, .mv (.tmp 18), none, []⟩] [13, 14, 15, 16, 17, 18])))
 (.region false [⟨some 19, .bin .add (.tmp 9) (.const (.int .i64 1)), none, []⟩,
 ⟨some 9, .mv (.tmp 19), none, []⟩] [19])))))))
 (.seq
 (.region false [⟨some 20, .mv (.tmp 4), none, []⟩,
 ⟨some 4, .mv (.tmp 20), none, []⟩] [20])
 .ret)))
set_option maxRecDepth 100000 in
theorem krecord_pick : IsCode Try.prog 119 21 crecord_pick [.tmp 4] :=
 ⟨Try.f119, _, [10, 0, 9, 8, 7, 4, 1, 6], Try.func119, rfl, by decide, rfl, by kernel_rfl, by kernel_rfl⟩
def crecord_Until : ACode :=
 (.seq
 (.region false [⟨some 3, .box (.tmp 0), none, []⟩,
 ⟨some 6, .mv (.const (.int .i64 0)), none, []⟩,
 ⟨some 7, .mv (.const (.int .i64 0)), none, []⟩] [])
 (.seq
 (.seq
 (.region false [⟨some 10, .loadN 2 (.tmp 3), none, []⟩,
 ⟨some 11, .mv (.tmp 1), none, []⟩,
 ⟨some 12, .mv (.tmp 2), none, []⟩,
 ⟨some 13, .call (.func 82) [(.tmp 10), (.tmp 11), (.tmp 12)], none, []⟩,
 ⟨some 8, .mv (.tmp 13), none, []⟩] [10, 11, 12, 13])
 (.seq
 (.region false [⟨some 14, .mv (.tmp 8), none, []⟩,
 ⟨some 15, .bin .neq (.tmp 14) (.const (.int .i64 0)), none, []⟩] [14])
 (.cond (.tmp 15)
 (.seq
 (.region false [⟨some 16, .mv (.tmp 8), none, []⟩,
 ⟨some 6, .mv (.const (.int .i64 0)), none, []⟩,
 ⟨some 7, .mv (.tmp 16), none, []⟩] [16])
 .ret)
 .skip)))
 (.seq
 (.region false [⟨some 17, .mv (.tmp 2), none, []⟩,
 ⟨some 9, .mv (.tmp 17), none, []⟩] [17])
 (.seq
 (.block 0
 (.loop
 (.seq
 (.seq
 (.region true [⟨some 18, .mv (.tmp 9), none, []⟩,
 ⟨some 19, .bin .leq (.tmp 18) (.const (.int .i64 2000)), none, [0]⟩,
 ⟨some 20, .mv (.tmp 19), none, [1, 0]⟩,
 ⟨some 21, .loadN 2 (.tmp 3), (some (some 20, true)), [2, 1, 0]⟩,
 ⟨some 22, .mv (.tmp 1), (some (some 20, true)), [2, 1, 0]⟩,
 ⟨some 23, .loadN 2 (.tmp 3), (some (some 20, true)), [2, 1, 0]⟩,
 ⟨some 24, .mv (.tmp 9), (some (some 20, true)), [2, 1, 0]⟩,
 ⟨some 25, .call (.func 84) [(.tmp 23), (.tmp 24)], (some (some 20, true)), [5, 2, 1, 0, 6]⟩,
 ⟨some 26, .call (.func 83) [(.tmp 21), (.tmp 22), (.tmp 25)], (some (some 20, true)), [3, 2, 1, 0, 4, 7, 5, 6]⟩,
 ⟨some 27, .pick (.tmp 20) (.tmp 26) (.const (.bool false)), none, [2, 1, 0, 8, 3, 4, 7, 5, 6]⟩] [18, 19, 20, 21, 22, 23, 24, 25, 26])
 (.cond (.tmp 27)
 .skip
 (.exit 0)))
 (.block 1
 (.region false [⟨some 28, .mv (.tmp 9), none, []⟩,
 ⟨some 29, .bin .add (.tmp 28) (.const (.int .i64 1)), none, []⟩,
 ⟨some 9, .mv (.tmp 29), none, []⟩] [28, 29])))))
 (.seq
 (.seq
 (.region false [⟨some 30, .mv (.tmp 9), none, []⟩,
 ⟨some 31, .mv (.tmp 2), none, []⟩,
 ⟨some 32, .bin .eql (.tmp 30) (.tmp 31), none, []⟩] [30, 31])
 (.cond (.tmp 32)
 (.seq
 (.region false [⟨some 6, .mv (.const (.int .i64 0)), none, []⟩,
 ⟨some 7, .mv (.const (.int .i64 3)), none, []⟩] [])
 .ret)
 .skip))
 (.seq
 (.region false [⟨some 33, .mv (.tmp 9), none, []⟩,
 ⟨some 34, .bin .sub (.tmp 33) (.const (.int .i64 1)), none, []⟩,
 ⟨some 6, .mv (.tmp 34), none, []⟩,
 ⟨some 7, .mv (.const (.int .i64 0)), none, []⟩] [33, 34])
 .ret))))))
set_option maxRecDepth 100000 in
theorem krecord_Until : IsCode Try.prog 37 35 crecord_Until [.tmp 6, .tmp 7] :=
 ⟨Try.f37, _, [32, 27, 15, 0, 3, 1, 2, 8, 9, 6, 7], Try.func37, rfl, by decide, rfl, by kernel_rfl, by kernel_rfl⟩
def cslices_Contains_L_L_Jbool_Kbool_J : ACode :=
 (.seq
 (.region false [⟨some 4, .mv (.const (.bool false)), none, []⟩] [])
 (.seq
 (.region false [⟨some 5, .mv (.tmp 0), none, []⟩,
 ⟨some 6, .mv (.tmp 1), none, []⟩,
 ⟨some 7, .call (.func 149) [(.tmp 5), (.tmp 6)], none, []⟩,
 ⟨some 8, .bin .geq (.tmp 7) (.const (.int .i64 0)), none, []⟩,
 ⟨some 4, .mv (.tmp 8), none, []⟩] [5, 6, 7, 8])
 .ret))
set_option maxRecDepth 100000 in
theorem kslices_Contains_L_L_Jbool_Kbool_J : IsCode Try.prog 121 9 cslices_Contains_L_L_Jbool_Kbool_J [.tmp 4] :=
 ⟨Try.f121, _, [0, 1, 4], Try.func121, rfl, by decide, rfl, by kernel_rfl, by kernel_rfl⟩
def cslices_Index_L_L_Jbool_Kbool_J : ACode :=
 (.seq
 (.region false [⟨some 4, .mv (.const (.int .i64 0)), none, []⟩] [])
 (.seq
 (.seq
 (.region false [⟨some 6, .mv (.tmp 0), none, []⟩,
 ⟨some 7, .len_ (.tmp 6), none, []⟩,
 ⟨some 8, .mv (.const (.int .i64 0)), none, []⟩] [6])
 (.block 0
 (.loop
 (.seq
 (.region false [⟨some 9, .bin .lss (.tmp 8) (.tmp 7), none, []⟩] [])
 (.seq
 (.cond (.tmp 9)
 .skip
 (.exit 0))
 (.seq
 (.block 1
 (.seq
 (.region false [⟨some 10, .mv (.tmp 8), none, []⟩,
 ⟨some 5, .mv (.tmp 10), none, []⟩] [10])
 (.seq
 (.region false [⟨some 11, .mv (.tmp 1), none, []⟩,
 ⟨some 12, .mv (.tmp 0), none, []⟩,
 ⟨some 13, .mv (.tmp 5), none, []⟩,
 ⟨some 14, .iadS 1 (.tmp 12) (.tmp 13), none, []⟩,
 ⟨some 15, .load1 (.tmp 14), none, []⟩,
 ⟨some 16, .eqb false (.tmp 11) (.tmp 15), none, []⟩] [11, 12, 13, 14, 15])
 (.cond (.tmp 16)
 (.seq
 (.region false [⟨some 17, .mv (.tmp 5), none, []⟩,
 ⟨some 4, .mv (.tmp 17), none, []⟩] [17])
 .ret)
 .skip))))
 (.region false [⟨some 18, .bin .add (.tmp 8) (.const (.int .i64 1)), none, []⟩,
 ⟨some 8, .mv (.tmp 18), none, []⟩] [18])))))))
 (.seq
 (.region false [⟨some 4, .mv (.const (.int .i64 (-1))), none, []⟩] [])
 .ret)))
set_option maxRecDepth 100000 in
theorem kslices_Index_L_L_Jbool_Kbool_J : IsCode Try.prog 149 19 cslices_Index_L_L_Jbool_Kbool_J [.tmp 4] :=
 ⟨Try.f149, _, [16, 9, 0, 8, 7, 1, 5, 4], Try.func149, rfl, by decide, rfl, by kernel_rfl, by kernel_rfl⟩
def claw12_works : ACode :=
 (.seq
 (.region false [⟨some 0, .mv (.const (.bool false)), none, []⟩] [])
 (.seq
 (.region false [⟨some 10, .call (.func 64) [], none, []⟩,
 ⟨some 9, .mv (.tmp 10), none, []⟩,
 ⟨some 11, .ext (.tmp 9) 0, none, []⟩,
 ⟨some 12, .ext (.tmp 9) 1, none, []⟩,
 ⟨some 13, .ext (.tmp 9) 2, none, []⟩,
 ⟨some 1, .mem [(.val (.int .i64 0)), (.val (.int .i64 0)), (.val (.int .i64 0)), (.val (.int .i64 0)), (.val (.int .i64 0)), (.val (.slice none 0 0))], none, []⟩,
 ⟨some 3, .mem [(.val (.slice none 0 0)), (.val (.slice none 0 0))], none, []⟩,
 ⟨none, .store 6 (.tmp 1) (.tmp 11), none, []⟩,
 ⟨some 2, .mv (.tmp 12), none, []⟩,
 ⟨none, .store 2 (.tmp 3) (.tmp 13), none, []⟩] [10, 9, 11, 12, 13])
 (.seq
 (.region false [⟨some 15, .loadN 6 (.tmp 1), none, []⟩,
 ⟨some 16, .mv (.tmp 2), none, []⟩,
 ⟨some 17, .call (.func 20) [(.tmp 15), (.tmp 16), (.const (.int .i64 0))], none, []⟩,
 ⟨some 14, .mv (.tmp 17), none, []⟩,
 ⟨some 18, .ext (.tmp 14) 0, none, []⟩,
 ⟨some 19, .ext (.tmp 14) 1, none, []⟩,
 ⟨some 20, .ext (.tmp 14) 2, none, []⟩,
 ⟨some 4, .mv (.tmp 18), none, []⟩,
 ⟨some 5, .mv (.tmp 19), none, []⟩,
 ⟨some 6, .mv (.tmp 20), none, []⟩] [15, 16, 17, 14, 18, 19, 20])
 (.seq
 (.region false [⟨some 22, .loadN 2 (.tmp 3), none, []⟩,
 ⟨some 23, .call (.func 37) [(.tmp 22), (.const (.int .i64 1)), (.const (.int .i64 5))], none, []⟩,
 ⟨some 21, .mv (.tmp 23), none, []⟩,
 ⟨some 24, .ext (.tmp 21) 0, none, []⟩,
 ⟨some 25, .ext (.tmp 21) 1, none, []⟩,
 ⟨some 7, .mv (.tmp 24), none, []⟩,
 ⟨some 8, .mv (.tmp 25), none, []⟩] [22, 23, 21, 24, 25])
 (.seq
 (.region false [⟨some 26, .mv (.tmp 6), none, []⟩,
 ⟨some 27, .bin .eql (.tmp 26) (.const (.int .i64 0)), none, []⟩,
 ⟨some 28, .mv (.tmp 27), none, []⟩,
 ⟨some 29, .mv (.tmp 8), (some (some 28, true)), []⟩,
 ⟨some 30, .bin .eql (.tmp 29) (.const (.int .i64 0)), (some (some 28, true)), []⟩,
 ⟨some 31, .pick (.tmp 28) (.tmp 30) (.const (.bool false)), none, []⟩,
 ⟨some 32, .mv (.tmp 31), none, []⟩,
 ⟨some 33, .mv (.tmp 4), (some (some 32, true)), []⟩,
 ⟨some 34, .bin .eql (.tmp 33) (.const (.int .i64 2)), (some (some 32, true)), []⟩,
 ⟨some 35, .pick (.tmp 32) (.tmp 34) (.const (.bool false)), none, []⟩,
 ⟨some 36, .mv (.tmp 35), none, []⟩,
 ⟨some 37, .mv (.tmp 5), (some (some 36, true)), []⟩,
 ⟨some 38, .bin .eql (.tmp 37) (.const (.int .i64 26)), (some (some 36, true)), []⟩,
 ⟨some 39, .pick (.tmp 36) (.tmp 38) (.const (.bool false)), none, []⟩,
 ⟨some 40, .mv (.tmp 39), none, []⟩,
 ⟨some 41, .mv (.tmp 7), (some (some 40, true)), []⟩,
 ⟨some 42, .bin .eql (.tmp 41) (.const (.int .i64 30)), (some (some 40, true)), []⟩,
 ⟨some 43, .pick (.tmp 40) (.tmp 42) (.const (.bool false)), none, []⟩,
 ⟨some 0, .mv (.tmp 43), none, []⟩] [26, 27, 28, 29, 30, 31, 32, 33, 34, 35, 36, 37, 38, 39, 40, 41, 42, 43])
 .ret)))))
set_option maxRecDepth 100000 in
theorem klaw12_works : IsCode Try.prog 16 44 claw12_works [.tmp 0] :=
 ⟨Try.f16, _, [1, 2, 3, 6, 8, 4, 5, 7, 0], Try.func16, rfl, by decide, rfl, by kernel_rfl, by kernel_rfl⟩
def claw12_Example : ACode :=
 (.seq
 (.region false [⟨some 0, .mem [(.val (.int .i64 0)), (.val (.int .i64 0)), (.val (.int .i64 0)), (.val (.int .i64 0)), (.val (.int .i64 0)), (.val (.slice none 0 0))], none, []⟩,
 ⟨some 1, .mv (.const (.slice none 0 0)), none, []⟩,
 ⟨some 2, .mem [(.val (.slice none 0 0)), (.val (.slice none 0 0))], none, []⟩] [])
 (.seq
 (.region false [⟨some 5, .build [(.val (.int .i64 0)), (.val (.int .i64 0)), (.val (.int .i64 0)), (.val (.int .i64 0))] [(0, 1, (.const (.int .i64 100))), (1, 1, (.const (.int .i64 200))), (2, 1, (.const (.int .i64 300))), (3, 1, (.const (.int .i64 400)))], none, []⟩,
 ⟨some 6, .build [(.val (.int .i64 0)), (.val (.int .i64 0)), (.val (.int .i64 0)), (.val (.bool false)), (.val (.int .i64 0)), (.val (.int .i64 0)), (.val (.int .i64 0)), (.val (.int .i64 0)), (.val (.int .i64 0))] [(0, 1, (.const (.int .i64 1))), (2, 1, (.const (.int .i64 8))), (3, 1, (.const (.bool true))), (4, 1, (.const (.int .i64 1))), (5, 1, (.const (.int .i64 2))), (6, 1, (.const (.int .i64 10))), (7, 1, (.const (.int .i64 1)))], none, []⟩,
 ⟨some 7, .build [(.val (.int .i64 0)), (.val (.int .i64 0)), (.val (.int .i64 0)), (.val (.bool false)), (.val (.int .i64 0)), (.val (.int .i64 0)), (.val (.int .i64 0)), (.val (.int .i64 0)), (.val (.int .i64 0))] [(0, 1, (.const (.int .i64 2))), (1, 1, (.const (.int .i64 4))), (2, 1, (.const (.int .i64 3))), (4, 1, (.const (.int .i64 5))), (5, 1, (.const (.int .i64 1))), (7, 1, (.const (.int .i64 2))), (8, 1, (.const (.int .i64 1)))], none, []⟩,
 ⟨some 8, .build [(.val (.int .i64 0)), (.val (.int .i64 0)), (.val (.int .i64 0)), (.val (.bool false)), (.val (.int .i64 0)), (.val (.int .i64 0)), (.val (.int .i64 0)), (.val (.int .i64 0)), (.val (.int .i64 0))] [(0, 1, (.const (.int .i64 3))), (2, 1, (.const (.int .i64 1))), (4, 1, (.const (.int .i64 1))), (5, 1, (.const (.int .i64 1))), (7, 1, (.const (.int .i64 1)))], none, []⟩,
 ⟨some 9, .buildSl 9 3 [(.val (.int .i64 0)), (.val (.int .i64 0)), (.val (.int .i64 0)), (.val (.bool false)), (.val (.int .i64 0)), (.val (.int .i64 0)), (.val (.int .i64 0)), (.val (.int .i64 0)), (.val (.int .i64 0)), (.val (.int .i64 0)), (.val (.int .i64 0)), (.val (.int .i64 0)), (.val (.bool false)), (.val (.int .i64 0)), (.val (.int .i64 0)), (.val (.int .i64 0)), (.val (.int .i64 0)), (.val (.int .i64 0)), (.val (.int .i64 0)), (.val (.int .i64 0)), (.val (.int .i64 0)), (.val (.bool false)), (.val (.int .i64 0)), (.val (.int .i64 0)), (.val (.int .i64 0)), (.val (.int .i64 0)), (.val (.int .i64 0))] [(0, 9, (.tmp 6)), (9, 9, (.tmp 7)), (18, 9, (.tmp 8))], none, []⟩,
 ⟨some 10, .build [(.val (.int .i64 0)), (.val (.int .i64 0)), (.val (.int .i64 0)), (.val (.int .i64 0)), (.val (.int .i64 0)), (.val (.slice none 0 0))] [(0, 1, (.const (.int .i64 4))), (1, 4, (.tmp 5)), (5, 1, (.tmp 9))], none, []⟩,
 ⟨some 3, .mem [(.val (.int .i64 0)), (.val (.int .i64 0)), (.val (.int .i64 0)), (.val (.int .i64 0)), (.val (.int .i64 0)), (.val (.slice none 0 0))], none, []⟩,
 ⟨none, .store 6 (.tmp 3) (.tmp 10), none, []⟩] [5, 6, 7, 8, 9, 10])
 (.seq
 (.region false [⟨some 11, .buildSl 1 2 [(.val (.int .i64 0)), (.val (.int .i64 0))] [(0, 1, (.const (.int .i64 0))), (1, 1, (.const (.int .i64 1)))], none, []⟩,
 ⟨some 12, .build [(.val (.slice none 0 0)), (.val (.slice none 0 0)), (.val (.bool false))] [(1, 1, (.tmp 11))], none, []⟩,
 ⟨some 13, .buildSl 1 1 [(.val (.int .i64 0))] [(0, 1, (.const (.int .i64 0)))], none, []⟩,
 ⟨some 14, .buildSl 1 1 [(.val (.int .i64 0))] [(0, 1, (.const (.int .i64 2)))], none, []⟩,
 ⟨some 15, .build [(.val (.slice none 0 0)), (.val (.slice none 0 0)), (.val (.bool false))] [(0, 1, (.tmp 13)), (1, 1, (.tmp 14)), (2, 1, (.const (.bool true)))], none, []⟩,
 ⟨some 16, .buildSl 1 2 [(.val (.int .i64 0)), (.val (.int .i64 0))] [(0, 1, (.const (.int .i64 0))), (1, 1, (.const (.int .i64 1)))], none, []⟩,
 ⟨some 17, .build [(.val (.slice none 0 0)), (.val (.slice none 0 0)), (.val (.bool false))] [(0, 1, (.tmp 16))], none, []⟩,
 ⟨some 18, .buildSl 3 3 [(.val (.slice none 0 0)), (.val (.slice none 0 0)), (.val (.bool false)), (.val (.slice none 0 0)), (.val (.slice none 0 0)), (.val (.bool false)), (.val (.slice none 0 0)), (.val (.slice none 0 0)), (.val (.bool false))] [(0, 3, (.tmp 12)), (3, 3, (.tmp 15)), (6, 3, (.tmp 17))], none, []⟩,
 ⟨some 19, .build [(.val (.int .i64 0)), (.val (.int .i64 0))] [(1, 1, (.const (.int .i64 10)))], none, []⟩,
 ⟨some 20, .build [(.val (.int .i64 0)), (.val (.int .i64 0))] [(0, 1, (.const (.int .i64 5))), (1, 1, (.const (.int .i64 20)))], none, []⟩,
 ⟨some 21, .build [(.val (.int .i64 0)), (.val (.int .i64 0))] [(0, 1, (.const (.int .i64 8))), (1, 1, (.const (.int .i64 30)))], none, []⟩,
 ⟨some 22, .buildSl 2 3 [(.val (.int .i64 0)), (.val (.int .i64 0)), (.val (.int .i64 0)), (.val (.int .i64 0)), (.val (.int .i64 0)), (.val (.int .i64 0))] [(0, 2, (.tmp 19)), (2, 2, (.tmp 20)), (4, 2, (.tmp 21))], none, []⟩,
 ⟨some 23, .build [(.val (.slice none 0 0)), (.val (.slice none 0 0))] [(0, 1, (.tmp 18)), (1, 1, (.tmp 22))], none, []⟩,
 ⟨some 4, .mem [(.val (.slice none 0 0)), (.val (.slice none 0 0))], none, []⟩,
 ⟨none, .store 2 (.tmp 4) (.tmp 23), none, []⟩] [11, 12, 13, 14, 15, 16, 17, 18, 19, 20, 21, 22, 23])
 (.seq
 (.region true [⟨some 24, .loadN 6 (.tmp 3), none, []⟩,
 ⟨some 25, .buildSl 1 4 [(.val (.int .i64 0)), (.val (.int .i64 0)), (.val (.int .i64 0)), (.val (.int .i64 0))] [(0, 1, (.const (.int .i64 100))), (1, 1, (.const (.int .i64 4))), (2, 1, (.const (.int .i64 0))), (3, 1, (.const (.int .i64 0)))], none, []⟩,
 ⟨some 26, .buildSl 1 4 [(.val (.int .i64 0)), (.val (.int .i64 0)), (.val (.int .i64 0)), (.val (.int .i64 0))] [(0, 1, (.const (.int .i64 200))), (1, 1, (.const (.int .i64 254))), (2, 1, (.const (.int .i64 48))), (3, 1, (.const (.int .i64 1)))], none, []⟩,
 ⟨some 27, .buildSl 1 4 [(.val (.int .i64 0)), (.val (.int .i64 0)), (.val (.int .i64 0)), (.val (.int .i64 0))] [(0, 1, (.const (.int .i64 300))), (1, 1, (.const (.int .i64 6))), (2, 1, (.const (.int .i64 0))), (3, 1, (.const (.int .i64 0)))], none, []⟩,
 ⟨some 28, .buildSl 1 3 [(.val (.slice none 0 0)), (.val (.slice none 0 0)), (.val (.slice none 0 0))] [(0, 1, (.tmp 25)), (1, 1, (.tmp 26)), (2, 1, (.tmp 27))], none, [1, 2, 3]⟩,
 ⟨some 29, .loadN 2 (.tmp 4), none, []⟩,
 ⟨none, .store 6 (.tmp 0) (.tmp 24), none, [0]⟩,
 ⟨some 1, .mv (.tmp 28), none, [4, 1, 2, 3, 6, 0]⟩,
 ⟨none, .store 2 (.tmp 2) (.tmp 29), none, [5, 7, 4, 1, 2, 3, 6, 0]⟩] [24, 25, 26, 27, 28, 29])
 .ret))))
set_option maxRecDepth 100000 in
theorem klaw12_Example : IsCode Try.prog 64 30 claw12_Example [.cellN 0 6, .tmp 1, .cellN 2 2] :=
 ⟨Try.f64, _, [3, 4, 0, 2, 1], Try.func64, rfl, by decide, rfl, by kernel_rfl, by kernel_rfl⟩
end Go.Proofs.Ytdcodicoclecnaa
/- record: what a case must be. No conditions. -/
namespace Go.Proofs.Ytdcodicoclecnaa
open Go Go.RowKit Lift

theorem in_sp (S : Nat → Prop) (a b : Int) : In S (.agg [dI a, dI b]) := .agg _ (by intro d hd; simp at hd; rcases hd with rfl | rfl <;> exact .val _)
set_option maxRecDepth 100000 in
set_option maxHeartbeats 1000000 in
theorem swithin_ac (n a b : Int) : AC Try.prog 161 [dI n, dI a, dI b] [] [] (dB (wI n a b)) := by
  refine kspans_within.ac (n0 := 0) (by simp) ⟨.val _, .val _, .val _, trivial⟩ trivial rfl ?_
  unfold cspans_within wI
  cases q1 : decide (a ≤ n) <;> cases q2 : decide (n ≤ b)
  all_goals
    (repeat' (first | apply aw_seq | ((first | apply aw_skip | apply aw_exit); try simp only [thenQ, blockQ, if_true, if_false, Nat.reduceEqDiff, reduceCtorEq]) | apply aw_ret | apply aw_block | apply aw_condT rfl | apply aw_condF rfl | ((first | refine aw_region ?_ | refine ago_if (by omega) ?_ | skip); simp (disch := first | exact okY | omega) only [thenQ, List.map, dB, Bool.and_false, List.length, Nat.zero_add, Nat.reduceMul, envOf, dI, Nat.reduceAdd, ARun_none, AOpRun, aexec, FSt.ev, AGo_ok, St.app, putO, eput_c, Nat.reduceBEq, eput_n, cond_false, hups, ARun_nil, dropE_c, inL_n, dropE_n, St.F, ↓eget_h, eget_c, isSh, Bool.false_eq_true, ↓reduceIte, Option.map, abin, ge_iff_le, q1, ARun_some, AG_ft, beq_self_eq_true, cond_true, inL_c, Bool.and_true, AG_tt, q2])))
    all_goals (refine end_q [] [] ?_ ?_ <;> repeat' (first | exact trivial | exact vr_val _))
def spVB (x : Int × Int) : Bool := wI x.1 (-1000000) x.2 && decide (x.2 ≤ 1000000)
set_option maxRecDepth 100000 in
set_option maxHeartbeats 1000000 in
theorem svalid_ac (x : Int × Int) : AC Try.prog 165 [.agg [dI x.1, dI x.2]] [] [] (dB (spVB x)) := by
  refine kspans_valid.ac (n0 := 0) (by simp) ⟨in_sp _ _ _, trivial⟩ trivial rfl ?_
  unfold cspans_valid spVB
  cases q1 : wI x.1 (-1000000) x.2 <;> cases q2 : decide (x.2 ≤ 1000000)
  all_goals
    have cw := swithin_ac x.1 (-1000000) x.2
    rw [q1] at cw
    (repeat' (first | apply aw_seq | ((first | apply aw_skip | apply aw_exit); try simp only [thenQ, blockQ, if_true, if_false, Nat.reduceEqDiff, reduceCtorEq]) | apply aw_ret | apply aw_block | apply aw_condT rfl | apply aw_condF rfl | ((first | refine aw_region ?_ | refine acall0 (cw) ?_ | refine ago_if (by omega) ?_ | skip); simp (disch := first | exact okY | omega) only [thenQ, List.map, Int.reduceNeg, dB, Bool.and_false, List.length, Nat.zero_add, Nat.reduceAdd, Nat.reduceMul, envOf, dI, ARun_none, AOpRun, aexec, D.isBot, FSt.ev, St.F, ↓eget_h, Bool.false_eq_true, Option.isSome, hget_n, or_self, ↓reduceIte, D.cells, AGo_ok, St.app, putO, eput_c, Nat.reduceBEq, eput_n, cond_false, hups, hput_n, ARun_nil, dropE_c, inL_n, dropE_n, eget_c, Option.map, run1, hget_c, beq_self_eq_true, cond_true, List.getElem?_cons_zero, List.getElem?_cons_succ, ARun_some, AG_ft, inL_c, Bool.and_true, AG_tt, isSh, abin, q2])))
    all_goals (refine end_q [] [] ?_ ?_ <;> repeat' (first | exact trivial | exact vr_val _))
set_option maxRecDepth 100000 in
set_option maxHeartbeats 1000000 in
theorem sspan1_ac (x : Int × Int) : AC Try.prog 164 [.agg [dI x.1, dI x.2]] [] [] (dB (!spVB x)) := by
  refine kspans_spanned_S1.ac (n0 := 0) (by simp) ⟨in_sp _ _ _, trivial⟩ trivial rfl ?_
  unfold cspans_spanned_S1
  (repeat' (first | apply aw_seq | ((first | apply aw_skip | apply aw_exit); try simp only [thenQ, blockQ, if_true, if_false, Nat.reduceEqDiff, reduceCtorEq]) | apply aw_ret | apply aw_block | apply aw_condT rfl | apply aw_condF rfl | ((first | refine aw_region ?_ | refine acall0 (svalid_ac x) ?_ | refine ago_if (by omega) ?_ | skip); simp (disch := first | exact okY | omega) only [thenQ, List.map, dB, List.length, Nat.zero_add, Nat.reduceAdd, Nat.reduceMul, envOf, dI, ARun_none, AOpRun, aexec, D.isBot, FSt.ev, St.F, ↓eget_h, Bool.false_eq_true, Option.isSome, hget_n, or_self, ↓reduceIte, D.cells, AGo_ok, St.app, putO, eput_c, Nat.reduceBEq, eput_n, cond_false, hups, hput_n, ARun_nil, dropE_c, inL_n, dropE_n, eget_c, hget_c, beq_self_eq_true, cond_true, Nat.reduceLeDiff, List.drop, List.take, inL_c])))
  all_goals (refine end_q [] [] ?_ ?_ <;> repeat' (first | exact trivial | exact vr_val _))
theorem sp_at (l : List (Int × Int)) (k : Nat) (h : k < l.length) : (sps l)[k]? = some [dI (l[k]?.getD (0, 0)).1, dI (l[k]?.getD (0, 0)).2] := by simp [sps, h, dI]
set_option maxRecDepth 100000 in
set_option maxHeartbeats 1000000 in
theorem ifsp_ac (F : FuncId) (p : Int × Int → Bool) (hF : ∀ x : Int × Int, AC Try.prog F [.agg [dI x.1, dI x.2]] [] [] (dB (p x))) (l : List (Int × Int)) (hl : l.length ≤ 1000000) : AC Try.prog 158 [.list (sps l), .fn F [] []] [] [] (dI (match l.findIdx? p with
    | some k => (k : Int)
    | none => -1)) := by
  refine kslices_IndexFunc_L_L_Japi_Span_Kapi_Span_J.ac (n0 := 0) (by simp) ⟨.list _, .fn _ _ _ (by simp) (by simp), trivial⟩ trivial rfl ?_
  unfold cslices_IndexFunc_L_L_Japi_Span_Kapi_Span_J
  (repeat' (first | apply aw_seq | ((first | apply aw_skip | apply aw_exit); try simp only [thenQ, blockQ, if_true, if_false, Nat.reduceEqDiff, reduceCtorEq]) | apply aw_ret | apply aw_block | apply aw_condT rfl | apply aw_condF rfl | ((first | refine aw_region ?_ | refine ago_if (by omega) ?_ | skip); simp (disch := first | exact okY | omega) only [thenQ, List.map, Int.reduceNeg, dI, List.length, Nat.zero_add, Nat.reduceMul, envOf, ARun_none, AOpRun, aexec, FSt.ev, AGo_ok, St.app, putO, eput_c, Nat.reduceBEq, eput_n, cond_false, hups, ARun_nil, dropE_c, inL_n, dropE_n, Nat.reduceAdd, St.F, ↓eget_h, eget_c, sps_len, inL_c, beq_self_eq_true, cond_true])))
  refine aw_loop (fun k : Nat => ⟨[(0, .list (sps l)), (1, .fn F [] []), (7, dI l.length), (8, dI k)], [], 400⟩) (fun k => k ≤ l.length ∧ ∀ j, j < k → p (l[j]?.getD (0, 0)) = false) (fun k => l.length - k) ⟨0, ⟨by omega, fun j hj => by omega⟩, ?_⟩ ?_
  · refine wk_q [] [] ?_ ?_ <;> repeat' (first | exact trivial | exact vr_val _ | exact vr_list _ | apply vr_fn | apply And.intro)
  rintro k ⟨hk, hin⟩
  by_cases hk2 : k < l.length
  · have g1 := sp_at l k hk2
    have hc := hF (l[k]?.getD (0, 0))
    cases he : p (l[k]?.getD (0, 0)) with
    | true =>
      have q : l.findIdx? p = some k := by
        rw [List.findIdx?_eq_some_iff_getElem]
        refine ⟨hk2, by have := he; simp [hk2] at this; simp [this], fun j hj => ?_⟩
        have := hin j hj
        simpa [show j < l.length by omega] using this
      rw [q]
      rw [he] at hc
      (have hg : (987654321 : Nat) - 987654321 = 0 := rfl; have hr := hg; repeat' (first | apply aw_seq | ((first | apply aw_skip | apply aw_exit); try simp only [thenQ, blockQ, if_true, if_false, Nat.reduceEqDiff, reduceCtorEq]) | apply aw_ret | apply aw_block | apply aw_condT rfl | apply aw_condF rfl | (refine aw_cond rfl (fun hg => ?_) (fun hg => ?_) <;> (try (have hq := hg; simp only [Bool.not_eq_true', Bool.not_eq_false', Bool.and_eq_true, Bool.and_eq_false_iff, Bool.or_eq_true, Bool.or_eq_false_iff, decide_eq_true_eq, decide_eq_false_iff_not, bne_iff_ne, beq_iff_eq, beq_eq_false_iff_ne, bne_eq_false_iff_eq, ne_eq, Int.not_lt, Int.not_le, Decidable.not_not] at hq)) <;> (try (have hr := hg; simp only [decide_eq_true_eq, decide_eq_false_iff_not] at hr)) <;> (try (exfalso; omega))) | ((first | refine aw_region ?_ | refine acall0 (hc) ?_ | refine ago_if (by omega) ?_ | skip); simp (disch := first | exact okY | omega) only [thenQ, dI, Int.reduceNeg, List.length, Nat.zero_add, Nat.reduceMul, Nat.reduceAdd, ARun_none, AOpRun, aexec, FSt.ev, St.F, eget_c, Nat.reduceBEq, ↓eget_h, cond_false, isSh, Bool.false_eq_true, ↓reduceIte, Option.map, abin, AGo_ok, St.app, putO, eput_c, eput_n, hups, List.map, ARun_nil, dropE_c, inL_n, dropE_n, hr, decide_true, inL_c, beq_self_eq_true, cond_true, Int.natCast_nonneg, sps_all, and_self, opt1, Int.toNat_natCast, g1, Nat.reduceLeDiff, List.take, dB, blockQ])))
      all_goals (refine end_q [] [] ?_ ?_ <;> repeat' (first | exact trivial | exact vr_val _))
    | false =>
      rw [he] at hc
      (have hg : (987654321 : Nat) - 987654321 = 0 := rfl; have hr := hg; repeat' (first | apply aw_seq | ((first | apply aw_skip | apply aw_exit); try simp only [thenQ, blockQ, if_true, if_false, Nat.reduceEqDiff, reduceCtorEq]) | apply aw_ret | apply aw_block | apply aw_condT rfl | apply aw_condF rfl | (refine aw_cond rfl (fun hg => ?_) (fun hg => ?_) <;> (try (have hq := hg; simp only [Bool.not_eq_true', Bool.not_eq_false', Bool.and_eq_true, Bool.and_eq_false_iff, Bool.or_eq_true, Bool.or_eq_false_iff, decide_eq_true_eq, decide_eq_false_iff_not, bne_iff_ne, beq_iff_eq, beq_eq_false_iff_ne, bne_eq_false_iff_eq, ne_eq, Int.not_lt, Int.not_le, Decidable.not_not] at hq)) <;> (try (have hr := hg; simp only [decide_eq_true_eq, decide_eq_false_iff_not] at hr)) <;> (try (exfalso; omega))) | ((first | refine aw_region ?_ | refine acall0 (hc) ?_ | refine ago_if (by omega) ?_ | skip); simp (disch := first | exact okY | omega) only [thenQ, dI, Int.reduceNeg, List.length, Nat.zero_add, Nat.reduceMul, Nat.reduceAdd, ARun_none, AOpRun, aexec, FSt.ev, St.F, eget_c, Nat.reduceBEq, ↓eget_h, cond_false, isSh, Bool.false_eq_true, ↓reduceIte, Option.map, abin, AGo_ok, St.app, putO, eput_c, eput_n, hups, List.map, ARun_nil, dropE_c, inL_n, dropE_n, hr, decide_true, inL_c, beq_self_eq_true, cond_true, Int.natCast_nonneg, sps_all, and_self, opt1, Int.toNat_natCast, g1, Nat.reduceLeDiff, List.take, dB, fits])))
      refine ⟨k + 1, ⟨by omega, fun j hj => ?_⟩, by omega, by refine wk_q [] [] ?_ ?_ <;> repeat' (first | exact trivial | exact vr_val _ | exact vr_list _ | apply vr_fn | apply And.intro)⟩
      rcases (by omega : j < k ∨ j = k) with h | rfl
      · exact hin j h
      · exact he
  · obtain rfl : k = l.length := by omega
    have q : l.findIdx? p = none := by
      rw [List.findIdx?_eq_none_iff]
      intro y hy
      obtain ⟨j, hj, rfl⟩ := List.getElem_of_mem hy
      have := hin j hj
      simp [hj] at this
      simp [this]
    rw [q]
    (have hg : (987654321 : Nat) - 987654321 = 0 := rfl; have hr := hg; repeat' (first | apply aw_seq | ((first | apply aw_skip | apply aw_exit); try simp only [thenQ, blockQ, if_true, if_false, Nat.reduceEqDiff, reduceCtorEq]) | apply aw_ret | apply aw_block | apply aw_condT rfl | apply aw_condF rfl | (refine aw_cond rfl (fun hg => ?_) (fun hg => ?_) <;> (try (have hq := hg; simp only [Bool.not_eq_true', Bool.not_eq_false', Bool.and_eq_true, Bool.and_eq_false_iff, Bool.or_eq_true, Bool.or_eq_false_iff, decide_eq_true_eq, decide_eq_false_iff_not, bne_iff_ne, beq_iff_eq, beq_eq_false_iff_ne, bne_eq_false_iff_eq, ne_eq, Int.not_lt, Int.not_le, Decidable.not_not] at hq)) <;> (try (have hr := hg; simp only [decide_eq_true_eq, decide_eq_false_iff_not] at hr)) <;> (try (exfalso; omega))) | ((first | refine aw_region ?_ | refine ago_if (by omega) ?_ | skip); simp (disch := first | exact okY | omega) only [thenQ, dI, Int.reduceNeg, List.length, Nat.zero_add, Nat.reduceMul, Nat.reduceAdd, ARun_none, AOpRun, aexec, FSt.ev, St.F, eget_c, Nat.reduceBEq, ↓eget_h, cond_false, isSh, Bool.false_eq_true, ↓reduceIte, Option.map, abin, AGo_ok, St.app, putO, eput_c, eput_n, hups, List.map, ARun_nil, dropE_c, inL_n, dropE_n, hr, decide_false])))
    all_goals (refine end_q [] [] ?_ ?_ <;> repeat' (first | exact trivial | exact vr_val _))
set_option maxRecDepth 100000 in
set_option maxHeartbeats 1000000 in
theorem cfsp_ac (F : FuncId) (p : Int × Int → Bool) (hF : ∀ x : Int × Int, AC Try.prog F [.agg [dI x.1, dI x.2]] [] [] (dB (p x))) (l : List (Int × Int)) (hl : l.length ≤ 1000000) : AC Try.prog 146 [.list (sps l), .fn F [] []] [] [] (dB (l.any p)) := by
  refine kslices_ContainsFunc_L_L_Japi_Span_Kapi_Span_J.ac (n0 := 0) (by simp) ⟨.list _, .fn _ _ _ (by simp) (by simp), trivial⟩ trivial rfl ?_
  unfold cslices_ContainsFunc_L_L_Japi_Span_Kapi_Span_J
  have hf := ifsp_ac F p hF l hl
  cases h : l.findIdx? p with
  | none =>
    have ha : l.any p = false := by
      rw [List.findIdx?_eq_none_iff] at h
      exact List.any_eq_false.2 fun x hx => by simp [h x hx]
    rw [h] at hf
    rw [ha]
    (repeat' (first | apply aw_seq | ((first | apply aw_skip | apply aw_exit); try simp only [thenQ, blockQ, if_true, if_false, Nat.reduceEqDiff, reduceCtorEq]) | apply aw_ret | apply aw_block | apply aw_condT rfl | apply aw_condF rfl | ((first | refine aw_region ?_ | refine acall0 (hf) ?_ | refine ago_if (by omega) ?_ | skip); simp (disch := first | exact okY | omega) only [thenQ, List.map, dB, List.length, Nat.zero_add, Nat.reduceMul, envOf, ARun_none, AOpRun, aexec, FSt.ev, AGo_ok, St.app, putO, eput_c, Nat.reduceBEq, eput_n, cond_false, hups, ARun_nil, dropE_c, inL_n, dropE_n, Nat.reduceAdd, St.F, ↓eget_h, eget_c, dI, Int.reduceNeg, isSh, Bool.false_eq_true, ↓reduceIte, Option.map, abin, beq_self_eq_true, cond_true, inL_c])))
    all_goals (refine end_q [] [] ?_ ?_ <;> repeat' (first | exact trivial | exact vr_val _))
  | some k =>
    have ha : l.any p = true := by
      rw [List.findIdx?_eq_some_iff_getElem] at h
      obtain ⟨hk, he, _⟩ := h
      exact List.any_eq_true.2 ⟨l[k], List.getElem_mem hk, he⟩
    rw [h] at hf
    rw [ha]
    have q : decide ((k : Int) ≥ 0) = true := decide_eq_true (by omega)
    (repeat' (first | apply aw_seq | ((first | apply aw_skip | apply aw_exit); try simp only [thenQ, blockQ, if_true, if_false, Nat.reduceEqDiff, reduceCtorEq]) | apply aw_ret | apply aw_block | apply aw_condT rfl | apply aw_condF rfl | ((first | refine aw_region ?_ | refine acall0 (hf) ?_ | refine ago_if (by omega) ?_ | skip); simp (disch := first | exact okY | omega) only [thenQ, List.map, dB, List.length, Nat.zero_add, Nat.reduceMul, envOf, ARun_none, AOpRun, aexec, FSt.ev, AGo_ok, St.app, putO, eput_c, Nat.reduceBEq, eput_n, cond_false, hups, ARun_nil, dropE_c, inL_n, dropE_n, Nat.reduceAdd, St.F, ↓eget_h, eget_c, dI, isSh, Bool.false_eq_true, ↓reduceIte, Option.map, abin, Int.natCast_nonneg, decide_true, beq_self_eq_true, cond_true, inL_c])))
    all_goals (refine end_q [] [] ?_ ?_ <;> repeat' (first | exact trivial | exact vr_val _))
set_option maxRecDepth 100000 in
set_option maxHeartbeats 1000000 in
theorem scheck_ac (x : Int × Int) : AC Try.prog 159 [.list (sps [x])] [] [] (dI (if spVB x = true then 0 else 10)) := by
  have h1 : AC Try.prog 162 [.list (sps [x])] [] [] (dI (if spVB x = true then 0 else 10)) := by
    refine kspans_spanned.ac (n0 := 0) (by simp) ⟨.list _, trivial⟩ trivial rfl ?_
    unfold cspans_spanned
    have hc := cfsp_ac 164 (fun x => !spVB x) sspan1_ac [x] (by simp)
    cases h : spVB x with
    | true =>
      rw [show ([x].any fun x => !spVB x) = false by simp [h]] at hc
      rw [if_pos rfl]
      (repeat' (first | apply aw_seq | ((first | apply aw_skip | apply aw_exit); try simp only [thenQ, blockQ, if_true, if_false, Nat.reduceEqDiff, reduceCtorEq]) | apply aw_ret | apply aw_block | apply aw_condT rfl | apply aw_condF rfl | ((first | refine aw_region ?_ | refine acall0 (hc) ?_ | refine ago_if (by omega) ?_ | skip); simp (disch := first | exact okY | omega) only [thenQ, List.map, dI, List.length, Nat.zero_add, Nat.reduceMul, envOf, ARun_none, AOpRun, aexec, FSt.ev, AGo_ok, St.app, putO, eput_c, Nat.reduceBEq, eput_n, cond_false, hups, ARun_nil, dropE_c, inL_n, dropE_n, Nat.reduceAdd, St.F, ↓eget_h, eget_c, dB, inL_c, beq_self_eq_true, cond_true])))
      all_goals (refine end_q [] [] ?_ ?_ <;> repeat' (first | exact trivial | exact vr_val _))
    | false =>
      rw [show ([x].any fun x => !spVB x) = true by simp [h]] at hc
      rw [if_neg (by simp)]
      (repeat' (first | apply aw_seq | ((first | apply aw_skip | apply aw_exit); try simp only [thenQ, blockQ, if_true, if_false, Nat.reduceEqDiff, reduceCtorEq]) | apply aw_ret | apply aw_block | apply aw_condT rfl | apply aw_condF rfl | ((first | refine aw_region ?_ | refine acall0 (hc) ?_ | refine ago_if (by omega) ?_ | skip); simp (disch := first | exact okY | omega) only [thenQ, List.map, dI, List.length, Nat.zero_add, Nat.reduceMul, envOf, ARun_none, AOpRun, aexec, FSt.ev, AGo_ok, St.app, putO, eput_c, Nat.reduceBEq, eput_n, cond_false, hups, ARun_nil, dropE_c, inL_n, dropE_n, Nat.reduceAdd, St.F, ↓eget_h, eget_c, dB, inL_c, beq_self_eq_true, cond_true])))
      all_goals (refine end_q [] [] ?_ ?_ <;> repeat' (first | exact trivial | exact vr_val _))
  refine kspans_Check.ac (n0 := 0) (by simp) ⟨.list _, trivial⟩ trivial rfl ?_
  unfold cspans_Check
  have cw : AC Try.prog 161 [dI 1, dI 1, dI 3] [] [] (dB true) := swithin_ac 1 1 3
  generalize (if spVB x = true then (0 : Int) else 10) = E at *
  (repeat' (first | apply aw_seq | ((first | apply aw_skip | apply aw_exit); try simp only [thenQ, blockQ, if_true, if_false, Nat.reduceEqDiff, reduceCtorEq]) | apply aw_ret | apply aw_block | apply aw_condT rfl | apply aw_condF rfl | ((first | refine aw_region ?_ | refine acall0 (cw) ?_ | refine acall0 (h1) ?_ | refine ago_if (by omega) ?_ | skip); simp (disch := first | exact okY | omega) only [thenQ, List.map, dI, List.length, Nat.zero_add, Nat.reduceMul, envOf, ARun_none, AOpRun, aexec, FSt.ev, AGo_ok, St.app, putO, eput_c, Nat.reduceBEq, eput_n, cond_false, hups, ARun_nil, dropE_c, inL_n, dropE_n, Nat.reduceAdd, St.F, ↓eget_h, eget_c, sps_len, cast_lit, dB, Bool.not_true, inL_c, beq_self_eq_true, cond_true])))
  all_goals (refine end_q [] [] ?_ ?_ <;> repeat' (first | exact trivial | exact vr_val _))
theorem spv_iff (x : Int × Int) : pfOk x ↔ (spVB x = true ∧ 0 ≤ x.1 ∧ x.2 ≤ 2000) := by
  unfold pfOk spVB wI
  simp only [Bool.and_eq_true, decide_eq_true_eq]
  omega
set_option maxRecDepth 100000 in
set_option maxHeartbeats 1000000 in
theorem proof_ac (x : Int × Int) : AC Try.prog 148 [.agg [dI x.1, dI x.2]] [] [] (dB (decide (pfOk x))) := by
  refine krecord_proof.ac (n0 := 0) (by simp) ⟨in_sp _ _ _, trivial⟩ trivial rfl ?_
  unfold crecord_proof
  have hs := scheck_ac x
  have hp : decide (pfOk x) = (spVB x && (decide (0 ≤ x.1) && decide (x.2 ≤ 2000))) := by
    rw [← Bool.decide_and]
    cases h : spVB x with
    | true => simp only [Bool.true_and]; exact decide_eq_decide.2 (by rw [spv_iff]; simp [h])
    | false => rw [Bool.false_and]; exact decide_eq_false (by rw [spv_iff]; simp [h])
  rw [hp]
  cases h : spVB x with
  | true =>
    rw [h, if_pos rfl] at hs
    cases q1 : decide (0 ≤ x.1) <;> cases q2 : decide (x.2 ≤ 2000)
    all_goals
      refine aw_seq (aw_region ?_)
      simp (disch := first | exact okY | omega) only [thenQ, List.map, dB, Bool.and_false, List.length, Nat.zero_add, Nat.reduceAdd, Nat.reduceMul, envOf, dI, ARun_none, AOpRun, aexec, D.isBot, FSt.ev, St.F, ↓eget_h, Bool.false_eq_true, Option.isSome, hget_n, or_self, ↓reduceIte, D.cells, AGo_ok, St.app, putO, eput_c, Nat.reduceBEq, eput_n, cond_false, hups, hput_n, ARun_nil, dropE_c, inL_n, dropE_n, Bool.and_true]
      refine aw_seq (aw_region ?_)
      simp (disch := first | exact okY | omega) only [thenQ, List.length, Nat.zero_add, Nat.reduceAdd, Nat.reduceMul, ARun_none, AOpRun, aexec, FSt.ev, St.F, eget_c, Nat.reduceBEq, ↓eget_h, cond_false, hget_c, beq_self_eq_true, hget_n, cond_true, Nat.reduceLeDiff, ↓reduceIte, List.drop, List.take, AGo_ok, St.app, putO, eput_c, eput_n, hups, List.map, Option.isSome, Bool.false_eq_true, Option.map, fillD, D.isBot, D.cells, ne_eq, not_true_eq_false, Nat.reduceGT, or_self, splice, List.nil_append, List.append_nil, hput_c, hput_n]
      refine acall hs [24] ⟨.vec 24 1 2 (scells [x]) (sps [x]) (by simp) rfl (Nat.le_of_ble_eq_true rfl) (sps_two _) rfl rfl (scells_in _), trivial⟩ (.inr (.val _)) (by intro g hg; simp at hg; subst hg; exact ⟨_, rfl⟩) (by kernel_rfl) ?_
      simp (disch := first | exact okY | omega) only [Nat.reduceAdd, St.app, putO, dI, eput_c, Nat.reduceBEq, eput_n, cond_false, hups, ARun_none, AOpRun, aexec, FSt.ev, St.F, eget_c, ↓eget_h, isSh, Bool.false_eq_true, ↓reduceIte, Option.map, abin, beq_self_eq_true, AGo_ok, List.map, ARun_some, AG_tt, Nat.zero_add, run1, hget_c, hget_n, cond_true, List.getElem?_cons_zero, ge_iff_le, q1, AG_ft, ARun_nil, dropE_c, inL_c, inL_n, dropE_n, List.getElem?_cons_succ, q2]
      (repeat' (first | apply aw_seq | ((first | apply aw_skip | apply aw_exit); try simp only [thenQ, blockQ, if_true, if_false, Nat.reduceEqDiff, reduceCtorEq]) | apply aw_ret | apply aw_block | apply aw_condT rfl | apply aw_condF rfl | ((first | refine aw_region ?_ | refine ago_if (by omega) ?_ | skip); fail)))
      all_goals (refine end_q [] [] ?_ ?_ <;> repeat' (first | exact trivial | exact vr_val _))
  | false =>
    rw [h, if_neg (by simp)] at hs
    refine aw_seq (aw_region ?_)
    simp (disch := first | exact okY | omega) only [thenQ, List.map, dB, Bool.false_and, List.length, Nat.zero_add, Nat.reduceAdd, Nat.reduceMul, envOf, dI, ARun_none, AOpRun, aexec, D.isBot, FSt.ev, St.F, ↓eget_h, Bool.false_eq_true, Option.isSome, hget_n, or_self, ↓reduceIte, D.cells, AGo_ok, St.app, putO, eput_c, Nat.reduceBEq, eput_n, cond_false, hups, hput_n, ARun_nil, dropE_c, inL_n, dropE_n]
    refine aw_seq (aw_region ?_)
    simp (disch := first | exact okY | omega) only [thenQ, List.length, Nat.zero_add, Nat.reduceAdd, Nat.reduceMul, ARun_none, AOpRun, aexec, FSt.ev, St.F, eget_c, Nat.reduceBEq, ↓eget_h, cond_false, hget_c, beq_self_eq_true, hget_n, cond_true, Nat.reduceLeDiff, ↓reduceIte, List.drop, List.take, AGo_ok, St.app, putO, eput_c, eput_n, hups, List.map, Option.isSome, Bool.false_eq_true, Option.map, fillD, D.isBot, D.cells, ne_eq, not_true_eq_false, Nat.reduceGT, or_self, splice, List.nil_append, List.append_nil, hput_c, hput_n]
    refine acall hs [24] ⟨.vec 24 1 2 (scells [x]) (sps [x]) (by simp) rfl (Nat.le_of_ble_eq_true rfl) (sps_two _) rfl rfl (scells_in _), trivial⟩ (.inr (.val _)) (by intro g hg; simp at hg; subst hg; exact ⟨_, rfl⟩) (by kernel_rfl) ?_
    simp (disch := first | exact okY | omega) only [Nat.reduceAdd, St.app, putO, dI, eput_c, Nat.reduceBEq, eput_n, cond_false, hups, ARun_none, AOpRun, aexec, FSt.ev, St.F, eget_c, ↓eget_h, isSh, Bool.false_eq_true, ↓reduceIte, Option.map, abin, Int.reduceBEq, AGo_ok, List.map, ARun_some, AG_ft, beq_self_eq_true, cond_true, ARun_nil, dropE_c, inL_c, inL_n, dropE_n]
    (repeat' (first | apply aw_seq | ((first | apply aw_skip | apply aw_exit); try simp only [thenQ, blockQ, if_true, if_false, Nat.reduceEqDiff, reduceCtorEq]) | apply aw_ret | apply aw_block | apply aw_condT rfl | apply aw_condF rfl | ((first | refine aw_region ?_ | refine ago_if (by omega) ?_ | skip); fail)))
    all_goals (refine end_q [] [] ?_ ?_ <;> repeat' (first | exact trivial | exact vr_val _))
set_option maxRecDepth 100000 in
set_option maxHeartbeats 1000000 in
theorem valid1_ac (x : Int × Int) : AC Try.prog 147 [.agg [dI x.1, dI x.2]] [] [] (dB (!decide (pfOk x))) := by
  refine krecord_valid_S1.ac (n0 := 0) (by simp) ⟨in_sp _ _ _, trivial⟩ trivial rfl ?_
  unfold crecord_valid_S1
  (repeat' (first | apply aw_seq | ((first | apply aw_skip | apply aw_exit); try simp only [thenQ, blockQ, if_true, if_false, Nat.reduceEqDiff, reduceCtorEq]) | apply aw_ret | apply aw_block | apply aw_condT rfl | apply aw_condF rfl | ((first | refine aw_region ?_ | refine acall0 (proof_ac x) ?_ | refine ago_if (by omega) ?_ | skip); simp (disch := first | exact okY | omega) only [thenQ, List.map, dB, List.length, Nat.zero_add, Nat.reduceAdd, Nat.reduceMul, envOf, dI, ARun_none, AOpRun, aexec, D.isBot, FSt.ev, St.F, ↓eget_h, Bool.false_eq_true, Option.isSome, hget_n, or_self, ↓reduceIte, D.cells, AGo_ok, St.app, putO, eput_c, Nat.reduceBEq, eput_n, cond_false, hups, hput_n, ARun_nil, dropE_c, inL_n, dropE_n, eget_c, hget_c, beq_self_eq_true, cond_true, Nat.reduceLeDiff, List.drop, List.take, inL_c])))
  all_goals (refine end_q [] [] ?_ ?_ <;> repeat' (first | exact trivial | exact vr_val _))
end Go.Proofs.Ytdcodicoclecnaa
