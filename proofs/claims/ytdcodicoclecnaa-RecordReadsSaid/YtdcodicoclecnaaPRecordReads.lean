/- Texts of the laws, own part of RecordReads. No conditions. -/
import Derived.Test.YtdcodicoclecnaaPRecA12
/- The document of record: Peak; pairs compared. No conditions. -/
set_option linter.unusedSimpArgs false
set_option linter.unusedVariables false
namespace Go.Proofs.Ytdcodicoclecnaa
open Go Go.RowKit Lift

def pkL (s : List (Int × Int)) : Int × Int := s.foldl (fun p x => if p.1 < 0 ∨ x.2 > p.2 then x else p) (-1, 0)
theorem pkL_snoc (s : List (Int × Int)) (x : Int × Int) : pkL (s ++ [x]) = if (pkL s).1 < 0 ∨ x.2 > (pkL s).2 then x else pkL s := by unfold pkL; rw [List.foldl_append]; rfl
theorem pkS_eq (l : Lay) (f : Fl) (frs : List (List Int)) : ∀ k, pkS l f frs k = pkL (smps l f frs k)
  | 0 => rfl
  | k + 1 => by
    rw [smps_succ]
    cases h : smp l f (frm frs k) with
    | none => simp only [pkS, h, List.append_nil]; exact pkS_eq l f frs k
    | some v => simp only [pkS, h]; rw [pkL_snoc, ← pkS_eq l f frs k]
theorem pkL_pos {s : List (Int × Int)} (hs : ∀ x ∈ s, 0 ≤ x.1) : ∀ k, 0 < k → k ≤ s.length → 0 ≤ (pkL (s.take k)).1
  | 0, h, _ => by omega
  | k + 1, _, h => by
    rw [List.take_add_one, List.getElem?_eq_getElem (by omega : k < s.length)]
    show 0 ≤ (pkL (s.take k ++ [s[k]])).1
    rw [pkL_snoc]
    split
    · exact hs _ (List.getElem_mem _)
    · rename_i h1
      omega
def pkB (s : List (Int × Int)) (k : Nat) : Int × Int := pkL (s.take (max k 1))
theorem pkB_succ {s : List (Int × Int)} (hs : ∀ x ∈ s, 0 ≤ x.1) (k : Nat) (hk : k < s.length) : pkB s (k + 1) = if (s[k]?.getD (0, 0)).2 > (pkB s k).2 then s[k]?.getD (0, 0) else pkB s k := by
  have e : s.take (k + 1) = s.take k ++ [s[k]?.getD (0, 0)] := by rw [List.take_add_one]; simp [hk]
  unfold pkB
  rw [show max (k + 1) 1 = k + 1 by omega]
  rcases Nat.eq_zero_or_pos k with rfl | h0
  · rw [show max 0 1 = 0 + 1 by omega, e]
    simp [pkL]
  · rw [show max k 1 = k by omega, e, pkL_snoc]
    have := pkL_pos hs k h0 (by omega)
    by_cases hx : (s[k]?.getD (0, 0)).2 > (pkL (s.take k)).2
    · rw [if_pos (.inr hx), if_pos hx]
    · rw [if_neg (by rintro (h | h); omega; exact hx h), if_neg hx]
theorem smps_pos (l : Lay) (f : Fl) (frs : List (List Int)) (k : Nat) : ∀ x ∈ smps l f frs k, 0 ≤ x.1 := by
  intro x hx
  unfold smps at hx
  rw [List.mem_filterMap] at hx
  obtain ⟨i, _, h⟩ := hx
  cases hs : smp l f (frm frs i) with
  | none => rw [hs] at h; cases h
  | some v => rw [hs] at h; simp only [Option.map_some, Option.some.injEq] at h; subst h; simp
theorem readR_pos (l : Lay) (frs : List (List Int)) (x : Int) : ∀ y ∈ readR l frs x, 0 ≤ y.1 := by
  unfold readR
  split
  · exact smps_pos _ _ _ _
  · simp
theorem readR_len {l : Lay} {frs : List (List Int)} {x : Int} : (readR l frs x).length ≤ 200 := by
  unfold readR
  split
  · rename_i h
    obtain ⟨_, h2, _⟩ := wfE_ok h
    have := smps_len l (fAt l x.toNat) frs frs.length
    omega
  · simp
/-- Peak's answer out of Read's -/
theorem peakR_eq (l : Lay) (frs : List (List Int)) (x : Int) : peakR l frs x = if wfE l frs [x] = 0 then (if (readR l frs x).length = 0 then (0, 0, 3) else ((pkB (readR l frs x) (readR l frs x).length).1, (pkB (readR l frs x) (readR l frs x).length).2, 0)) else (0, 0, wfE l frs [x]) := by
  unfold peakR
  by_cases h : wfE l frs [x] = 0
  · rw [if_pos h, if_pos h]
    have hr : readR l frs x = smps l (fAt l x.toNat) frs frs.length := if_pos h
    rw [pkS_eq, ← hr]
    have hp := readR_pos l frs x
    generalize readR l frs x = s at *
    rcases Nat.eq_zero_or_pos s.length with h0 | h0
    · rw [if_pos h0]
      have : s = [] := List.length_eq_zero_iff.1 h0
      subst this
      exact if_pos (by decide)
    · have := pkL_pos hp s.length h0 (Nat.le_refl _)
      rw [List.take_of_length_le (Nat.le_refl _)] at this
      rw [if_neg (by omega), if_neg (by omega)]
      unfold pkB
      rw [show max s.length 1 = s.length by omega, List.take_of_length_le (Nat.le_refl _)]
  · rw [if_neg h, if_neg h]
set_option maxRecDepth 100000 in
set_option maxHeartbeats 4000000 in
theorem rpeak_ac (l : Lay) (frs : List (List Int)) (x : Int) (hl : LayIn l) (hf : FrIn frs) : AC Try.prog 21 [layD l, .list (rows frs), dI x] [] [] (.tup [dI (peakR l frs x).1, dI (peakR l frs x).2.1, dI (peakR l frs x).2.2]) := by
  refine kref12_Peak.ac (n0 := 0) (by simp) ⟨in_layD _ _, .list _, .val _, trivial⟩ trivial rfl ?_
  unfold cref12_Peak
  have rd := rread_ac l frs x hl hf
  rw [peakR_eq]
  have hp := readR_pos l frs x
  have hrl := readR_len (l := l) (frs := frs) (x := x)
  generalize readR l frs x = s at *
  generalize wfE l frs [x] = E at *
  unfold layD layC at *
  by_cases h : E = 0
  case neg =>
    have q : (E != 0) = true := by simpa using h
    rw [if_neg h]
    (have hg : (987654321 : Nat) - 987654321 = 0 := rfl; have hr := hg; repeat' (first | refine aw_seq ?_ | (refine aw_skip ?_; try simp only [thenQ, blockQ, if_true, if_false, Nat.reduceEqDiff, reduceCtorEq]) | (refine aw_exit ?_; try simp only [thenQ, blockQ, if_true, if_false, Nat.reduceEqDiff, reduceCtorEq]) | refine aw_ret ?_ | refine aw_block ?_ | refine aw_condT rfl ?_ | refine aw_condF rfl ?_ | ((first | refine aw_region ?_ | refine acall0 (rd) ?_ | refine ago_if (by omega) ?_ | skip); simp (config := {maxSteps := 10000000}) (disch := first | exact okYes (by kernel_rfl) | omega) only [thenQ, List.map, dI, List.length, Nat.zero_add, Nat.reduceAdd, Nat.reduceMul, envOf, ARun_none, AOpRun, aexec, D.isBot, FSt.ev, St.F, ↓eget_h, Bool.false_eq_true, Option.isSome, hget_n, or_self, ↓reduceIte, D.cells, AGo_ok, St.app, putO, eput_c, Nat.reduceBEq, eput_n, cond_false, hups, hput_n, ARun_nil, dropE_c, inL_n, dropE_n, eget_c, hget_c, beq_self_eq_true, cond_true, Nat.reduceLeDiff, List.drop, List.take, opt1, Option.map, List.getElem?_cons_zero, List.getElem?_cons_succ, inL_c, isSh, abin, q])))
    all_goals (refine end_to [] [] (by first | exact .inl rfl | exact .inr rfl) rfl (by kernel_rfl) (by kernel_rfl) (by kernel_rfl) ?_ ?_ <;> repeat' (first | exact trivial | exact vr_val _ | apply vr_tup | apply And.intro))
  subst h
  rw [if_pos rfl]
  by_cases h0 : s.length = 0
  · rw [if_pos h0]
    have q2 : ((s.length : Int) == 0) = true := by simp [h0]
    (have hg : (987654321 : Nat) - 987654321 = 0 := rfl; have hr := hg; repeat' (first | refine aw_seq ?_ | (refine aw_skip ?_; try simp only [thenQ, blockQ, if_true, if_false, Nat.reduceEqDiff, reduceCtorEq]) | (refine aw_exit ?_; try simp only [thenQ, blockQ, if_true, if_false, Nat.reduceEqDiff, reduceCtorEq]) | refine aw_ret ?_ | refine aw_block ?_ | refine aw_condT rfl ?_ | refine aw_condF rfl ?_ | ((first | refine aw_region ?_ | refine acall0 (rd) ?_ | refine ago_if (by omega) ?_ | skip); simp (config := {maxSteps := 10000000}) (disch := first | exact okYes (by kernel_rfl) | omega) only [thenQ, List.map, dI, List.length, Nat.zero_add, Nat.reduceAdd, Nat.reduceMul, envOf, ARun_none, AOpRun, aexec, D.isBot, FSt.ev, St.F, ↓eget_h, Bool.false_eq_true, Option.isSome, hget_n, or_self, ↓reduceIte, D.cells, AGo_ok, St.app, putO, eput_c, Nat.reduceBEq, eput_n, cond_false, hups, hput_n, ARun_nil, dropE_c, inL_n, dropE_n, eget_c, hget_c, beq_self_eq_true, cond_true, Nat.reduceLeDiff, List.drop, List.take, opt1, Option.map, List.getElem?_cons_zero, List.getElem?_cons_succ, inL_c, isSh, abin, bne_self_eq_false, sps_len, q2])))
    all_goals (refine end_to [] [] (by first | exact .inl rfl | exact .inr rfl) rfl (by kernel_rfl) (by kernel_rfl) (by kernel_rfl) ?_ ?_ <;> repeat' (first | exact trivial | exact vr_val _ | apply vr_tup | apply And.intro))
  rw [if_neg h0]
  have q2 : ((s.length : Int) == 0) = false := by simp only [beq_eq_false_iff_ne]; omega
  have g0 := sps_gd s 0 (by omega)
  have hpos : 0 < s.length := by omega
  refine aw_seq (aw_region ?_)
  simp (config := {maxSteps := 10000000}) (disch := first | exact okYes (by kernel_rfl) | omega) only [thenQ, List.map, dI, List.length, Nat.zero_add, Nat.reduceAdd, Nat.reduceMul, envOf, ARun_none, AOpRun, aexec, D.isBot, FSt.ev, St.F, ↓eget_h, Bool.false_eq_true, Option.isSome, hget_n, or_self, ↓reduceIte, D.cells, AGo_ok, St.app, putO, eput_c, Nat.reduceBEq, eput_n, cond_false, hups, hput_n, ARun_nil, dropE_c, inL_n, dropE_n]
  refine aw_seq (aw_region ?_)
  simp (config := {maxSteps := 10000000}) (disch := first | exact okYes (by kernel_rfl) | omega) only [thenQ, List.length, Nat.zero_add, Nat.reduceAdd, Nat.reduceMul, ARun_none, AOpRun, aexec, FSt.ev, St.F, eget_c, Nat.reduceBEq, ↓eget_h, cond_false, hget_c, beq_self_eq_true, hget_n, cond_true, Nat.reduceLeDiff, ↓reduceIte, List.drop, List.take, AGo_ok, St.app, putO, eput_c, eput_n, hups, List.map]
  refine acall0 rd ?_
  simp (config := {maxSteps := 10000000}) (disch := first | exact okYes (by kernel_rfl) | omega) only [Nat.reduceAdd, St.app, putO, dI, eput_c, Nat.reduceBEq, eput_n, cond_false, hups, ARun_none, AOpRun, aexec, FSt.ev, St.F, eget_c, ↓eget_h, AGo_ok, List.map, opt1, Option.map, List.getElem?_cons_zero, List.getElem?_cons_succ, ARun_nil, dropE_c, inL_c, inL_n, beq_self_eq_true, cond_true, dropE_n]
  refine aw_seq (aw_seq (aw_region ?_))
  simp (config := {maxSteps := 10000000}) (disch := first | exact okYes (by kernel_rfl) | omega) only [thenQ, List.length, Nat.zero_add, Nat.reduceAdd, Nat.reduceMul, ARun_none, AOpRun, aexec, FSt.ev, St.F, eget_c, Nat.reduceBEq, ↓eget_h, cond_false, AGo_ok, St.app, putO, eput_c, eput_n, hups, List.map, isSh, Bool.false_eq_true, ↓reduceIte, Option.map, abin, bne_self_eq_false, ARun_nil, dropE_c, inL_c, inL_n, beq_self_eq_true, cond_true, dropE_n]
  refine aw_condF rfl (aw_skip ?_)
  refine aw_seq (aw_seq (aw_region ?_))
  simp (config := {maxSteps := 10000000}) (disch := first | exact okYes (by kernel_rfl) | omega) only [thenQ, List.length, Nat.zero_add, Nat.reduceAdd, Nat.reduceMul, ARun_none, AOpRun, aexec, FSt.ev, St.F, eget_c, Nat.reduceBEq, ↓eget_h, cond_false, AGo_ok, St.app, putO, eput_c, eput_n, hups, List.map, sps_len, isSh, Bool.false_eq_true, ↓reduceIte, Option.map, abin, q2, ARun_nil, dropE_c, inL_c, inL_n, beq_self_eq_true, cond_true, dropE_n]
  refine aw_condF rfl (aw_skip ?_)
  refine aw_seq (aw_region ?_)
  simp (config := {maxSteps := 10000000}) (disch := first | exact okYes (by kernel_rfl) | omega) only [thenQ, List.length, Nat.zero_add, Nat.reduceAdd, Nat.reduceMul, ARun_none, AOpRun, aexec, FSt.ev, St.F, eget_c, Nat.reduceBEq, ↓eget_h, cond_false, AGo_ok, St.app, putO, eput_c, eput_n, hups, List.map, Int.le_refl, sps_all, and_self, ↓reduceIte, opt1, Option.map, Int.toNat_zero, g0, Nat.reduceLeDiff, List.take, Option.isSome, hget_c, hget_n, Bool.false_eq_true, hput_c, hput_n, ↓hget_h, D.isBot, D.cells, List.all, D.leaf, Bool.and_true, splice, List.nil_append, List.drop, List.append_nil, beq_self_eq_true, cond_true, ARun_nil, dropE_c, inL_c, inL_n, dropE_n]
  refine aw_seq (aw_seq (aw_region ?_))
  simp (config := {maxSteps := 10000000}) (disch := first | exact okYes (by kernel_rfl) | omega) only [thenQ, List.length, Nat.zero_add, Nat.reduceMul, Nat.reduceAdd, ARun_none, AOpRun, aexec, FSt.ev, AGo_ok, St.app, putO, eput_c, Nat.reduceBEq, eput_n, cond_false, hups, List.map, ARun_nil, dropE_c, inL_n, dropE_n]
  have e0 : pkB s 0 = (lo s 0, hi s 0) := by
    unfold pkB pkL
    rw [show max 0 1 = 0 + 1 by omega, List.take_add_one]
    simp [lo, hi, hpos]
  refine aw_block (aw_loop (fun k : Nat => ⟨[(9, .list (sps s)), (11, .ptr 16 0), (12, dI k)], [(16, [dI (pkB s k).1, dI (pkB s k).2])], 400⟩) (fun k => k ≤ s.length) (fun k => s.length - k) ⟨0, by omega, ?_⟩ ?_)
  · rw [e0]
    unfold dI
    refine wk_to [] [(16, 168)] (by kernel_rfl) (by kernel_rfl) (by kernel_rfl) (by kernel_rfl) (by kernel_rfl) ?_ ?_ <;> repeat' (first | exact trivial | exact vr_val _ | exact vr_list _ | exact vr_ptr _ _ _ rfl | refine And.intro ⟨_, rfl, .inl ⟨_, rfl, by decide, ?_⟩⟩ ?_ | apply And.intro)
  intro k hk
  by_cases hk2 : k < s.length
  case neg =>
    obtain rfl : k = s.length := by omega
    generalize pkB s s.length = b at *
    (have hg : (987654321 : Nat) - 987654321 = 0 := rfl; have hr := hg; repeat' (first | refine aw_seq ?_ | (refine aw_skip ?_; try simp only [thenQ, blockQ, if_true, if_false, Nat.reduceEqDiff, reduceCtorEq]) | (refine aw_exit ?_; try simp only [thenQ, blockQ, if_true, if_false, Nat.reduceEqDiff, reduceCtorEq]) | refine aw_ret ?_ | refine aw_block ?_ | refine aw_condT rfl ?_ | refine aw_condF rfl ?_ | (refine aw_cond rfl (fun hg => ?_) (fun hg => ?_) <;> (try (have hq := hg; simp only [Bool.not_eq_true', Bool.not_eq_false', Bool.and_eq_true, Bool.and_eq_false_iff, Bool.or_eq_true, Bool.or_eq_false_iff, decide_eq_true_eq, decide_eq_false_iff_not, bne_iff_ne, beq_iff_eq, beq_eq_false_iff_ne, bne_eq_false_iff_eq, ne_eq, Int.not_lt, Int.not_le, Decidable.not_not] at hq)) <;> (try (have hr := hg; simp only [decide_eq_true_eq, decide_eq_false_iff_not] at hr)) <;> (try (exfalso; omega))) | ((first | refine aw_region ?_ | refine ago_if (by omega) ?_ | skip); simp (config := {maxSteps := 10000000}) (disch := first | exact okYes (by kernel_rfl) | omega) only [thenQ, dI, List.length, Nat.zero_add, Nat.reduceAdd, Nat.reduceMul, ARun_none, AOpRun, aexec, FSt.ev, St.F, eget_c, Nat.reduceBEq, ↓eget_h, cond_false, AGo_ok, St.app, putO, eput_c, eput_n, hups, List.map, sps_len, isSh, Bool.false_eq_true, ↓reduceIte, Option.map, abin, ARun_nil, dropE_c, inL_c, inL_n, beq_self_eq_true, cond_true, dropE_n, hr, decide_false, Int.le_refl, cast_lit, Int.reduceLT, and_self, Int.toNat_zero, run1, hget_c, hget_n, List.getElem?_cons_zero, Int.reduceLE, Int.reduceToNat, List.getElem?_cons_succ])))
    all_goals (refine end_to [] [] (by first | exact .inl rfl | exact .inr rfl) rfl (by kernel_rfl) (by kernel_rfl) (by kernel_rfl) ?_ ?_ <;> repeat' (first | exact trivial | exact vr_val _ | apply vr_tup | apply And.intro))
  have g1 := sps_gd s k hk2
  have e := pkB_succ hp k hk2
  have e1 : s[k]?.getD (0, 0) = (lo s k, hi s k) := by simp [lo, hi, hk2]
  rw [e1] at e
  generalize pkB s k = b at *
  obtain ⟨b1, b2⟩ := b
  simp only at e
  cases q3 : decide (hi s k > b2) with
  | true =>
    rw [if_pos (of_decide_eq_true q3)] at e
    (have hg : (987654321 : Nat) - 987654321 = 0 := rfl; have hr := hg; repeat' (first | refine aw_seq ?_ | (refine aw_skip ?_; try simp only [thenQ, blockQ, if_true, if_false, Nat.reduceEqDiff, reduceCtorEq]) | (refine aw_exit ?_; try simp only [thenQ, blockQ, if_true, if_false, Nat.reduceEqDiff, reduceCtorEq]) | refine aw_ret ?_ | refine aw_block ?_ | refine aw_condT rfl ?_ | refine aw_condF rfl ?_ | (refine aw_cond rfl (fun hg => ?_) (fun hg => ?_) <;> (try (have hq := hg; simp only [Bool.not_eq_true', Bool.not_eq_false', Bool.and_eq_true, Bool.and_eq_false_iff, Bool.or_eq_true, Bool.or_eq_false_iff, decide_eq_true_eq, decide_eq_false_iff_not, bne_iff_ne, beq_iff_eq, beq_eq_false_iff_ne, bne_eq_false_iff_eq, ne_eq, Int.not_lt, Int.not_le, Decidable.not_not] at hq)) <;> (try (have hr := hg; simp only [decide_eq_true_eq, decide_eq_false_iff_not] at hr)) <;> (try (exfalso; omega))) | ((first | refine aw_region ?_ | refine ago_if (by omega) ?_ | skip); simp (config := {maxSteps := 10000000}) (disch := first | exact okYes (by kernel_rfl) | omega) only [thenQ, dI, List.length, Nat.zero_add, Nat.reduceAdd, Nat.reduceMul, ARun_none, AOpRun, aexec, FSt.ev, St.F, eget_c, Nat.reduceBEq, ↓eget_h, cond_false, AGo_ok, St.app, putO, eput_c, eput_n, hups, List.map, sps_len, isSh, Bool.false_eq_true, ↓reduceIte, Option.map, abin, ARun_nil, dropE_c, inL_c, inL_n, beq_self_eq_true, cond_true, dropE_n, hr, decide_true, Int.natCast_nonneg, sps_all, and_self, opt1, Int.toNat_natCast, g1, Int.reduceLE, cast_lit, Int.reduceLT, Int.reduceToNat, List.drop, run1, List.getElem?_cons_zero, hget_c, hget_n, List.getElem?_cons_succ, q3, blockQ, Nat.reduceLeDiff, List.take, D.isBot, D.cells, List.all, D.leaf, Bool.and_true, splice, List.nil_append, List.append_nil, hput_c, hput_n, fits])))
    refine ⟨k + 1, by omega, by omega, ?_⟩
    rw [e]
    refine wk_to [] [(16, 16)] (by kernel_rfl) (by kernel_rfl) (by kernel_rfl) (by kernel_rfl) (by kernel_rfl) ?_ ?_ <;> repeat' (first | exact trivial | exact vr_val _ | exact vr_list _ | exact vr_ptr _ _ _ rfl | refine And.intro ⟨_, rfl, .inl ⟨_, rfl, by decide, ?_⟩⟩ ?_ | apply And.intro)
  | false =>
    rw [if_neg (of_decide_eq_false q3)] at e
    (have hg : (987654321 : Nat) - 987654321 = 0 := rfl; have hr := hg; repeat' (first | refine aw_seq ?_ | (refine aw_skip ?_; try simp only [thenQ, blockQ, if_true, if_false, Nat.reduceEqDiff, reduceCtorEq]) | (refine aw_exit ?_; try simp only [thenQ, blockQ, if_true, if_false, Nat.reduceEqDiff, reduceCtorEq]) | refine aw_ret ?_ | refine aw_block ?_ | refine aw_condT rfl ?_ | refine aw_condF rfl ?_ | (refine aw_cond rfl (fun hg => ?_) (fun hg => ?_) <;> (try (have hq := hg; simp only [Bool.not_eq_true', Bool.not_eq_false', Bool.and_eq_true, Bool.and_eq_false_iff, Bool.or_eq_true, Bool.or_eq_false_iff, decide_eq_true_eq, decide_eq_false_iff_not, bne_iff_ne, beq_iff_eq, beq_eq_false_iff_ne, bne_eq_false_iff_eq, ne_eq, Int.not_lt, Int.not_le, Decidable.not_not] at hq)) <;> (try (have hr := hg; simp only [decide_eq_true_eq, decide_eq_false_iff_not] at hr)) <;> (try (exfalso; omega))) | ((first | refine aw_region ?_ | refine ago_if (by omega) ?_ | skip); simp (config := {maxSteps := 10000000}) (disch := first | exact okYes (by kernel_rfl) | omega) only [thenQ, dI, List.length, Nat.zero_add, Nat.reduceAdd, Nat.reduceMul, ARun_none, AOpRun, aexec, FSt.ev, St.F, eget_c, Nat.reduceBEq, ↓eget_h, cond_false, AGo_ok, St.app, putO, eput_c, eput_n, hups, List.map, sps_len, isSh, Bool.false_eq_true, ↓reduceIte, Option.map, abin, ARun_nil, dropE_c, inL_c, inL_n, beq_self_eq_true, cond_true, dropE_n, hr, decide_true, Int.natCast_nonneg, sps_all, and_self, opt1, Int.toNat_natCast, g1, Int.reduceLE, cast_lit, Int.reduceLT, Int.reduceToNat, List.drop, run1, List.getElem?_cons_zero, hget_c, hget_n, List.getElem?_cons_succ, q3, fits])))
    refine ⟨k + 1, by omega, by omega, ?_⟩
    rw [e]
    refine wk_to [] [(16, 16)] (by kernel_rfl) (by kernel_rfl) (by kernel_rfl) (by kernel_rfl) (by kernel_rfl) ?_ ?_ <;> repeat' (first | exact trivial | exact vr_val _ | exact vr_list _ | exact vr_ptr _ _ _ rfl | refine And.intro ⟨_, rfl, .inl ⟨_, rfl, by decide, ?_⟩⟩ ?_ | apply And.intro)
set_option maxRecDepth 100000 in
set_option maxHeartbeats 2000000 in
theorem sameP_ac (a b : List (Int × Int)) (ha : a.length ≤ 1000000) (hb : b.length ≤ 1000000) : AC Try.prog 22 [.list (sps a), .list (sps b)] [] [] (dB (decide (a = b))) := by
  refine klaw12_samePairs.ac (n0 := 0) (by simp) ⟨.list _, .list _, trivial⟩ trivial rfl ?_
  unfold claw12_samePairs
  by_cases hl : a.length = b.length
  case neg =>
    have q : ((a.length : Int) != (b.length : Int)) = true := by simp only [bne_iff_ne, ne_eq]; omega
    rw [decide_eq_false (fun h => hl (by rw [h]))]
    (have hg : (987654321 : Nat) - 987654321 = 0 := rfl; have hr := hg; repeat' (first | refine aw_seq ?_ | (refine aw_skip ?_; try simp only [thenQ, blockQ, if_true, if_false, Nat.reduceEqDiff, reduceCtorEq]) | (refine aw_exit ?_; try simp only [thenQ, blockQ, if_true, if_false, Nat.reduceEqDiff, reduceCtorEq]) | refine aw_ret ?_ | refine aw_block ?_ | refine aw_condT rfl ?_ | refine aw_condF rfl ?_ | ((first | refine aw_region ?_ | refine ago_if (by omega) ?_ | skip); simp (config := {maxSteps := 10000000}) (disch := first | exact okYes (by kernel_rfl) | omega) only [thenQ, List.map, dB, List.length, Nat.zero_add, Nat.reduceMul, envOf, ARun_none, AOpRun, aexec, FSt.ev, AGo_ok, St.app, putO, eput_c, Nat.reduceBEq, eput_n, cond_false, hups, ARun_nil, dropE_c, inL_n, dropE_n, Nat.reduceAdd, St.F, ↓eget_h, eget_c, sps_len, isSh, Bool.false_eq_true, ↓reduceIte, Option.map, abin, q, inL_c, beq_self_eq_true, cond_true])))
    all_goals (refine end_to [] [] (by first | exact .inl rfl | exact .inr rfl) rfl (by kernel_rfl) (by kernel_rfl) (by kernel_rfl) ?_ ?_ <;> repeat' (first | exact trivial | exact vr_val _))
  have q : ((a.length : Int) != (b.length : Int)) = false := by simp only [bne_eq_false_iff_eq]; omega
  refine aw_seq (aw_region ?_)
  simp (config := {maxSteps := 10000000}) (disch := first | exact okYes (by kernel_rfl) | omega) only [thenQ, List.map, List.length, Nat.zero_add, Nat.reduceMul, envOf, ARun_none, AOpRun, aexec, FSt.ev, AGo_ok, St.app, putO, eput_c, Nat.reduceBEq, eput_n, cond_false, hups, ARun_nil, dropE_c, inL_n, dropE_n]
  refine aw_seq (aw_seq (aw_region ?_))
  simp (config := {maxSteps := 10000000}) (disch := first | exact okYes (by kernel_rfl) | omega) only [thenQ, List.length, Nat.zero_add, Nat.reduceAdd, Nat.reduceMul, ARun_none, AOpRun, aexec, FSt.ev, St.F, ↓eget_h, AGo_ok, St.app, putO, eput_c, Nat.reduceBEq, eput_n, cond_false, hups, List.map, eget_c, sps_len, isSh, Bool.false_eq_true, ↓reduceIte, Option.map, abin, q, ARun_nil, dropE_c, inL_c, inL_n, beq_self_eq_true, cond_true, dropE_n]
  refine aw_condF rfl (aw_skip ?_)
  refine aw_seq (aw_seq (aw_region ?_))
  simp (config := {maxSteps := 10000000}) (disch := first | exact okYes (by kernel_rfl) | omega) only [thenQ, List.length, Nat.zero_add, Nat.reduceMul, Nat.reduceAdd, ARun_none, AOpRun, aexec, FSt.ev, AGo_ok, St.app, putO, eput_c, Nat.reduceBEq, eput_n, cond_false, hups, List.map, ARun_nil, dropE_c, inL_n, dropE_n]
  refine aw_block (aw_loop (fun k : Nat => ⟨[(0, .list (sps a)), (1, .list (sps b)), (5, dI k)], [], 400⟩) (fun k => k ≤ a.length ∧ ∀ j, j < k → a[j]?.getD (0, 0) = b[j]?.getD (0, 0)) (fun k => a.length - k) ⟨0, ⟨by omega, fun j hj => by omega⟩, ?_⟩ ?_)
  · refine wk_to [] [] (by kernel_rfl) (by kernel_rfl) (by kernel_rfl) (by kernel_rfl) (by kernel_rfl) ?_ ?_ <;> repeat' (first | exact trivial | exact vr_val _ | exact vr_list _ | apply And.intro)
  rintro k ⟨hk, hin⟩
  by_cases hk2 : k < a.length
  case neg =>
    obtain rfl : k = a.length := by omega
    rw [decide_eq_true (same_yes hl hin)]
    (have hg : (987654321 : Nat) - 987654321 = 0 := rfl; have hr := hg; repeat' (first | refine aw_seq ?_ | (refine aw_skip ?_; try simp only [thenQ, blockQ, if_true, if_false, Nat.reduceEqDiff, reduceCtorEq]) | (refine aw_exit ?_; try simp only [thenQ, blockQ, if_true, if_false, Nat.reduceEqDiff, reduceCtorEq]) | refine aw_ret ?_ | refine aw_block ?_ | refine aw_condT rfl ?_ | refine aw_condF rfl ?_ | (refine aw_cond rfl (fun hg => ?_) (fun hg => ?_) <;> (try (have hq := hg; simp only [Bool.not_eq_true', Bool.not_eq_false', Bool.and_eq_true, Bool.and_eq_false_iff, Bool.or_eq_true, Bool.or_eq_false_iff, decide_eq_true_eq, decide_eq_false_iff_not, bne_iff_ne, beq_iff_eq, beq_eq_false_iff_ne, bne_eq_false_iff_eq, ne_eq, Int.not_lt, Int.not_le, Decidable.not_not] at hq)) <;> (try (have hr := hg; simp only [decide_eq_true_eq, decide_eq_false_iff_not] at hr)) <;> (try (exfalso; omega))) | ((first | refine aw_region ?_ | refine ago_if (by omega) ?_ | skip); simp (config := {maxSteps := 10000000}) (disch := first | exact okYes (by kernel_rfl) | omega) only [thenQ, dI, dB, List.length, Nat.zero_add, Nat.reduceAdd, Nat.reduceMul, ARun_none, AOpRun, aexec, FSt.ev, St.F, eget_c, Nat.reduceBEq, ↓eget_h, cond_false, AGo_ok, St.app, putO, eput_c, eput_n, hups, List.map, sps_len, isSh, Bool.false_eq_true, ↓reduceIte, Option.map, abin, ARun_nil, dropE_c, inL_c, inL_n, beq_self_eq_true, cond_true, dropE_n, hr, decide_false])))
    all_goals (refine end_to [] [] (by first | exact .inl rfl | exact .inr rfl) rfl (by kernel_rfl) (by kernel_rfl) (by kernel_rfl) ?_ ?_ <;> repeat' (first | exact trivial | exact vr_val _))
  have g1 := sp_at a k hk2
  have g2 := sp_at b k (by omega)
  unfold dI at g1 g2
  have ki : (k : Int) < (a.length : Int) := by omega
  have kb : (k : Int) < (b.length : Int) := by omega
  cases q1 : ((a[k]?.getD (0, 0)).1 == (b[k]?.getD (0, 0)).1) <;> cases q3 : ((a[k]?.getD (0, 0)).2 == (b[k]?.getD (0, 0)).2)
  case true.true =>
    have he2 : a[k]?.getD (0, 0) = b[k]?.getD (0, 0) := Prod.ext (by simpa using q1) (by simpa using q3)
    (have hg : (987654321 : Nat) - 987654321 = 0 := rfl; have hr := hg; repeat' (first | refine aw_seq ?_ | (refine aw_skip ?_; try simp only [thenQ, blockQ, if_true, if_false, Nat.reduceEqDiff, reduceCtorEq]) | (refine aw_exit ?_; try simp only [thenQ, blockQ, if_true, if_false, Nat.reduceEqDiff, reduceCtorEq]) | refine aw_ret ?_ | refine aw_block ?_ | refine aw_condT rfl ?_ | refine aw_condF rfl ?_ | ((first | refine aw_region ?_ | refine ago_if (by omega) ?_ | skip); simp (config := {maxSteps := 10000000}) (disch := first | exact okYes (by kernel_rfl) | omega) only [thenQ, dI, dB, List.length, Nat.zero_add, Nat.reduceAdd, Nat.reduceMul, ARun_none, AOpRun, aexec, FSt.ev, St.F, eget_c, Nat.reduceBEq, ↓eget_h, cond_false, AGo_ok, St.app, putO, eput_c, eput_n, hups, List.map, sps_len, isSh, Bool.false_eq_true, ↓reduceIte, Option.map, abin, ki, decide_true, ARun_nil, dropE_c, inL_c, inL_n, beq_self_eq_true, cond_true, dropE_n, Int.natCast_nonneg, sps_all, and_self, opt1, Int.toNat_natCast, g1, Nat.reduceLeDiff, List.take, g2, D.isAgg, D.cells, isB, eqCells, scalarEq, q1, q3, Bool.and_true, bne_self_eq_false, fits])))
    refine ⟨k + 1, ⟨by omega, fun j hj => ?_⟩, by omega, ?_⟩
    · rcases (by omega : j < k ∨ j = k) with h | rfl
      · exact hin j h
      · exact he2
    · refine wk_to [] [] (by kernel_rfl) (by kernel_rfl) (by kernel_rfl) (by kernel_rfl) (by kernel_rfl) ?_ ?_ <;> repeat' (first | exact trivial | exact vr_val _ | exact vr_list _ | apply And.intro)
  all_goals
    rw [decide_eq_false (same_no (d := (0, 0)) (k := k) (fun h => by rw [h] at q1 q3; simp at q1 q3))]
    (have hg : (987654321 : Nat) - 987654321 = 0 := rfl; have hr := hg; repeat' (first | refine aw_seq ?_ | (refine aw_skip ?_; try simp only [thenQ, blockQ, if_true, if_false, Nat.reduceEqDiff, reduceCtorEq]) | (refine aw_exit ?_; try simp only [thenQ, blockQ, if_true, if_false, Nat.reduceEqDiff, reduceCtorEq]) | refine aw_ret ?_ | refine aw_block ?_ | refine aw_condT rfl ?_ | refine aw_condF rfl ?_ | ((first | refine aw_region ?_ | refine ago_if (by omega) ?_ | skip); simp (config := {maxSteps := 10000000}) (disch := first | exact okYes (by kernel_rfl) | omega) only [thenQ, dI, dB, List.length, Nat.zero_add, Nat.reduceAdd, Nat.reduceMul, ARun_none, AOpRun, aexec, FSt.ev, St.F, eget_c, Nat.reduceBEq, ↓eget_h, cond_false, AGo_ok, St.app, putO, eput_c, eput_n, hups, List.map, sps_len, isSh, Bool.false_eq_true, ↓reduceIte, Option.map, abin, ki, decide_true, ARun_nil, dropE_c, inL_c, inL_n, beq_self_eq_true, cond_true, dropE_n, Int.natCast_nonneg, sps_all, and_self, opt1, Int.toNat_natCast, g1, Nat.reduceLeDiff, List.take, g2, D.isAgg, D.cells, isB, eqCells, scalarEq, q1, q3, Bool.and_true, Bool.and_false, blockQ])))
    all_goals (refine end_to [] [] (by first | exact .inl rfl | exact .inr rfl) rfl (by kernel_rfl) (by kernel_rfl) (by kernel_rfl) ?_ ?_ <;> repeat' (first | exact trivial | exact vr_val _))
end Go.Proofs.Ytdcodicoclecnaa
/- The law of Read and Peak. No conditions. -/
set_option linter.unusedSimpArgs false
set_option linter.unusedVariables false
namespace Go.Proofs.Ytdcodicoclecnaa
open Go Go.RowKit Lift

theorem pkB_zero {s : List (Int × Int)} (h : 0 < s.length) : pkB s 0 = s[0]?.getD (0, 0) := by
  unfold pkB pkL
  rw [show max 0 1 = 0 + 1 by omega, List.take_add_one]
  simp [h]
theorem pkB_mem {s : List (Int × Int)} (hs : ∀ x ∈ s, 0 ≤ x.1) (h : 0 < s.length) : ∀ k, k ≤ s.length → pkB s k ∈ s
  | 0, _ => by rw [pkB_zero h]; simp [h]
  | k + 1, hk => by
    rw [pkB_succ hs k (by omega)]
    split
    · simp [show k < s.length by omega]
    · exact pkB_mem hs h k (by omega)
theorem pkB_max {s : List (Int × Int)} (hs : ∀ x ∈ s, 0 ≤ x.1) : ∀ k, k ≤ s.length → ∀ j, j < k → (s[j]?.getD (0, 0)).2 ≤ (pkB s k).2
  | 0, _, j, h => by omega
  | k + 1, hk, j, h => by
    rw [pkB_succ hs k (by omega)]
    have ih := pkB_max hs k (by omega)
    rcases (by omega : j < k ∨ j = k) with h1 | rfl
    · have := ih j h1
      split <;> omega
    · split <;> omega
def isK (s : List (Int × Int)) (p q : Int) (k : Nat) : Bool := (s.take k).any fun x => x.1 == p && x.2 == q
theorem isK_succ (s : List (Int × Int)) (p q : Int) (k : Nat) (hk : k < s.length) : isK s p q (k + 1) = (isK s p q k || (lo s k == p && hi s k == q)) := by
  unfold isK
  rw [List.take_add_one, List.any_append]
  simp [hk, lo, hi]
set_option maxRecDepth 100000 in
set_option maxHeartbeats 8000000 in
theorem lawReads_ac (l : Lay) (frs : List (List Int)) (x : Int) (hl : LayIn l) (hf : FrIn frs) : AC Try.prog 3 [tpD l frs, dI x] [] [] (dB true) := by
  refine klaw12_RecordReads.ac (n0 := 0) (by simp) ⟨in_tpD _ _ _, .val _, trivial⟩ trivial rfl ?_
  unfold claw12_RecordReads
  have fa := far_ac l frs hl.nf hf.n hf.m
  unfold tpD at *
  cases hb : farB l frs with
  | true =>
    rw [hb] at fa
    (have hg : (987654321 : Nat) - 987654321 = 0 := rfl; have hr := hg; repeat' (first | refine aw_seq ?_ | (refine aw_skip ?_; repeat' (first | with_reducible refine thenQ_n ?_ | with_reducible refine blockQ_n ?_ | with_reducible refine thenQ_e ?_ | with_reducible refine blockQ_t ?_ | with_reducible refine blockQ_f (by decide) ?_)) | (refine aw_exit ?_; repeat' (first | with_reducible refine thenQ_n ?_ | with_reducible refine blockQ_n ?_ | with_reducible refine thenQ_e ?_ | with_reducible refine blockQ_t ?_ | with_reducible refine blockQ_f (by decide) ?_)) | refine aw_ret ?_ | refine aw_block ?_ | refine aw_condT rfl ?_ | refine aw_condF rfl ?_ | ((first | refine aw_hide fun K hK => aw_region ?_ | refine acall0 (fa) ?_ | refine acall0 (works_ac) ?_ | refine ago_if (by omega) ?_ | skip); simp (config := {maxSteps := 10000000}) (disch := first | exact okYes (by kernel_rfl) | omega) only [List.length, Nat.zero_add, Nat.reduceAdd, Nat.reduceMul, envOf, dI, ARun_none, AOpRun, aexec, D.isBot, FSt.ev, St.F, ↓eget_h, Bool.false_eq_true, Option.isSome, hget_n, or_self, ↓reduceIte, D.cells, AGo_ok, St.app, putO, eput_c, Nat.reduceBEq, eput_n, cond_false, hups, hput_n, List.map, ARun_nil, dropE_c, inL_n, dropE_n, eget_c, hget_c, beq_self_eq_true, cond_true, Nat.reduceLeDiff, List.drop, List.take, dB, inL_c, thenQ]) | (subst hK; repeat' (first | with_reducible refine thenQ_n ?_ | with_reducible refine blockQ_n ?_ | with_reducible refine thenQ_e ?_ | with_reducible refine blockQ_t ?_ | with_reducible refine blockQ_f (by decide) ?_))))
    all_goals (refine end_to [] [] (by first | exact .inl rfl | exact .inr rfl) rfl (by kernel_rfl) (by kernel_rfl) (by kernel_rfl) ?_ ?_ <;> repeat' (first | exact trivial | exact vr_val _))
  | false =>
  rw [hb] at fa
  obtain ⟨f1, f2, f3⟩ := far_small hb
  have ow := own_ac l frs (by omega) (by omega) (fun k => by have := f3 k; omega)
  have c1 := read_ac l frs x hl hf
  have c2 := rread_ac l frs x hl hf
  have c3 := peak_ac l frs x hl hf
  have c4 := rpeak_ac l frs x hl hf
  have hpe := peakR_eq l frs x
  have hpos := readR_pos l frs x
  have hlen := readR_len (l := l) (frs := frs) (x := x)
  generalize readR l frs x = s at *
  generalize wfE l frs [x] = E at *
  generalize peakR l frs x = P at *
  obtain ⟨p, q, e⟩ := P
  simp only at c3 c4
  have sp := sameP_ac s s (by omega) (by omega)
  rw [decide_eq_true rfl] at sp
  unfold tpD at ow
  unfold layD layC at c1 c2 c3 c4
  have b1 : (E != E) = false := by simp
  have b2 : (p != p) = false := by simp
  have b3 : (q != q) = false := by simp
  have b4 : (e != e) = false := by simp
  by_cases he : e = 0
  case neg =>
    have b5 : (e != 0) = true := by simpa using he
    (have hg : (987654321 : Nat) - 987654321 = 0 := rfl; have hr := hg; repeat' (first | refine aw_seq ?_ | (refine aw_skip ?_; repeat' (first | with_reducible refine thenQ_n ?_ | with_reducible refine blockQ_n ?_ | with_reducible refine thenQ_e ?_ | with_reducible refine blockQ_t ?_ | with_reducible refine blockQ_f (by decide) ?_)) | (refine aw_exit ?_; repeat' (first | with_reducible refine thenQ_n ?_ | with_reducible refine blockQ_n ?_ | with_reducible refine thenQ_e ?_ | with_reducible refine blockQ_t ?_ | with_reducible refine blockQ_f (by decide) ?_)) | refine aw_ret ?_ | refine aw_block ?_ | refine aw_condT rfl ?_ | refine aw_condF rfl ?_ | ((first | refine aw_hide fun K hK => aw_region ?_ | refine acall0 (fa) ?_ | refine acall0 (ow) ?_ | refine acall0 (c1) ?_ | refine acall0 (c2) ?_ | refine acall0 (c3) ?_ | refine acall0 (c4) ?_ | refine acall0 (sp) ?_ | refine acall0 (works_ac) ?_ | refine ago_if (by omega) ?_ | skip); simp (config := {maxSteps := 10000000}) (disch := first | exact okYes (by kernel_rfl) | omega) only [List.length, Nat.zero_add, Nat.reduceAdd, Nat.reduceMul, envOf, dI, ARun_none, AOpRun, aexec, D.isBot, FSt.ev, St.F, ↓eget_h, Bool.false_eq_true, Option.isSome, hget_n, or_self, ↓reduceIte, D.cells, AGo_ok, St.app, putO, eput_c, Nat.reduceBEq, eput_n, cond_false, hups, hput_n, List.map, ARun_nil, dropE_c, inL_n, dropE_n, eget_c, hget_c, beq_self_eq_true, cond_true, Nat.reduceLeDiff, List.drop, List.take, dB, inL_c, hput_c, ↓hget_h, List.all, D.leaf, Bool.and_true, and_self, splice, List.nil_append, List.append_nil, Option.map, run1, List.getElem?_cons_succ, List.getElem?_cons_zero, opt1, Bool.not_true, ARun_some, AG_ff, isSh, abin, bne_self_eq_false, b5, thenQ]) | (subst hK; repeat' (first | with_reducible refine thenQ_n ?_ | with_reducible refine blockQ_n ?_ | with_reducible refine thenQ_e ?_ | with_reducible refine blockQ_t ?_ | with_reducible refine blockQ_f (by decide) ?_))))
    all_goals (refine end_to [] [] (by first | exact .inl rfl | exact .inr rfl) rfl (by kernel_rfl) (by kernel_rfl) (by kernel_rfl) ?_ ?_ <;> repeat' (first | exact trivial | exact vr_val _))
  subst he
  have hE : E = 0 ∧ 0 < s.length ∧ p = (pkB s s.length).1 ∧ q = (pkB s s.length).2 := by
    by_cases h1 : E = 0
    · rw [if_pos h1] at hpe
      by_cases h2 : s.length = 0
      · rw [if_pos h2] at hpe; simp at hpe
      · rw [if_neg h2] at hpe
        simp only [Prod.mk.injEq] at hpe
        exact ⟨h1, by omega, hpe.1, hpe.2.1⟩
    · rw [if_neg h1] at hpe
      simp only [Prod.mk.injEq] at hpe
      exact absurd hpe.2.2.symm h1
  obtain ⟨rfl, h0, hp, hq⟩ := hE
  have hmem := pkB_mem hpos h0 s.length (Nat.le_refl _)
  have hmax := pkB_max hpos s.length (Nat.le_refl _)
  rw [← hq] at hmax
  have hend : isK s p q s.length = true := by
    unfold isK
    rw [List.take_of_length_le (Nat.le_refl _)]
    exact List.any_eq_true.2 ⟨_, hmem, by rw [hp, hq]; simp⟩
  have hsu := isK_succ s p q
  clear hpe hp hq hmem
  refine aw_seq (aw_region ?_)
  simp (config := {maxSteps := 10000000}) (disch := first | exact okYes (by kernel_rfl) | omega) only [thenQ, List.map, dB, List.length, Nat.zero_add, Nat.reduceAdd, Nat.reduceMul, envOf, dI, ARun_none, AOpRun, aexec, D.isBot, FSt.ev, St.F, ↓eget_h, Bool.false_eq_true, Option.isSome, hget_n, or_self, ↓reduceIte, D.cells, AGo_ok, St.app, putO, eput_c, Nat.reduceBEq, eput_n, cond_false, hups, hput_n, ARun_nil, dropE_c, inL_n, dropE_n]
  refine aw_seq (aw_seq (aw_region ?_))
  simp (config := {maxSteps := 10000000}) (disch := first | exact okYes (by kernel_rfl) | omega) only [thenQ, List.length, Nat.zero_add, Nat.reduceAdd, Nat.reduceMul, ARun_none, AOpRun, aexec, FSt.ev, St.F, eget_c, Nat.reduceBEq, ↓eget_h, cond_false, hget_c, beq_self_eq_true, hget_n, cond_true, Nat.reduceLeDiff, ↓reduceIte, List.drop, List.take, AGo_ok, St.app, putO, eput_c, eput_n, hups, List.map]
  refine acall0 fa ?_
  simp (config := {maxSteps := 10000000}) (disch := first | exact okYes (by kernel_rfl) | omega) only [Nat.reduceAdd, St.app, putO, dB, eput_c, Nat.reduceBEq, eput_n, cond_false, hups, ARun_nil, dropE_c, inL_c, inL_n, beq_self_eq_true, cond_true, dropE_n]
  refine aw_condF rfl (aw_skip ?_)
  refine aw_seq (aw_region ?_)
  simp (config := {maxSteps := 10000000}) (disch := first | exact okYes (by kernel_rfl) | omega) only [thenQ, List.length, Nat.zero_add, Nat.reduceAdd, Nat.reduceMul, ARun_none, AOpRun, aexec, FSt.ev, St.F, eget_c, Nat.reduceBEq, ↓eget_h, cond_false, hget_c, beq_self_eq_true, hget_n, cond_true, Nat.reduceLeDiff, ↓reduceIte, List.drop, List.take, AGo_ok, St.app, putO, eput_c, eput_n, hups, List.map]
  refine acall0 ow ?_
  simp (config := {maxSteps := 10000000}) (disch := first | exact okYes (by kernel_rfl) | omega) only [Nat.reduceAdd, St.app, putO, dI, eput_c, Nat.reduceBEq, eput_n, cond_false, hups, ARun_none, AOpRun, aexec, Option.isSome, Nat.reduceMul, hget_c, hget_n, Bool.false_eq_true, ↓reduceIte, AGo_ok, hput_c, hput_n, List.map, FSt.ev, St.F, eget_c, ↓eget_h, ↓hget_h, D.isBot, D.cells, List.length, Nat.zero_add, Nat.reduceLeDiff, List.all, D.leaf, Bool.and_true, and_self, splice, List.take, List.nil_append, List.drop, List.append_nil, beq_self_eq_true, cond_true, ARun_nil, dropE_c, inL_c, inL_n, dropE_n]
  refine aw_seq (aw_region ?_)
  simp (config := {maxSteps := 10000000}) (disch := first | exact okYes (by kernel_rfl) | omega) only [thenQ, List.length, Nat.zero_add, Nat.reduceAdd, Nat.reduceMul, ARun_none, AOpRun, aexec, FSt.ev, St.F, eget_c, Nat.reduceBEq, ↓eget_h, cond_false, AGo_ok, St.app, putO, eput_c, eput_n, hups, List.map, hget_c, ↓hget_h, Nat.reduceLeDiff, ↓reduceIte, List.drop, List.take, Option.map, run1, List.getElem?_cons_succ, List.getElem?_cons_zero]
  refine acall0 c1 ?_
  simp (config := {maxSteps := 10000000}) (disch := first | exact okYes (by kernel_rfl) | omega) only [Nat.reduceAdd, St.app, putO, dI, eput_c, Nat.reduceBEq, eput_n, cond_false, hups, ARun_none, AOpRun, aexec, FSt.ev, St.F, eget_c, ↓eget_h, AGo_ok, List.map, opt1, Option.map, List.getElem?_cons_zero, List.getElem?_cons_succ, ARun_nil, dropE_c, inL_c, inL_n, beq_self_eq_true, cond_true, dropE_n]
  refine aw_seq (aw_region ?_)
  simp (config := {maxSteps := 10000000}) (disch := first | exact okYes (by kernel_rfl) | omega) only [thenQ, List.length, Nat.zero_add, Nat.reduceAdd, Nat.reduceMul, ARun_none, AOpRun, aexec, FSt.ev, St.F, eget_c, Nat.reduceBEq, ↓eget_h, cond_false, AGo_ok, St.app, putO, eput_c, eput_n, hups, List.map, hget_c, beq_self_eq_true, hget_n, cond_true, Nat.reduceLeDiff, ↓reduceIte, List.drop, List.take, Option.map, run1, List.getElem?_cons_succ, List.getElem?_cons_zero]
  refine acall0 c2 ?_
  simp (config := {maxSteps := 10000000}) (disch := first | exact okYes (by kernel_rfl) | omega) only [Nat.reduceAdd, St.app, putO, dI, eput_c, Nat.reduceBEq, eput_n, cond_false, hups, ARun_none, AOpRun, aexec, FSt.ev, St.F, eget_c, ↓eget_h, AGo_ok, List.map, opt1, Option.map, List.getElem?_cons_zero, List.getElem?_cons_succ, ARun_nil, dropE_c, inL_c, inL_n, beq_self_eq_true, cond_true, dropE_n]
  refine aw_seq (aw_region ?_)
  simp (config := {maxSteps := 10000000}) (disch := first | exact okYes (by kernel_rfl) | omega) only [thenQ, List.length, Nat.zero_add, Nat.reduceAdd, Nat.reduceMul, ARun_none, AOpRun, aexec, FSt.ev, St.F, eget_c, Nat.reduceBEq, ↓eget_h, cond_false, AGo_ok, St.app, putO, eput_c, eput_n, hups, List.map, hget_c, ↓hget_h, Nat.reduceLeDiff, ↓reduceIte, List.drop, List.take, Option.map, run1, List.getElem?_cons_succ, List.getElem?_cons_zero]
  refine acall0 c3 ?_
  simp (config := {maxSteps := 10000000}) (disch := first | exact okYes (by kernel_rfl) | omega) only [Nat.reduceAdd, St.app, putO, dI, eput_c, Nat.reduceBEq, eput_n, cond_false, hups, ARun_none, AOpRun, aexec, FSt.ev, St.F, eget_c, ↓eget_h, AGo_ok, List.map, opt1, Option.map, List.getElem?_cons_zero, List.getElem?_cons_succ, ARun_nil, dropE_c, inL_c, inL_n, beq_self_eq_true, cond_true, dropE_n]
  refine aw_seq (aw_region ?_)
  simp (config := {maxSteps := 10000000}) (disch := first | exact okYes (by kernel_rfl) | omega) only [thenQ, List.length, Nat.zero_add, Nat.reduceAdd, Nat.reduceMul, ARun_none, AOpRun, aexec, FSt.ev, St.F, eget_c, Nat.reduceBEq, ↓eget_h, cond_false, AGo_ok, St.app, putO, eput_c, eput_n, hups, List.map, hget_c, beq_self_eq_true, hget_n, cond_true, Nat.reduceLeDiff, ↓reduceIte, List.drop, List.take, Option.map, run1, List.getElem?_cons_succ, List.getElem?_cons_zero]
  refine acall0 c4 ?_
  simp (config := {maxSteps := 10000000}) (disch := first | exact okYes (by kernel_rfl) | omega) only [Nat.reduceAdd, St.app, putO, dI, eput_c, Nat.reduceBEq, eput_n, cond_false, hups, ARun_none, AOpRun, aexec, FSt.ev, St.F, eget_c, ↓eget_h, AGo_ok, List.map, opt1, Option.map, List.getElem?_cons_zero, List.getElem?_cons_succ, ARun_nil, dropE_c, inL_c, inL_n, beq_self_eq_true, cond_true, dropE_n]
  refine aw_wk (s' := ⟨[(6, .list (sps s)), (7, dI 0), (8, .list (sps s)), (9, dI 0), (10, dI p), (11, dI q), (12, dI 0), (13, dI p), (14, dI q), (15, dI 0)], [], 1000⟩) ?_ ?_
  · unfold dI
    refine wk_to [] [] (by kernel_rfl) (by kernel_rfl) (by kernel_rfl) (by kernel_rfl) (by kernel_rfl) ?_ ?_ <;> repeat' (first | exact trivial | exact vr_val _ | exact vr_list _ | apply And.intro)
  refine aw_seq (aw_seq (aw_region ?_))
  simp (config := {maxSteps := 10000000}) (disch := first | exact okYes (by kernel_rfl) | omega) only [thenQ, List.length, Nat.zero_add, Nat.reduceAdd, Nat.reduceMul, dI, ARun_none, AOpRun, aexec, FSt.ev, St.F, ↓eget_h, AGo_ok, St.app, putO, eput_c, Nat.reduceBEq, eput_n, cond_false, hups, List.map, eget_c]
  refine acall0 sp ?_
  simp (config := {maxSteps := 10000000}) (disch := first | exact okYes (by kernel_rfl) | omega) only [Nat.reduceAdd, St.app, putO, dB, eput_c, Nat.reduceBEq, eput_n, cond_false, hups, ARun_none, AOpRun, aexec, FSt.ev, St.F, eget_c, ↓eget_h, Bool.not_true, AGo_ok, List.map, ARun_some, AG_ff, isSh, Bool.false_eq_true, ↓reduceIte, Option.map, abin, bne_self_eq_false, ARun_nil, dropE_c, inL_c, inL_n, beq_self_eq_true, cond_true, dropE_n]
  refine aw_condF rfl (aw_skip ?_)
  refine aw_seq (aw_seq (aw_region ?_))
  simp (config := {maxSteps := 10000000}) (disch := first | exact okYes (by kernel_rfl) | omega) only [thenQ, List.length, Nat.zero_add, Nat.reduceAdd, Nat.reduceMul, ARun_none, AOpRun, aexec, FSt.ev, St.F, eget_c, Nat.reduceBEq, ↓eget_h, cond_false, AGo_ok, St.app, putO, eput_c, eput_n, hups, List.map, isSh, Bool.false_eq_true, ↓reduceIte, Option.map, abin, bne_self_eq_false, ARun_nil, dropE_c, inL_c, inL_n, beq_self_eq_true, cond_true, dropE_n]
  refine aw_condF rfl (aw_skip ?_)
  refine aw_seq (aw_region ?_)
  simp (config := {maxSteps := 10000000}) (disch := first | exact okYes (by kernel_rfl) | omega) only [thenQ, List.length, Nat.zero_add, Nat.reduceMul, Nat.reduceAdd, ARun_none, AOpRun, aexec, FSt.ev, AGo_ok, St.app, putO, eput_c, Nat.reduceBEq, eput_n, cond_false, hups, List.map, ARun_nil, dropE_c, inL_n, dropE_n]
  refine aw_seq (aw_seq (aw_region ?_))
  simp (config := {maxSteps := 10000000}) (disch := first | exact okYes (by kernel_rfl) | omega) only [thenQ, List.length, Nat.zero_add, Nat.reduceMul, Nat.reduceAdd, ARun_none, AOpRun, aexec, FSt.ev, AGo_ok, St.app, putO, eput_c, Nat.reduceBEq, eput_n, cond_false, hups, List.map, ARun_nil, dropE_c, inL_n, dropE_n]
  refine aw_block (aw_loop (fun k : Nat => ⟨[(6, .list (sps s)), (10, dI p), (11, dI q), (16, dB (isK s p q k)), (17, dI k)], [], 2000⟩) (fun k => k ≤ s.length) (fun k => s.length - k) ⟨0, by omega, ?_⟩ ?_)
  · show Wk _ _ ⟨[_, _, _, (16, dB false), _], _, _⟩
    unfold dI dB
    refine wk_to [] [] (by kernel_rfl) (by kernel_rfl) (by kernel_rfl) (by kernel_rfl) (by kernel_rfl) ?_ ?_ <;> repeat' (first | exact trivial | exact vr_val _ | exact vr_list _ | apply And.intro)
  intro k hk
  by_cases hk2 : k < s.length
  case neg =>
    obtain rfl : k = s.length := by omega
    rw [hend]
    (have hg : (987654321 : Nat) - 987654321 = 0 := rfl; have hr := hg; repeat' (first | refine aw_seq ?_ | (refine aw_skip ?_; repeat' (first | with_reducible refine thenQ_n ?_ | with_reducible refine blockQ_n ?_ | with_reducible refine thenQ_e ?_ | with_reducible refine blockQ_t ?_ | with_reducible refine blockQ_f (by decide) ?_)) | (refine aw_exit ?_; repeat' (first | with_reducible refine thenQ_n ?_ | with_reducible refine blockQ_n ?_ | with_reducible refine thenQ_e ?_ | with_reducible refine blockQ_t ?_ | with_reducible refine blockQ_f (by decide) ?_)) | refine aw_ret ?_ | refine aw_block ?_ | refine aw_condT rfl ?_ | refine aw_condF rfl ?_ | (refine aw_cond rfl (fun hg => ?_) (fun hg => ?_) <;> (try (have hq := hg; simp only [Bool.not_eq_true', Bool.not_eq_false', Bool.and_eq_true, Bool.and_eq_false_iff, Bool.or_eq_true, Bool.or_eq_false_iff, decide_eq_true_eq, decide_eq_false_iff_not, bne_iff_ne, beq_iff_eq, beq_eq_false_iff_ne, bne_eq_false_iff_eq, ne_eq, Int.not_lt, Int.not_le, Decidable.not_not] at hq)) <;> (try (have hr := hg; simp only [decide_eq_true_eq, decide_eq_false_iff_not] at hr)) <;> (try (exfalso; omega))) | ((first | refine aw_hide fun K hK => aw_region ?_ | refine acall0 (works_ac) ?_ | refine ago_if (by omega) ?_ | skip); simp (config := {maxSteps := 10000000}) (disch := first | exact okYes (by kernel_rfl) | omega) only [List.length, Nat.zero_add, Nat.reduceAdd, Nat.reduceMul, dI, dB, ARun_none, AOpRun, aexec, FSt.ev, St.F, eget_c, Nat.reduceBEq, ↓eget_h, cond_false, AGo_ok, St.app, putO, eput_c, eput_n, hups, List.map, sps_len, isSh, Bool.false_eq_true, ↓reduceIte, Option.map, abin, ARun_nil, dropE_c, inL_c, inL_n, beq_self_eq_true, cond_true, dropE_n, hr, decide_false, ARun_some, AG_tt]) | (subst hK; repeat' (first | with_reducible refine thenQ_n ?_ | with_reducible refine blockQ_n ?_ | with_reducible refine thenQ_e ?_ | with_reducible refine blockQ_t ?_ | with_reducible refine blockQ_f (by decide) ?_))))
    all_goals (refine end_to [] [] (by first | exact .inl rfl | exact .inr rfl) rfl (by kernel_rfl) (by kernel_rfl) (by kernel_rfl) ?_ ?_ <;> repeat' (first | exact trivial | exact vr_val _))
  have g1 := sps_gd s k hk2
  have e2 := hsu k hk2
  have m := hmax k hk2
  have ehi : (s[k]?.getD (0, 0)).2 = hi s k := by simp [hi, hk2]
  rw [ehi] at m
  have q5 : decide (hi s k > q) = false := decide_eq_false (by omega)
  have ki : (k : Int) < (s.length : Int) := by omega
  cases hi1 : isK s p q k with
  | true =>
    rw [hi1, Bool.true_or] at e2
    (have hg : (987654321 : Nat) - 987654321 = 0 := rfl; have hr := hg; repeat' (first | refine aw_seq ?_ | (refine aw_skip ?_; repeat' (first | with_reducible refine thenQ_n ?_ | with_reducible refine blockQ_n ?_ | with_reducible refine thenQ_e ?_ | with_reducible refine blockQ_t ?_ | with_reducible refine blockQ_f (by decide) ?_)) | (refine aw_exit ?_; repeat' (first | with_reducible refine thenQ_n ?_ | with_reducible refine blockQ_n ?_ | with_reducible refine thenQ_e ?_ | with_reducible refine blockQ_t ?_ | with_reducible refine blockQ_f (by decide) ?_)) | refine aw_ret ?_ | refine aw_block ?_ | refine aw_condT rfl ?_ | refine aw_condF rfl ?_ | (refine aw_cond rfl (fun hg => ?_) (fun hg => ?_) <;> (try (have hq := hg; simp only [Bool.not_eq_true', Bool.not_eq_false', Bool.and_eq_true, Bool.and_eq_false_iff, Bool.or_eq_true, Bool.or_eq_false_iff, decide_eq_true_eq, decide_eq_false_iff_not, bne_iff_ne, beq_iff_eq, beq_eq_false_iff_ne, bne_eq_false_iff_eq, ne_eq, Int.not_lt, Int.not_le, Decidable.not_not] at hq)) <;> (try (have hr := hg; simp only [decide_eq_true_eq, decide_eq_false_iff_not] at hr)) <;> (try (exfalso; omega))) | ((first | refine aw_hide fun K hK => aw_region ?_ | refine ago_if (by omega) ?_ | skip); simp (config := {maxSteps := 10000000}) (disch := first | exact okYes (by kernel_rfl) | omega) only [List.length, Nat.zero_add, Nat.reduceAdd, Nat.reduceMul, dI, dB, ARun_none, AOpRun, aexec, FSt.ev, St.F, eget_c, Nat.reduceBEq, ↓eget_h, cond_false, AGo_ok, St.app, putO, eput_c, eput_n, hups, List.map, sps_len, isSh, Bool.false_eq_true, ↓reduceIte, Option.map, abin, ARun_nil, dropE_c, inL_c, inL_n, beq_self_eq_true, cond_true, dropE_n, hr, decide_true, ARun_some, AG_tf, Int.natCast_nonneg, sps_all, and_self, opt1, Int.toNat_natCast, g1, Int.reduceLE, cast_lit, Int.reduceLT, Int.reduceToNat, List.drop, run1, List.getElem?_cons_zero, q5, fits]) | (subst hK; repeat' (first | with_reducible refine thenQ_n ?_ | with_reducible refine blockQ_n ?_ | with_reducible refine thenQ_e ?_ | with_reducible refine blockQ_t ?_ | with_reducible refine blockQ_f (by decide) ?_))))
    refine ⟨k + 1, by omega, by omega, ?_⟩
    rw [e2]
    refine wk_to [] [] (by kernel_rfl) (by kernel_rfl) (by kernel_rfl) (by kernel_rfl) (by kernel_rfl) ?_ ?_ <;> repeat' (first | exact trivial | exact vr_val _ | exact vr_list _ | apply And.intro)
  | false =>
    rw [hi1, Bool.false_or] at e2
    cases q6 : (lo s k == p) <;> cases q7 : (hi s k == q)
    all_goals
      rw [q6, q7] at e2
      (have hg : (987654321 : Nat) - 987654321 = 0 := rfl; have hr := hg; repeat' (first | refine aw_seq ?_ | (refine aw_skip ?_; repeat' (first | with_reducible refine thenQ_n ?_ | with_reducible refine blockQ_n ?_ | with_reducible refine thenQ_e ?_ | with_reducible refine blockQ_t ?_ | with_reducible refine blockQ_f (by decide) ?_)) | (refine aw_exit ?_; repeat' (first | with_reducible refine thenQ_n ?_ | with_reducible refine blockQ_n ?_ | with_reducible refine thenQ_e ?_ | with_reducible refine blockQ_t ?_ | with_reducible refine blockQ_f (by decide) ?_)) | refine aw_ret ?_ | refine aw_block ?_ | refine aw_condT rfl ?_ | refine aw_condF rfl ?_ | ((first | refine aw_hide fun K hK => aw_region ?_ | refine ago_if (by omega) ?_ | skip); simp (config := {maxSteps := 10000000}) (disch := first | exact okYes (by kernel_rfl) | omega) only [List.length, Nat.zero_add, Nat.reduceAdd, Nat.reduceMul, dI, dB, ARun_none, AOpRun, aexec, FSt.ev, St.F, eget_c, Nat.reduceBEq, ↓eget_h, cond_false, AGo_ok, St.app, putO, eput_c, eput_n, hups, List.map, sps_len, isSh, Bool.false_eq_true, ↓reduceIte, Option.map, abin, ki, decide_true, ARun_nil, dropE_c, inL_c, inL_n, beq_self_eq_true, cond_true, dropE_n, ARun_some, AG_ff, Int.natCast_nonneg, sps_all, and_self, opt1, Int.toNat_natCast, g1, Nat.reduceLeDiff, List.take, fillD, D.isBot, D.cells, ne_eq, not_true_eq_false, Nat.reduceGT, or_self, splice, List.nil_append, List.drop, List.cons_append, List.append_nil, D.isAgg, isB, eqCells, scalarEq, q6, q7, Bool.and_true, Bool.and_false, bne_self_eq_false, Int.reduceLE, cast_lit, Int.reduceLT, Int.reduceToNat, run1, List.getElem?_cons_zero, q5, fits]) | (subst hK; repeat' (first | with_reducible refine thenQ_n ?_ | with_reducible refine blockQ_n ?_ | with_reducible refine thenQ_e ?_ | with_reducible refine blockQ_t ?_ | with_reducible refine blockQ_f (by decide) ?_))))
      refine ⟨k + 1, by omega, by omega, ?_⟩
      rw [e2]
      refine wk_to [] [] (by kernel_rfl) (by kernel_rfl) (by kernel_rfl) (by kernel_rfl) (by kernel_rfl) ?_ ?_ <;> repeat' (first | exact trivial | exact vr_val _ | exact vr_list _ | apply And.intro)
end Go.Proofs.Ytdcodicoclecnaa
