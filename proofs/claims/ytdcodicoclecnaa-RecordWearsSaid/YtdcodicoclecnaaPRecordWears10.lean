/- Texts of the law RecordWears, part 10. No conditions. -/
import Derived.Test.YtdcodicoclecnaaPRecordWears09
import Derived.Test.YtdcodicoclecnaaRows
set_option linter.unusedSimpArgs false
set_option linter.unusedVariables false
/- The document of record: Good, samples, Read, Peak. No conditions. -/
namespace Go.Proofs.Ytdcodicoclecnaa
open Go Go.RowKit Lift

theorem uw_in {x : Int} (h1 : 0 ≤ x) (h2 : x < 18446744073709551616) : IntKind.u64.wrap x = x := by
  have h3 : x % 18446744073709551616 = x := Int.emod_eq_of_lt h1 h2
  unfold IntKind.wrap
  show (if (false && _) = true then _ else x % (2 ^ 64 : Int)) = x
  rw [Bool.false_and, if_neg (by simp)]
  exact h3
set_option maxHeartbeats 2000000 in
theorem checkF_ac (l : Lay) (frs : List (List Int)) (hl : LayIn l) (hf : FrIn frs) : AC Try.prog 68 [layD l, .list (rows frs)] [] [] (dI (tpE l frs)) := by
  refine kref12_CheckFrames.ac (n0 := 0) (by simp) ⟨in_layD _ _, .list _, trivial⟩ trivial rfl ?_
  unfold cref12_CheckFrames
  have ck := rcheck_ac l hl
  have hmax : maxLen = 9223372036854775807 := rfl
  have hn := hf.n
  unfold layD layC at *
  by_cases h1 : LayOk l
  · rw [layE_ok h1] at ck
    cases q : decide ((frs.length : Int) > 200) with
    | true =>
      rw [tpE_many h1 (by have := of_decide_eq_true q; omega)]
      (repeat' (first | apply aw_seq | ((first | apply aw_skip | apply aw_exit); try simp only [thenQ, blockQ, if_true, if_false, Nat.reduceEqDiff, reduceCtorEq]) | apply aw_ret | apply aw_block | apply aw_condT rfl | apply aw_condF rfl | ((first | refine aw_region ?_ | refine acall0 (ck) ?_ | refine ago_if (by omega) ?_ | skip); simp (disch := first | exact okY | omega) only [ZU, dI, Nat.reduceAdd, Nat.reduceMul, AOpRun, aexec, D.isBot, ↓eget_h, or_self, ↓reduceIte, D.cells, Nat.reduceBEq, Nat.reduceLeDiff, List.drop, List.take, isSh, abin, bne_self_eq_false, rows_len, q])))
      all_goals (refine end_q [] [] ?_ ?_ <;> repeat' (first | exact trivial | exact vr_val _))
    | false =>
      rw [tpE_ok h1 (by have := of_decide_eq_false q; omega)]
      (repeat' (first | apply aw_seq | ((first | apply aw_skip | apply aw_exit); try simp only [thenQ, blockQ, if_true, if_false, Nat.reduceEqDiff, reduceCtorEq]) | apply aw_ret | apply aw_block | apply aw_condT rfl | apply aw_condF rfl | ((first | refine aw_region ?_ | refine acall0 (ck) ?_ | refine ago_if (by omega) ?_ | skip); simp (disch := first | exact okY | omega) only [ZU, dI, Nat.reduceAdd, Nat.reduceMul, AOpRun, aexec, D.isBot, ↓eget_h, or_self, ↓reduceIte, D.cells, Nat.reduceBEq, Nat.reduceLeDiff, List.drop, List.take, isSh, abin, bne_self_eq_false, rows_len, q])))
      all_goals (refine end_q [] [] ?_ ?_ <;> repeat' (first | exact trivial | exact vr_val _))
  · rw [layE_no h1] at ck
    rw [tpE_no h1]
    (repeat' (first | apply aw_seq | ((first | apply aw_skip | apply aw_exit); try simp only [thenQ, blockQ, if_true, if_false, Nat.reduceEqDiff, reduceCtorEq]) | apply aw_ret | apply aw_block | apply aw_condT rfl | apply aw_condF rfl | ((first | refine aw_region ?_ | refine acall0 (ck) ?_ | refine ago_if (by omega) ?_ | skip); simp (disch := first | exact okY | omega) only [ZU, dI, Nat.reduceAdd, Nat.reduceMul, AOpRun, aexec, D.isBot, ↓eget_h, or_self, ↓reduceIte, D.cells, Nat.reduceBEq, Nat.reduceLeDiff, List.drop, List.take, isSh, abin, Int.reduceBNe])))
    all_goals (refine end_q [] [] ?_ ?_ <;> repeat' (first | exact trivial | exact vr_val _))
end Go.Proofs.Ytdcodicoclecnaa
/- The document of record: samples, Read, Peak. No conditions. -/
namespace Go.Proofs.Ytdcodicoclecnaa
open Go Go.RowKit Lift

set_option maxHeartbeats 2000000 in
theorem rraw_ac {w : Int} {f : Fl} (h : FOk w f) (fr : List Int) (x : Nat) (hw : f.word.toNat < fr.length) (hx : fr[f.word.toNat]?.getD 0 = (x : Int)) (hlt : x < 4096) : AC Try.prog 127 [flD f, .list (ints fr)] [] [] (dI (rawI f x)) := by
  refine kref12_raw.ac (n0 := 0) (by simp) ⟨in_flD _ _, .list _, trivial⟩ trivial rfl ?_
  unfold cref12_raw flD flC
  obtain ⟨h1, h2, h3, h4, h5, h6, h7⟩ := size_pow h
  have b1 := h.b1
  have s1 := h.s1
  have bs := h.bs
  have w1 := h.w1
  have e0 : IntKind.i64.bits = 64 := rfl
  have e1 : min f.bit.toNat IntKind.i64.bits = f.bit.toNat := by rw [e0]; omega
  have e2 : min (f.size - 1).toNat IntKind.i64.bits = f.size.toNat - 1 := by rw [e0]; omega
  have e3 : min f.size.toNat IntKind.i64.bits = f.size.toNat := by rw [e0]; omega
  have c1 : IntKind.u64.wrap f.bit = f.bit := uw_in (by omega) (by omega)
  have c2 : IntKind.u64.wrap f.size = f.size := uw_in (by omega) (by omega)
  have c3 : IntKind.u64.wrap (f.size - 1) = f.size - 1 := uw_in (by omega) (by omega)
  have p0 : 0 ≤ f.size := by omega
  have p1 : 0 ≤ f.size - 1 := by omega
  have p2 : 0 ≤ f.word := by omega
  have p3 : f.word < (fr.length : Int) := by omega
  have g1 := ints_gd fr f.word.toNat hw
  rw [hx] at g1
  have a0 : Int.fdiv (x : Int) (2 ^ f.bit.toNat) = ((x / 2 ^ f.bit.toNat : Nat) : Int) := fdiv_pow _ _
  have pp : ((2 ^ f.size.toNat : Nat) : Int) = (2 : Int) ^ f.size.toNat := by simp
  have a1 : IntKind.i64.wrap (1 * 2 ^ f.size.toNat) = ((2 ^ f.size.toNat : Nat) : Int) := by rw [Int.one_mul, ← pp]; exact wrap_in (by omega) (by omega)
  have a2 : ((2 ^ f.size.toNat : Nat) : Int) - 1 = ((2 ^ f.size.toNat - 1 : Nat) : Int) := by omega
  have a3 : IntKind.i64.wrap ((2 ^ f.size.toNat - 1 : Nat) : Int) = ((2 ^ f.size.toNat - 1 : Nat) : Int) := wrap_in (by omega) (by omega)
  have hd : x / 2 ^ f.bit.toNat ≤ x := Nat.div_le_self _ _
  have a4 : IntKind.i64.wrap ((BitVec.ofInt IntKind.i64.bits ((x / 2 ^ f.bit.toNat : Nat) : Int) &&& BitVec.ofInt IntKind.i64.bits ((2 ^ f.size.toNat - 1 : Nat) : Int)).toNat) = ((rawU f x : Nat) : Int) := by
    rw [and_nat _ _ (by omega) (by omega), and_low]; rfl
  have hr := rawU_lt h x
  have pq : ((2 ^ (f.size.toNat - 1) : Nat) : Int) = (2 : Int) ^ (f.size.toNat - 1) := by simp
  have a5 : IntKind.i64.wrap (1 * 2 ^ (f.size.toNat - 1)) = ((2 ^ (f.size.toNat - 1) : Nat) : Int) := by rw [Int.one_mul, ← pq]; exact wrap_in (by omega) (by omega)
  unfold rawI
  cases hs : f.sgn with
  | false =>
    rw [if_neg (by rintro ⟨h, _⟩; cases h)]
    (repeat' (first | apply aw_seq | ((first | apply aw_skip | apply aw_exit); try simp only [thenQ, blockQ, if_true, if_false, Nat.reduceEqDiff, reduceCtorEq]) | apply aw_ret | apply aw_block | apply aw_condT rfl | apply aw_condF rfl | ((first | refine aw_region ?_ | refine ago_if (by omega) ?_ | skip); simp (disch := first | exact okY | omega) only [ZU, dI, Nat.reduceAdd, Nat.reduceMul, dB, AOpRun, aexec, D.isBot, ↓eget_h, or_self, ↓reduceIte, D.cells, Nat.reduceBEq, run1, p2, ints_all, opt1, g1, c1, isSh, ash, b1, e1, a0, c2, p0, e3, a1, abin, a2, a3, a4, ARun_some, AG_ft])))
    all_goals (refine end_q [] [] ?_ ?_ <;> repeat' (first | exact trivial | exact vr_val _))
  | true =>
    by_cases hh : 2 ^ (f.size.toNat - 1) ≤ rawU f x
    · have q : decide (((rawU f x : Nat) : Int) ≥ ((2 ^ (f.size.toNat - 1) : Nat) : Int)) = true := decide_eq_true (by omega)
      rw [if_pos ⟨rfl, hh⟩]
      have a6 : IntKind.i64.wrap (((rawU f x : Nat) : Int) - ((2 ^ f.size.toNat : Nat) : Int)) = ((rawU f x : Nat) : Int) - 2 ^ f.size.toNat := by rw [← pp]; exact wrap_in (by omega) (by omega)
      (repeat' (first | apply aw_seq | ((first | apply aw_skip | apply aw_exit); try simp only [thenQ, blockQ, if_true, if_false, Nat.reduceEqDiff, reduceCtorEq]) | apply aw_ret | apply aw_block | apply aw_condT rfl | apply aw_condF rfl | ((first | refine aw_region ?_ | refine ago_if (by omega) ?_ | skip); simp (disch := first | exact okY | omega) only [ZU, dI, Nat.reduceAdd, Nat.reduceMul, dB, AOpRun, aexec, D.isBot, ↓eget_h, or_self, ↓reduceIte, D.cells, Nat.reduceBEq, run1, p2, ints_all, opt1, g1, c1, isSh, ash, b1, e1, a0, c2, p0, e3, a1, abin, a2, a3, a4, ARun_some, AG_tt, fits, c3, p1, e2, a5, q, a6])))
      all_goals (refine end_q [] [] ?_ ?_ <;> repeat' (first | exact trivial | exact vr_val _))
    · have q : decide (((rawU f x : Nat) : Int) ≥ ((2 ^ (f.size.toNat - 1) : Nat) : Int)) = false := decide_eq_false (by omega)
      rw [if_neg (by rintro ⟨_, h⟩; exact hh h)]
      (repeat' (first | apply aw_seq | ((first | apply aw_skip | apply aw_exit); try simp only [thenQ, blockQ, if_true, if_false, Nat.reduceEqDiff, reduceCtorEq]) | apply aw_ret | apply aw_block | apply aw_condT rfl | apply aw_condF rfl | ((first | refine aw_region ?_ | refine ago_if (by omega) ?_ | skip); simp (disch := first | exact okY | omega) only [ZU, dI, Nat.reduceAdd, Nat.reduceMul, dB, AOpRun, aexec, D.isBot, ↓eget_h, or_self, ↓reduceIte, D.cells, Nat.reduceBEq, run1, p2, ints_all, opt1, g1, c1, isSh, ash, b1, e1, a0, c2, p0, e3, a1, abin, a2, a3, a4, ARun_some, AG_tt, fits, c3, p1, e2, a5, q])))
      all_goals (refine end_q [] [] ?_ ?_ <;> repeat' (first | exact trivial | exact vr_val _))
theorem smp_parts {l : Lay} {f : Fl} {fr : List Int} (hf : FOk l.words f) (hs : 0 ≤ subF l fr) : ∃ x : Nat, f.word.toNat < fr.length ∧ fr[f.word.toNat]?.getD 0 = (x : Int) ∧ x < 4096 ∧ (inSub f (subF l fr) → smp l f fr = some (valI f (rawI f x))) := by
  obtain ⟨hfl, hfa⟩ := subF_ok hs
  have w1 := hf.w1
  have w2 := hf.w2
  have hwl : f.word.toNat < fr.length := by omega
  have h4 : wOk (fr[f.word.toNat]?.getD 0) = true := by
    rw [List.getElem?_eq_getElem hwl]
    exact List.all_eq_true.1 hfa _ (List.getElem_mem hwl)
  have h5 : 0 ≤ fr[f.word.toNat]?.getD 0 ∧ fr[f.word.toNat]?.getD 0 ≤ 4095 := by unfold wOk at h4; simpa using h4
  exact ⟨(fr[f.word.toNat]?.getD 0).toNat, hwl, (Int.toNat_of_nonneg h5.1).symm, by omega, fun h => if_pos ⟨hs, h⟩⟩
set_option maxRecDepth 100000 in
set_option maxHeartbeats 4000000 in
theorem rsample_ac (l : Lay) (f : Fl) (fr : List Int) (hw : 2 ≤ l.words) (hf : FOk l.words f) (hl : fr.length ≤ maxLen) : AC Try.prog 96 [layD l, flD f, .list (ints fr)] [] [] (.tup [dI ((smp l f fr).getD 0), dB (smp l f fr).isSome]) := by
  refine kref12_sample.ac (n0 := 0) (by simp) ⟨in_layD _ _, in_flD _ _, .list _, trivial⟩ trivial rfl ?_
  unfold cref12_sample
  have sf := subf_ac l fr hw hl
  have ev : f.every ≠ 0 := by rcases hf.ev with h | h | h <;> omega
  have sb := subF_bd l fr
  by_cases hs : 0 ≤ subF l fr
  case neg =>
    have q : decide (subF l fr < 0) = true := decide_eq_true (by omega)
    rw [show smp l f fr = none from if_neg fun h => hs h.1]
    unfold layD layC flD flC at *
    (repeat' (first | apply aw_seq | ((first | apply aw_skip | apply aw_exit); try simp only [thenQ, blockQ, if_true, if_false, Nat.reduceEqDiff, reduceCtorEq]) | apply aw_ret | apply aw_block | apply aw_condT rfl | apply aw_condF rfl | ((first | refine aw_region ?_ | refine acall0 (sf) ?_ | refine ago_if (by omega) ?_ | skip); simp (disch := first | exact okY | omega) only [ZU, dI, dB, Nat.reduceAdd, Nat.reduceMul, AOpRun, aexec, D.isBot, ↓eget_h, or_self, ↓reduceIte, D.cells, Nat.reduceBEq, Nat.reduceLeDiff, List.drop, List.take, isSh, abin, q, ARun_some, AG_tf])))
    all_goals (refine end_q [] [] ?_ ?_ <;> repeat' (first | exact trivial | exact vr_val _ | apply vr_tup | apply And.intro))
  obtain ⟨x, x1, x2, x3, x4⟩ := smp_parts hf hs
  have q : decide (subF l fr < 0) = false := decide_eq_false (by omega)
  by_cases hin : inSub f (subF l fr)
  case neg =>
    have q2 : ((subF l fr).tmod f.every != f.phase) = true := by simp only [bne_iff_ne, ne_eq]; exact hin
    rw [show smp l f fr = none from if_neg fun h => hin h.2]
    unfold layD layC flD flC at *
    (repeat' (first | apply aw_seq | ((first | apply aw_skip | apply aw_exit); try simp only [thenQ, blockQ, if_true, if_false, Nat.reduceEqDiff, reduceCtorEq]) | apply aw_ret | apply aw_block | apply aw_condT rfl | apply aw_condF rfl | ((first | refine aw_region ?_ | refine acall0 (sf) ?_ | refine ago_if (by omega) ?_ | skip); simp (disch := first | exact okY | omega) only [ZU, dI, dB, Nat.reduceAdd, Nat.reduceMul, AOpRun, aexec, D.isBot, ↓eget_h, or_self, ↓reduceIte, D.cells, Nat.reduceBEq, Nat.reduceLeDiff, List.drop, List.take, isSh, abin, q, ARun_some, AG_ff, run1, ↓hget_h, ev, q2])))
    all_goals (refine end_q [] [] ?_ ?_ <;> repeat' (first | exact trivial | exact vr_val _ | apply vr_tup | apply And.intro))
  have q2 : ((subF l fr).tmod f.every != f.phase) = false := by simp only [bne_eq_false_iff_eq]; exact hin
  have rr := rraw_ac hf fr x x1 x2 x3
  rw [x4 hin]
  have m1 := mulB hf.a1 hf.a2 (by have := hf.d1; omega : -(1000 : Int) ≤ f.den) hf.d2
  have rb := rawI_bd hf x
  have m2 := mulB rb.1 rb.2 hf.n1 hf.n2
  have e1 : IntKind.i64.wrap (f.add * f.den) = f.add * f.den := wrap_in (by omega) (by omega)
  have e2 : IntKind.i64.wrap (rawI f x * f.num) = rawI f x * f.num := wrap_in (by omega) (by omega)
  have e3 : IntKind.i64.wrap (f.add * f.den + rawI f x * f.num) = valI f (rawI f x) := wrap_in (by omega) (by omega)
  simp only [Option.getD_some, Option.isSome_some]
  unfold layD layC flD flC at *
  generalize rawI f x = rw at *
  (repeat' (first | apply aw_seq | ((first | apply aw_skip | apply aw_exit); try simp only [thenQ, blockQ, if_true, if_false, Nat.reduceEqDiff, reduceCtorEq]) | apply aw_ret | apply aw_block | apply aw_condT rfl | apply aw_condF rfl | ((first | refine aw_region ?_ | refine acall0 (sf) ?_ | refine acall0 (rr) ?_ | refine ago_if (by omega) ?_ | skip); simp (disch := first | exact okY | omega) only [ZU, dI, dB, Nat.reduceAdd, Nat.reduceMul, AOpRun, aexec, D.isBot, ↓eget_h, or_self, ↓reduceIte, D.cells, Nat.reduceBEq, Nat.reduceLeDiff, List.drop, List.take, isSh, abin, q, ARun_some, AG_ff, run1, ↓hget_h, ev, q2, e1, e2, e3])))
  all_goals (refine end_q [] [] ?_ ?_ <;> repeat' (first | exact trivial | exact vr_val _ | apply vr_tup | apply And.intro))
set_option maxRecDepth 100000 in
set_option maxHeartbeats 4000000 in
theorem rsamples_ac (l : Lay) (frs : List (List Int)) (n : Nat) (h1 : LayOk l) (h2 : frs.length ≤ 200) (hf : FrIn frs) (hn : n < l.fl.length) : AC Try.prog 70 [layD l, .list (rows frs), dI n] [] [] (.list (sps (smps l (fAt l n) frs frs.length))) := by
  refine kref12_Samples.ac (n0 := 0) (by simp) ⟨in_layD _ _, .list _, .val _, trivial⟩ trivial rfl ?_
  unfold cref12_Samples
  have rs := fun k => rsample_ac l (fAt l n) (frm frs k) h1.w1 (fAt_ok h1 hn) (hf.m k)
  have nf := h1.nf
  have g0 : (fls l.fl)[n]? = some (flC (fAt l n)) := fls_gd l.fl n hn
  have ni : (n : Int) < (l.fl.length : Int) := by omega
  have fa := fls_all l.fl
  have fl := fls_len l.fl
  generalize fAt l n = f at *
  unfold layD layC flD flC at *
  refine aw_seq (aw_region ?_)
  simp (disch := first | exact okY | omega) only [ZU, Nat.reduceAdd, Nat.reduceMul, dI, AOpRun, aexec, D.isBot, ↓eget_h, or_self, ↓reduceIte, D.cells, Nat.reduceBEq]
  refine aw_seq (aw_region ?_)
  simp (disch := first | exact okY | omega) only [ZU, Nat.reduceMul, Nat.reduceAdd, AOpRun, aexec, Nat.reduceBEq]
  refine aw_seq (aw_seq (aw_region ?_))
  simp (disch := first | exact okY | omega) only [ZU, Nat.reduceMul, Nat.reduceAdd, AOpRun, aexec, Nat.reduceBEq]
  refine aw_block (aw_loop (fun k : Nat => ⟨[(1, .list (rows frs)), (2, dI n), (3, .ptr 0 0), (7, .vec 40 (smps l f frs k).length 2), (8, dI k)], [(0, [dI l.words, dI l.s0, dI l.s1, dI l.s2, dI l.s3, .list (fls l.fl)]), (40, scells (smps l f frs k))], 400⟩) (fun k => k ≤ frs.length) (fun k => frs.length - k) ⟨0, by omega, ?_⟩ ?_)
  · show Wk _ _ ⟨[_, _, _, (7, .vec 40 0 2), _], [_, (40, [])], _⟩
    unfold dI
    refine wk_q [] [(0, 0), (40, 900)] ?_ ?_ <;> repeat' (first | exact trivial | exact vr_val _ | exact vr_list _ | exact vr_ptr _ _ _ rfl | exact vr_nilv _ _ _ rfl | refine And.intro ⟨_, rfl, .inl ⟨_, rfl, by decide, ?_⟩⟩ ?_ | refine And.intro ⟨_, rfl, .inr ⟨rfl, rfl, of_decide_eq_true (by kernel_rfl)⟩⟩ ?_ | apply And.intro)
  intro k hk
  have hgl := smps_len l f frs k
  by_cases hk2 : k < frs.length
  case neg =>
    obtain rfl : k = frs.length := by omega
    generalize smps l f frs frs.length = L at *
    (have hg : (987654321 : Nat) - 987654321 = 0 := rfl; have hr := hg; repeat' (first | apply aw_seq | ((first | apply aw_skip | apply aw_exit); try simp only [thenQ, blockQ, if_true, if_false, Nat.reduceEqDiff, reduceCtorEq]) | apply aw_ret | apply aw_block | apply aw_condT rfl | apply aw_condF rfl | (refine aw_cond rfl (fun hg => ?_) (fun hg => ?_) <;> (try (have hq := hg; simp only [Bool.not_eq_true', Bool.not_eq_false', Bool.and_eq_true, Bool.and_eq_false_iff, Bool.or_eq_true, Bool.or_eq_false_iff, decide_eq_true_eq, decide_eq_false_iff_not, bne_iff_ne, beq_iff_eq, beq_eq_false_iff_ne, bne_eq_false_iff_eq, ne_eq, Int.not_lt, Int.not_le, Decidable.not_not] at hq)) <;> (try (have hr := hg; simp only [decide_eq_true_eq, decide_eq_false_iff_not] at hr)) <;> (try (exfalso; omega))) | ((first | refine aw_region ?_ | refine ago_if (by omega) ?_ | skip); simp (disch := first | exact okY | omega) only [ZU, dI, Nat.reduceAdd, Nat.reduceMul, AOpRun, aexec, Nat.reduceBEq, ↓eget_h, rows_len, isSh, ↓reduceIte, abin, hr, decide_false])))
    refine end_q [40] [] ?_ ?_ <;> repeat' (first | exact trivial | refine vr_fl _ _ _ _ _ (by decide) rfl ?_ ?_ ?_ ?_)
    all_goals first | exact sps_two _ | exact sps_len _ | exact sps_flat _ | exact scells_in _
  have g1 := rows_gd frs k hk2
  rw [show frs[k]?.getD [] = frm frs k from rfl] at g1
  have sf := rs k
  have e := smps_succ l f frs k
  cases hs : smp l f (frm frs k) with
  | some v =>
    rw [hs] at sf e
    simp only [Option.getD_some, Option.isSome_some] at sf e
    have hic : (scells (smps l f frs k)).length = (smps l f frs k).length * 2 := scells_len _
    have hit : (scells (smps l f frs k)).take ((smps l f frs k).length * 2) = scells (smps l f frs k) := sc_all _
    have hlen : (smps l f frs (k + 1)).length = (smps l f frs k).length + 1 := by rw [e]; simp
    have e2 : scells (smps l f frs (k + 1)) = scells (smps l f frs k) ++ [.val (.int .i64 (k : Int)), .val (.int .i64 v)] := by rw [e]; exact (sc_snoc _ ((k : Int), v)).symm
    have hcin : ∀ y ∈ scells (smps l f frs k) ++ [.val (.int .i64 (k : Int)), .val (.int .i64 v)], In (fun _ => False) y := by rw [← e2]; exact scells_in _
    generalize hL : smps l f frs k = L at *
    (have hg : (987654321 : Nat) - 987654321 = 0 := rfl; have hr := hg; repeat' (first | apply aw_seq | ((first | apply aw_skip | apply aw_exit); try simp only [thenQ, blockQ, if_true, if_false, Nat.reduceEqDiff, reduceCtorEq]) | apply aw_ret | apply aw_block | apply aw_condT rfl | apply aw_condF rfl | (refine aw_cond rfl (fun hg => ?_) (fun hg => ?_) <;> (try (have hq := hg; simp only [Bool.not_eq_true', Bool.not_eq_false', Bool.and_eq_true, Bool.and_eq_false_iff, Bool.or_eq_true, Bool.or_eq_false_iff, decide_eq_true_eq, decide_eq_false_iff_not, bne_iff_ne, beq_iff_eq, beq_eq_false_iff_ne, bne_eq_false_iff_eq, ne_eq, Int.not_lt, Int.not_le, Decidable.not_not] at hq)) <;> (try (have hr := hg; simp only [decide_eq_true_eq, decide_eq_false_iff_not] at hr)) <;> (try (exfalso; omega))) | ((first | refine aw_region ?_ | refine acall0 (sf) ?_ | refine ago_if (by omega) ?_ | skip); simp (disch := first | exact okY | omega) only [ZU, dI, Nat.reduceAdd, Nat.reduceMul, AOpRun, aexec, Nat.reduceBEq, ↓eget_h, rows_len, isSh, ↓reduceIte, abin, hr, Nat.le_refl, List.drop, List.take, run1, fa, opt1, g0, dB, rows_all, g1, blockQ, fillD, D.isBot, D.cells, ne_eq, not_true_eq_false, Nat.reduceGT, or_self, splice, base, ↓hget_h, hic, hit, elems, List.all, D.leaf, and_true, ups, hdel_c, hdel_n, fits])))
    refine ⟨k + 1, by omega, by omega, ?_⟩
    rw [e2, hlen]
    refine wk_q [] [(0, 0), (40, 608)] ?_ ?_ <;> repeat' (first | exact trivial | exact vr_val _ | exact vr_list _ | exact vr_vec _ _ _ _ rfl | exact vr_ptr _ _ _ rfl | refine And.intro ⟨_, rfl, .inl ⟨_, rfl, by decide, ?_⟩⟩ ?_ | apply And.intro | exact vrl_flat _ (by first | exact icells_in _ | exact rcells_in _ | exact scells_in _ | exact bcells_in _ | assumption) | fail)
  | none =>
    rw [hs] at sf e
    simp only [Option.getD_none, Option.isSome_none, List.append_nil] at sf e
    (have hg : (987654321 : Nat) - 987654321 = 0 := rfl; have hr := hg; repeat' (first | apply aw_seq | ((first | apply aw_skip | apply aw_exit); try simp only [thenQ, blockQ, if_true, if_false, Nat.reduceEqDiff, reduceCtorEq]) | apply aw_ret | apply aw_block | apply aw_condT rfl | apply aw_condF rfl | (refine aw_cond rfl (fun hg => ?_) (fun hg => ?_) <;> (try (have hq := hg; simp only [Bool.not_eq_true', Bool.not_eq_false', Bool.and_eq_true, Bool.and_eq_false_iff, Bool.or_eq_true, Bool.or_eq_false_iff, decide_eq_true_eq, decide_eq_false_iff_not, bne_iff_ne, beq_iff_eq, beq_eq_false_iff_ne, bne_eq_false_iff_eq, ne_eq, Int.not_lt, Int.not_le, Decidable.not_not] at hq)) <;> (try (have hr := hg; simp only [decide_eq_true_eq, decide_eq_false_iff_not] at hr)) <;> (try (exfalso; omega))) | ((first | refine aw_region ?_ | refine acall0 (sf) ?_ | refine ago_if (by omega) ?_ | skip); simp (disch := first | exact okY | omega) only [ZU, dI, Nat.reduceAdd, Nat.reduceMul, AOpRun, aexec, Nat.reduceBEq, ↓eget_h, rows_len, isSh, ↓reduceIte, abin, hr, Nat.reduceLeDiff, List.drop, List.take, run1, fa, opt1, g0, dB, rows_all, g1, fits])))
    refine ⟨k + 1, by omega, by omega, ?_⟩
    rw [e]
    refine wk_q [] [(0, 0), (40, 40)] ?_ ?_ <;> repeat' (first | exact trivial | exact vr_val _ | exact vr_list _ | exact vr_vec _ _ _ _ rfl | exact vr_ptr _ _ _ rfl | refine And.intro ⟨_, rfl, .inl ⟨_, rfl, by decide, ?_⟩⟩ ?_ | apply And.intro | exact vrl_flat _ (by first | exact icells_in _ | exact rcells_in _ | exact scells_in _ | exact bcells_in _ | assumption) | fail)
set_option maxRecDepth 100000 in
set_option maxHeartbeats 1000000 in
theorem rfield_ac (l : Lay) (n : Int) (hn : l.fl.length ≤ 1000) : AC Try.prog 69 [layD l, dI n] [] [] (dB (wI n 0 ((l.fl.length : Int) - 1))) := by
  refine kref12_field.ac (n0 := 0) (by simp) ⟨in_layD _ _, .val _, trivial⟩ trivial rfl ?_
  unfold cref12_field layD layC
  (repeat' (first | apply aw_seq | ((first | apply aw_skip | apply aw_exit); try simp only [thenQ, blockQ, if_true, if_false, Nat.reduceEqDiff, reduceCtorEq]) | apply aw_ret | apply aw_block | apply aw_condT rfl | apply aw_condF rfl | ((first | refine aw_region ?_ | refine acall0 (from_ac _ _ _) ?_ | refine ago_if (by omega) ?_ | skip); simp (disch := first | exact okY | omega) only [ZU, dB, Nat.reduceAdd, Nat.reduceMul, dI, AOpRun, aexec, D.isBot, ↓eget_h, or_self, ↓reduceIte, D.cells, Nat.reduceBEq, run1, fls_len, isSh, abin, fits])))
  all_goals (refine end_q [] [] ?_ ?_ <;> repeat' (first | exact trivial | exact vr_val _))
theorem readR_no {l : Lay} {frs : List (List Int)} {x : Int} (h : wfE l frs [x] ≠ 0) : readR l frs x = [] := if_neg h
set_option maxRecDepth 100000 in
set_option maxHeartbeats 2000000 in
theorem rread_ac (l : Lay) (frs : List (List Int)) (x : Int) (hl : LayIn l) (hf : FrIn frs) : AC Try.prog 19 [layD l, .list (rows frs), dI x] [] [] (.tup [.list (sps (readR l frs x)), dI (wfE l frs [x])]) := by
  refine kref12_Read.ac (n0 := 0) (by simp) ⟨in_layD _ _, .list _, .val _, trivial⟩ trivial rfl ?_
  unfold cref12_Read
  have ck := checkF_ac l frs hl hf
  rcases tpE_cases l frs with ⟨h0, h1, h2⟩ | ⟨h0, h1⟩
  · rw [h0] at ck
    have fa := rfield_ac l x (by have := h1.nf; omega)
    have hw : wfE l frs [x] = if hasA l [x] = true then 0 else 1 := if_pos h0
    rw [hasA_one] at hw
    cases hb : wI x 0 ((l.fl.length : Int) - 1) with
    | false =>
      rw [hb] at fa hw
      rw [if_neg (by simp)] at hw
      rw [readR_no (by rw [hw]; omega), hw]
      unfold layD layC at *
      (repeat' (first | apply aw_seq | ((first | apply aw_skip | apply aw_exit); try simp only [thenQ, blockQ, if_true, if_false, Nat.reduceEqDiff, reduceCtorEq]) | apply aw_ret | apply aw_block | apply aw_condT rfl | apply aw_condF rfl | ((first | refine aw_region ?_ | refine acall0 (ck) ?_ | refine acall0 (fa) ?_ | refine ago_if (by omega) ?_ | skip); simp (disch := first | exact okY | omega) only [ZU, dI, Nat.reduceAdd, Nat.reduceMul, AOpRun, aexec, D.isBot, ↓eget_h, or_self, ↓reduceIte, D.cells, Nat.reduceBEq, Nat.reduceLeDiff, List.drop, List.take, isSh, abin, bne_self_eq_false, dB])))
      all_goals (refine end_q [] [] ?_ ?_ <;> repeat' (first | exact trivial | exact vr_val _ | exact vr_nil | apply vr_tup | apply And.intro))
    | true =>
      rw [hb] at fa hw
      rw [if_pos rfl] at hw
      have hx := wI_t hb
      obtain ⟨n, rfl⟩ : ∃ n : Nat, x = n := ⟨x.toNat, by omega⟩
      have rs := rsamples_ac l frs n h1 h2 hf (by omega)
      have hr : readR l frs n = smps l (fAt l n) frs frs.length := by unfold readR; rw [if_pos hw, Int.toNat_natCast]
      rw [hr, hw]
      unfold layD layC at *
      (repeat' (first | apply aw_seq | ((first | apply aw_skip | apply aw_exit); try simp only [thenQ, blockQ, if_true, if_false, Nat.reduceEqDiff, reduceCtorEq]) | apply aw_ret | apply aw_block | apply aw_condT rfl | apply aw_condF rfl | ((first | refine aw_region ?_ | refine acall0 (ck) ?_ | refine acall0 (fa) ?_ | refine acall0 (rs) ?_ | refine ago_if (by omega) ?_ | skip); simp (disch := first | exact okY | omega) only [ZU, dI, Nat.reduceAdd, Nat.reduceMul, AOpRun, aexec, D.isBot, ↓eget_h, or_self, ↓reduceIte, D.cells, Nat.reduceBEq, Nat.reduceLeDiff, List.drop, List.take, isSh, abin, bne_self_eq_false, dB])))
      all_goals (refine end_q [] [] ?_ ?_ <;> repeat' (first | exact trivial | exact vr_val _ | exact vr_list _ | apply vr_tup | apply And.intro))
  · have hw : wfE l frs [x] = tpE l frs := if_neg h0
    rw [readR_no (by rw [hw]; exact h0), hw]
    unfold layD layC at *
    generalize tpE l frs = E at *
    (repeat' (first | apply aw_seq | ((first | apply aw_skip | apply aw_exit); try simp only [thenQ, blockQ, if_true, if_false, Nat.reduceEqDiff, reduceCtorEq]) | apply aw_ret | apply aw_block | apply aw_condT rfl | apply aw_condF rfl | ((first | refine aw_region ?_ | refine acall0 (ck) ?_ | refine ago_if (by omega) ?_ | skip); simp (disch := first | exact okY | omega) only [ZU, dI, Nat.reduceAdd, Nat.reduceMul, AOpRun, aexec, D.isBot, ↓eget_h, or_self, ↓reduceIte, D.cells, Nat.reduceBEq, Nat.reduceLeDiff, List.drop, List.take, isSh, abin, h1])))
    all_goals (refine end_q [] [] ?_ ?_ <;> repeat' (first | exact trivial | exact vr_val _ | exact vr_nil | apply vr_tup | apply And.intro))
end Go.Proofs.Ytdcodicoclecnaa
/- record: Shake, all answers; the document's Series, Shaken, Shake. No conditions. -/
namespace Go.Proofs.Ytdcodicoclecnaa
open Go Go.RowKit Lift

theorem ict (b : List Int) (k : Nat) (h : k < b.length) : icells (b.take (k + 1)) = icells (b.take k) ++ [.val (.int .i64 (b[k]?.getD 0))] := by
  have e : b.take (k + 1) = b.take k ++ [b[k]?.getD 0] := by rw [List.take_add_one]; simp [h]
  rw [e, ic_app]
set_option maxRecDepth 100000 in
set_option maxHeartbeats 2000000 in
theorem rseries_ac (s : List (Int × Int)) (hs : s.length ≤ 1000000) : AC Try.prog 61 [.list (sps s)] [] [] (.list (ints (s.map (·.2)))) := by
  refine kref12_Series.ac (n0 := 0) (by simp) ⟨.list _, trivial⟩ trivial rfl ?_
  unfold cref12_Series
  have hl : (s.map (·.2)).length = s.length := by simp
  refine aw_seq (aw_region ?_)
  simp (disch := first | exact okY | omega) only [ZU, Nat.reduceMul, AOpRun, aexec, Nat.reduceBEq]
  refine aw_seq (aw_region ?_)
  simp (disch := first | exact okY | omega) only [ZU, Nat.reduceMul, Nat.reduceAdd, AOpRun, aexec, Nat.reduceBEq]
  refine aw_seq (aw_seq (aw_region ?_))
  simp (disch := first | exact okY | omega) only [ZU, Nat.reduceMul, Nat.reduceAdd, AOpRun, aexec, Nat.reduceBEq]
  refine aw_block (aw_loop (fun k : Nat => ⟨[(0, .list (sps s)), (3, .vec 40 k 1), (4, dI k)], [(40, icells ((s.map (·.2)).take k))], 400⟩) (fun k => k ≤ s.length) (fun k => s.length - k) ⟨0, by omega, ?_⟩ ?_)
  · show Wk _ _ ⟨[_, _, _], [(40, [])], _⟩
    unfold dI
    refine wk_q [] [(40, 900)] ?_ ?_ <;> repeat' (first | exact trivial | exact vr_val _ | exact vr_list _ | exact vr_nilv _ _ _ rfl | refine And.intro ⟨_, rfl, .inr ⟨rfl, rfl, of_decide_eq_true (by kernel_rfl)⟩⟩ ?_ | apply And.intro)
  intro k hk
  by_cases hk2 : k < s.length
  case neg =>
    obtain rfl : k = s.length := by omega
    rw [List.take_of_length_le (Nat.le_of_eq hl)]
    generalize s.map (·.2) = V at *
    (have hg : (987654321 : Nat) - 987654321 = 0 := rfl; have hr := hg; repeat' (first | (with_reducible first | refine thenQ_n ?_ | refine blockQ_n ?_ | refine thenQ_e ?_ | refine blockQ_t ?_ | refine blockQ_f (by decide) ?_) | apply aw_seq | apply aw_skip | apply aw_exit | apply aw_ret | apply aw_block | apply aw_condT rfl | apply aw_condF rfl | (refine aw_cond rfl (fun hg => ?_) (fun hg => ?_) <;> (try (have hq := hg; simp only [Bool.not_eq_true', Bool.not_eq_false', Bool.and_eq_true, Bool.and_eq_false_iff, Bool.or_eq_true, Bool.or_eq_false_iff, decide_eq_true_eq, decide_eq_false_iff_not, bne_iff_ne, beq_iff_eq, beq_eq_false_iff_ne, bne_eq_false_iff_eq, ne_eq, Int.not_lt, Int.not_le, Decidable.not_not] at hq)) <;> (try (have hr := hg; simp only [decide_eq_true_eq, decide_eq_false_iff_not] at hr)) <;> (try (exfalso; omega))) | ((first | refine aw_hide fun K hK => aw_region ?_ | refine ago_if (by omega) ?_ | skip); simp (disch := first | exact okY | omega) only [ZU, Nat.reduceAdd, Nat.reduceMul, dI, AOpRun, aexec, Nat.reduceBEq, ↓eget_h, sps_len, isSh, ↓reduceIte, abin, hr, decide_false]) | subst hK))
    refine end_q [40] [] ?_ ?_ <;> repeat' (first | exact trivial | refine vr_fl _ _ _ _ _ (by decide) rfl ?_ ?_ ?_ ?_)
    all_goals first | exact ints_one _ | exact (ints_len _).trans hl | exact ints_flat _ | exact icells_in _
  have g1 := sps_gd s k hk2
  have ki : (k : Int) < (s.length : Int) := by omega
  have hnew := ict (s.map (·.2)) k (by omega)
  rw [show (s.map (·.2))[k]?.getD 0 = hi s k by simp [hi, hk2]] at hnew
  have hcl : (icells ((s.map (·.2)).take k)).length = k := by rw [icells_len, List.length_take]; omega
  have hct : (icells ((s.map (·.2)).take k)).take k = icells ((s.map (·.2)).take k) := List.take_of_length_le (by omega)
  have hin : ∀ y ∈ icells ((s.map (·.2)).take k) ++ [.val (.int .i64 (hi s k))], In (fun _ => False) y := by rw [← hnew]; exact icells_in _
  generalize hg0 : (s.map (·.2)).take k = V0 at *
  (repeat' (first | (with_reducible first | refine thenQ_n ?_ | refine blockQ_n ?_ | refine thenQ_e ?_ | refine blockQ_t ?_ | refine blockQ_f (by decide) ?_) | apply aw_seq | apply aw_skip | apply aw_exit | apply aw_ret | apply aw_block | apply aw_condT rfl | apply aw_condF rfl | ((first | refine aw_hide fun K hK => aw_region ?_ | refine ago_if (by omega) ?_ | skip); simp (disch := first | exact okY | omega) only [ZU, Nat.reduceAdd, Nat.reduceMul, dI, AOpRun, aexec, Nat.reduceBEq, ↓eget_h, sps_len, isSh, ↓reduceIte, abin, ki, sps_all, opt1, g1, Int.reduceLE, cast_lit, Int.reduceLT, Int.reduceToNat, Nat.mul_one, List.drop, run1, fillD, D.isBot, D.cells, ne_eq, not_true_eq_false, Nat.reduceGT, or_self, splice, List.take, base, hcl, Nat.le_refl, hct, elems, ↓hget_h, List.all, D.leaf, and_true, ups, hdel_c, hdel_n, fits]) | subst hK))
  refine ⟨k + 1, by omega, by omega, ?_⟩
  rw [hnew]
  refine wk_q [] [(40, 488)] ?_ ?_ <;> repeat' (first | exact trivial | exact vr_val _ | exact vr_list _ | exact vr_vec _ _ _ _ rfl | refine And.intro ⟨_, rfl, .inl ⟨_, rfl, by decide, ?_⟩⟩ ?_ | apply And.intro | exact vrl_flat _ (by first | exact icells_in _ | exact rcells_in _ | exact scells_in _ | exact bcells_in _ | assumption))
end Go.Proofs.Ytdcodicoclecnaa
/- A safety case, in numbers. No conditions. -/
namespace Go.Proofs.Ytdcodicoclecnaa
open Go.RowKit Lift

structure Clm where
  needs : List Int
  proofs : List Int
  any : Bool
structure Cas where
  cl : List Clm
  pf : List (Int × Int)
def clC (x : Clm) : List D := [.list (ints x.needs), .list (ints x.proofs), dB x.any]
def cls (l : List Clm) : List (List D) := l.map clC
def cl0 : Clm := ⟨[], [], false⟩
theorem cls_len (l : List Clm) : (cls l).length = l.length := by simp [cls]
theorem cls_all (l : List Clm) : (cls l).all (fun x => x.length == 3) = true := by simp [cls, clC]
theorem cls_three (l : List Clm) : ∀ e ∈ cls l, e.length = 3 := by simp [cls, clC]
theorem cls_gd (l : List Clm) (k : Nat) (h : k < l.length) : (cls l)[k]? = some (clC (l[k]?.getD cl0)) := by simp [cls, h]
def Asc (l : List Int) (b : Int) : Prop := ∀ i, i < l.length → 0 ≤ l[i]?.getD 0 ∧ l[i]?.getD 0 < b ∧ (0 < i → l[i - 1]?.getD 0 < l[i]?.getD 0)
def pfOk (a : Int × Int) : Prop := 0 ≤ a.1 ∧ a.1 ≤ a.2 ∧ a.2 ≤ 2000
instance (a : Int × Int) : Decidable (pfOk a) := inferInstanceAs (Decidable (_ ∧ _))
def clAt (c : Cas) (i : Nat) : Clm := c.cl[i]?.getD cl0
def pfAt (c : Cas) (i : Nat) : Int × Int := c.pf[i]?.getD (0, 0)
structure CasOk (c : Cas) : Prop where
  n1 : c.cl.length ≤ 16
  n2 : c.pf.length ≤ 12
  asc : ∀ i, i < c.cl.length → Asc (clAt c i).needs i ∧ Asc (clAt c i).proofs c.pf.length
  pf : ∀ i, i < c.pf.length → pfOk (pfAt c i)
open Classical in
noncomputable def casE (c : Cas) (E : Int) : Int := if CasOk c then 0 else E
theorem casE_ok {c : Cas} {E : Int} (h : CasOk c) : casE c E = 0 := if_pos h
theorem casE_no {c : Cas} {E : Int} (h : ¬ CasOk c) : casE c E = E := if_neg h
noncomputable def clmE (c : Cas) (claim tick E A : Int) : Int := if casE c E ≠ 0 then casE c E else if 0 ≤ claim ∧ claim ≤ (c.cl.length : Int) - 1 ∧ 0 ≤ tick ∧ tick ≤ 2000 then 0 else A
def cntT (c : Cas) (tick : Int) (i : Nat) : Bool := decide (i < c.pf.length) && (decide ((pfAt c i).1 ≤ tick) && decide (tick ≤ (pfAt c i).2))
def clV (x : Clm) (h : List Bool) (cn : Nat → Bool) : Bool :=
  if x.any = true then x.needs.any (fun n => h[n.toNat]?.getD false) || x.proofs.any (fun n => cn n.toNat)
  else x.needs.all (fun n => h[n.toNat]?.getD false) && x.proofs.all (fun n => cn n.toNat)
def hlK (c : Cas) (cn : Nat → Bool) : Nat → List Bool
  | 0 => []
  | i + 1 => hlK c cn i ++ [clV (clAt c i) (hlK c cn i) cn]
theorem hlK_len (c : Cas) (cn : Nat → Bool) : ∀ i, (hlK c cn i).length = i
  | 0 => rfl
  | i + 1 => by simp [hlK, hlK_len c cn i]
def holdC (c : Cas) (cl : Nat) (cn : Nat → Bool) : Bool := (hlK c cn (cl + 1))[cl]?.getD false
def hlF (c : Cas) (cn : Nat → Bool) (n i : Nat) : List Bool := (List.range n).map fun j => if j < i then (hlK c cn i)[j]?.getD false else false
theorem hlF_len (c : Cas) (cn : Nat → Bool) (n i : Nat) : (hlF c cn n i).length = n := by simp [hlF]
theorem hlF_get (c : Cas) (cn : Nat → Bool) (n i j : Nat) (h : j < i) (hn : j < n) : (hlF c cn n i)[j]?.getD false = (hlK c cn i)[j]?.getD false := by simp [hlF, hn, h]
theorem hlF_zero (c : Cas) (cn : Nat → Bool) (n : Nat) : hlF c cn n 0 = List.replicate n false := by
  unfold hlF
  refine List.ext_getElem (by simp) fun i h1 h2 => ?_
  simp
theorem hlF_succ (c : Cas) (cn : Nat → Bool) (n i : Nat) (h : i < n) : hlF c cn n (i + 1) = (hlF c cn n i).set i (clV (clAt c i) (hlK c cn i) cn) := by
  unfold hlF
  refine List.ext_getElem (by simp) fun j h1 h2 => ?_
  rw [List.getElem_set]
  simp only [List.getElem_map, List.getElem_range]
  have hl := hlK_len c cn i
  by_cases e : i = j
  · subst e
    rw [if_pos rfl, if_pos (by omega), hlK, List.getElem?_append_right (by omega)]
    simp [hl]
  · rw [if_neg e]
    by_cases hj : j < i
    · rw [if_pos (by omega), if_pos hj, hlK, List.getElem?_append_left (by omega)]
    · rw [if_neg (by omega), if_neg hj]
theorem asc_lt {l : List Int} {b : Int} (h : Asc l b) {n : Int} (hn : n ∈ l) : 0 ≤ n ∧ n < b := by
  obtain ⟨i, hi, rfl⟩ := List.getElem_of_mem hn
  have := h i hi
  simp [hi] at this
  exact ⟨this.1, this.2.1⟩
end Go.Proofs.Ytdcodicoclecnaa
/- The functions' bodies, translated. Written by a program; no conditions. -/
namespace Go.Proofs.Ytdcodicoclecnaa
open Go.RowKit Lift

def crecord_ascends : ACode :=
 (.seq
 (.region false [⟨some 4, .mv (.const (.bool false)), none, []⟩] [])
 (.seq
 (.region false [⟨some 5, .mv (.const (.int .i64 (-1))), none, []⟩] [])
 (.seq
 (.seq
 (.region false [⟨some 8, .mv (.tmp 0), none, []⟩,
 ⟨some 9, .len_ (.tmp 8), none, []⟩,
 ⟨some 10, .mv (.const (.int .i64 0)), none, []⟩] [])
 (.block 0
 (.loop
 (.seq
 (.region false [⟨some 11, .bin .lss (.tmp 10) (.tmp 9), none, []⟩] [])
 (.seq
 (.cond (.tmp 11)
 .skip
 (.exit 0))
 (.seq
 (.block 1
 (.seq
 (.region false [⟨some 12, .iadS 1 (.tmp 8) (.tmp 10), none, []⟩,
 ⟨some 13, .load1 (.tmp 12), none, []⟩,
 ⟨some 7, .mv (.tmp 13), none, []⟩] [12, 13])
 (.seq
 (.seq
 (.region false [⟨some 14, .mv (.tmp 7), none, []⟩,
 ⟨some 15, .mv (.tmp 5), none, []⟩,
 ⟨some 16, .bin .leq (.tmp 14) (.tmp 15), none, []⟩,
 ⟨some 17, .mv (.tmp 16), none, []⟩,
 ⟨some 18, .mv (.tmp 7), (some (some 17, false)), []⟩,
 ⟨some 19, .mv (.tmp 1), (some (some 17, false)), []⟩,
 ⟨some 20, .bin .geq (.tmp 18) (.tmp 19), (some (some 17, false)), []⟩,
 ⟨some 21, .pick (.tmp 17) (.const (.bool true)) (.tmp 20), none, []⟩] [14, 15, 16, 17, 18, 19, 20])
 (.cond (.tmp 21)
 (.seq
 (.region false [⟨some 4, .mv (.const (.bool false)), none, []⟩] [])
 .ret)
 .skip))
 (.region false [⟨some 22, .mv (.tmp 7), none, []⟩,
 ⟨some 5, .mv (.tmp 22), none, []⟩] [22]))))
 (.region false [⟨some 23, .bin .add (.tmp 10) (.const (.int .i64 1)), none, []⟩,
 ⟨some 10, .mv (.tmp 23), none, []⟩] [23])))))))
 (.seq
 (.region false [⟨some 4, .mv (.const (.bool true)), none, []⟩] [])
 .ret))))
set_option maxRecDepth 100000 in
theorem krecord_ascends : IsCode Try.prog 145 24 crecord_ascends [.tmp 4] :=
 ⟨Try.f145, _, [21, 11, 0, 10, 9, 8, 7, 5, 1, 4], Try.func145, rfl, by decide, rfl, by kernel_rfl, by kernel_rfl⟩
def crecord_proof : ACode :=
 (.seq
 (.region false [⟨some 1, .box (.tmp 0), none, []⟩,
 ⟨some 2, .mv (.const (.bool false)), none, []⟩] [])
 (.seq
 (.region false [⟨some 3, .loadN 2 (.tmp 1), none, []⟩,
 ⟨some 4, .buildSl 2 1 [(.val (.int .i64 0)), (.val (.int .i64 0))] [(0, 2, (.tmp 3))], none, []⟩,
 ⟨some 5, .call (.func 159) [(.tmp 4)], none, []⟩,
 ⟨some 6, .bin .eql (.tmp 5) (.const (.int .i64 0)), none, []⟩,
 ⟨some 7, .mv (.tmp 6), none, []⟩,
 ⟨some 8, .fad 0 (.tmp 1), (some (some 7, true)), []⟩,
 ⟨some 9, .load1 (.tmp 8), (some (some 7, true)), []⟩,
 ⟨some 10, .bin .geq (.tmp 9) (.const (.int .i64 0)), (some (some 7, true)), []⟩,
 ⟨some 11, .pick (.tmp 7) (.tmp 10) (.const (.bool false)), none, []⟩,
 ⟨some 12, .mv (.tmp 11), none, []⟩,
 ⟨some 13, .fad 1 (.tmp 1), (some (some 12, true)), []⟩,
 ⟨some 14, .load1 (.tmp 13), (some (some 12, true)), []⟩,
 ⟨some 15, .bin .leq (.tmp 14) (.const (.int .i64 2000)), (some (some 12, true)), []⟩,
 ⟨some 16, .pick (.tmp 12) (.tmp 15) (.const (.bool false)), none, []⟩,
 ⟨some 2, .mv (.tmp 16), none, []⟩] [3, 4, 5, 6, 7, 8, 9, 10, 11, 12, 13, 14, 15, 16])
 .ret))
set_option maxRecDepth 100000 in
theorem krecord_proof : IsCode Try.prog 148 17 crecord_proof [.tmp 2] :=
 ⟨Try.f148, _, [0, 1, 2], Try.func148, rfl, by decide, rfl, by kernel_rfl, by kernel_rfl⟩
def crecord_valid : ACode :=
 (.seq
 (.region false [⟨some 1, .box (.tmp 0), none, []⟩,
 ⟨some 2, .mv (.const (.bool false)), none, []⟩] [])
 (.seq
 (.seq
 (.region false [⟨some 5, .fad 0 (.tmp 1), none, []⟩,
 ⟨some 6, .load1 (.tmp 5), none, []⟩,
 ⟨some 7, .len_ (.tmp 6), none, []⟩,
 ⟨some 8, .bin .gtr (.tmp 7) (.const (.int .i64 16)), none, []⟩,
 ⟨some 9, .mv (.tmp 8), none, []⟩,
 ⟨some 10, .fad 1 (.tmp 1), (some (some 9, false)), []⟩,
 ⟨some 11, .load1 (.tmp 10), (some (some 9, false)), []⟩,
 ⟨some 12, .len_ (.tmp 11), (some (some 9, false)), []⟩,
 ⟨some 13, .bin .gtr (.tmp 12) (.const (.int .i64 12)), (some (some 9, false)), []⟩,
 ⟨some 14, .pick (.tmp 9) (.const (.bool true)) (.tmp 13), none, []⟩] [5, 6, 7, 8, 9, 10, 11, 12, 13])
 (.cond (.tmp 14)
 (.seq
 (.region false [⟨some 2, .mv (.const (.bool false)), none, []⟩] [])
 .ret)
 .skip))
 (.seq
 (.seq
 (.region false [⟨some 15, .fad 0 (.tmp 1), none, []⟩,
 ⟨some 16, .load1 (.tmp 15), none, []⟩,
 ⟨some 17, .len_ (.tmp 16), none, []⟩,
 ⟨some 18, .mv (.const (.int .i64 0)), none, []⟩] [15])
 (.block 0
 (.loop
 (.seq
 (.region false [⟨some 19, .bin .lss (.tmp 18) (.tmp 17), none, []⟩] [])
 (.seq
 (.cond (.tmp 19)
 .skip
 (.exit 0))
 (.seq
 (.block 1
 (.seq
 (.region false [⟨some 20, .mv (.tmp 18), none, []⟩,
 ⟨some 21, .iadS 3 (.tmp 16) (.tmp 18), none, []⟩,
 ⟨some 22, .loadN 3 (.tmp 21), none, []⟩,
 ⟨some 4, .mem [(.val (.slice none 0 0)), (.val (.slice none 0 0)), (.val (.bool false))], none, []⟩,
 ⟨some 3, .mv (.tmp 20), none, []⟩,
 ⟨none, .store 3 (.tmp 4) (.tmp 22), none, []⟩] [20, 21, 22])
 (.seq
 (.region false [⟨some 23, .fad 0 (.tmp 4), none, []⟩,
 ⟨some 24, .load1 (.tmp 23), none, []⟩,
 ⟨some 25, .mv (.tmp 3), none, []⟩,
 ⟨some 26, .call (.func 145) [(.tmp 24), (.tmp 25)], none, []⟩,
 ⟨some 27, .un .not (.tmp 26), none, []⟩,
 ⟨some 28, .mv (.tmp 27), none, []⟩,
 ⟨some 29, .fad 1 (.tmp 4), (some (some 28, false)), []⟩,
 ⟨some 30, .load1 (.tmp 29), (some (some 28, false)), []⟩,
 ⟨some 31, .fad 1 (.tmp 1), (some (some 28, false)), []⟩,
 ⟨some 32, .load1 (.tmp 31), (some (some 28, false)), []⟩,
 ⟨some 33, .len_ (.tmp 32), (some (some 28, false)), []⟩,
 ⟨some 34, .call (.func 145) [(.tmp 30), (.tmp 33)], (some (some 28, false)), []⟩,
 ⟨some 35, .un .not (.tmp 34), (some (some 28, false)), []⟩,
 ⟨some 36, .pick (.tmp 28) (.const (.bool true)) (.tmp 35), none, []⟩] [23, 24, 25, 26, 27, 28, 29, 30, 31, 32, 33, 34, 35])
 (.cond (.tmp 36)
 (.seq
 (.region false [⟨some 2, .mv (.const (.bool false)), none, []⟩] [])
 .ret)
 .skip))))
 (.region false [⟨some 37, .bin .add (.tmp 18) (.const (.int .i64 1)), none, []⟩,
 ⟨some 18, .mv (.tmp 37), none, []⟩] [37])))))))
 (.seq
 (.region false [⟨some 38, .fad 1 (.tmp 1), none, []⟩,
 ⟨some 39, .load1 (.tmp 38), none, []⟩,
 ⟨some 40, .call (.func 146) [(.tmp 39), (.func 147)], none, []⟩,
 ⟨some 41, .un .not (.tmp 40), none, []⟩,
 ⟨some 2, .mv (.tmp 41), none, []⟩] [38, 39, 40, 41])
 .ret))))
set_option maxRecDepth 100000 in
theorem krecord_valid : IsCode Try.prog 118 42 crecord_valid [.tmp 2] :=
 ⟨Try.f118, _, [36, 19, 14, 0, 1, 18, 17, 16, 4, 3, 2], Try.func118, rfl, by decide, rfl, by kernel_rfl, by kernel_rfl⟩
def crecord_valid_S1 : ACode :=
 (.seq
 (.region false [⟨some 1, .box (.tmp 0), none, []⟩,
 ⟨some 2, .mv (.const (.bool false)), none, []⟩] [])
 (.seq
 (.region false [⟨some 3, .loadN 2 (.tmp 1), none, []⟩,
 ⟨some 4, .call (.func 148) [(.tmp 3)], none, []⟩,
 ⟨some 5, .un .not (.tmp 4), none, []⟩,
 ⟨some 2, .mv (.tmp 5), none, []⟩] [3, 4, 5])
 .ret))
set_option maxRecDepth 100000 in
theorem krecord_valid_S1 : IsCode Try.prog 147 6 crecord_valid_S1 [.tmp 2] :=
 ⟨Try.f147, _, [0, 1, 2], Try.func147, rfl, by decide, rfl, by kernel_rfl, by kernel_rfl⟩
def crecord_check : ACode :=
 (.seq
 (.region false [⟨some 3, .box (.tmp 0), none, []⟩,
 ⟨some 6, .mv (.const (.int .i64 0)), none, []⟩] [])
 (.seq
 (.block 0
 (.seq
 (.region false [⟨some 8, .loadN 2 (.tmp 3), none, []⟩,
 ⟨some 9, .call (.func 118) [(.tmp 8)], none, []⟩,
 ⟨some 10, .un .not (.tmp 9), none, []⟩,
 ⟨some 7, .mv (.tmp 10), none, []⟩] [8, 9, 10])
 (.cond (.tmp 7)
 (.seq
 (.region false [⟨some 6, .mv (.const (.int .i64 122)), none, []⟩] [])
 .ret)
 (.seq
 (.seq
 (.region false [⟨some 12, .mv (.tmp 1), none, []⟩,
 ⟨some 13, .fad 0 (.tmp 3), none, []⟩,
 ⟨some 14, .load1 (.tmp 13), none, []⟩,
 ⟨some 15, .len_ (.tmp 14), none, []⟩,
 ⟨some 16, .bin .sub (.tmp 15) (.const (.int .i64 1)), none, []⟩,
 ⟨some 17, .call (.func 74) [(.tmp 12), (.const (.int .i64 0)), (.tmp 16)], none, []⟩,
 ⟨some 18, .un .not (.tmp 17), none, []⟩,
 ⟨some 11, .mv (.tmp 18), none, []⟩] [12, 13, 14, 15, 16, 17, 18])
 (.cond (.tmp 11)
 .skip
 (.region false [⟨some 19, .mv (.tmp 2), none, []⟩,
 ⟨some 20, .call (.func 74) [(.tmp 19), (.const (.int .i64 0)), (.const (.int .i64 2000))], none, []⟩,
 ⟨some 21, .un .not (.tmp 20), none, []⟩,
 ⟨some 11, .mv (.tmp 21), none, []⟩] [19, 20, 21])))
 (.cond (.tmp 11)
 (.seq
 (.region false [⟨some 6, .mv (.const (.int .i64 1)), none, []⟩] [])
 .ret)
 .skip)))))
 (.seq
 (.region false [⟨some 6, .mv (.const (.int .i64 0)), none, []⟩] [])
 .ret)))
set_option maxRecDepth 100000 in
theorem krecord_check : IsCode Try.prog 82 22 crecord_check [.tmp 6] :=
 ⟨Try.f82, _, [11, 7, 0, 3, 1, 2, 6], Try.func82, rfl, by decide, rfl, by kernel_rfl, by kernel_rfl⟩
def crecord_proofs_has : ACode :=
 (.seq
 (.region false [⟨some 4, .mv (.const (.bool false)), none, []⟩] [])
 (.seq
 (.region false [⟨some 5, .mv (.tmp 0), none, []⟩,
 ⟨some 6, .mv (.tmp 1), none, []⟩,
 ⟨some 7, .bin .shr (.tmp 5) (.tmp 6), none, []⟩,
 ⟨some 8, .bin .and (.tmp 7) (.const (.int .i64 1)), none, []⟩,
 ⟨some 9, .bin .eql (.tmp 8) (.const (.int .i64 1)), none, []⟩,
 ⟨some 4, .mv (.tmp 9), none, []⟩] [5, 6, 7, 8, 9])
 .ret))
set_option maxRecDepth 100000 in
theorem krecord_proofs_has : IsCode Try.prog 89 10 crecord_proofs_has [.tmp 4] :=
 ⟨Try.f89, _, [0, 1, 4], Try.func89, rfl, by decide, rfl, by kernel_rfl, by kernel_rfl⟩
def crecord_proofs_with : ACode :=
 (.seq
 (.region false [⟨some 4, .mv (.const (.int .i64 0)), none, []⟩] [])
 (.seq
 (.region false [⟨some 5, .mv (.tmp 0), none, []⟩,
 ⟨some 6, .mv (.tmp 1), none, []⟩,
 ⟨some 7, .bin .shl (.const (.int .i64 1)) (.tmp 6), none, []⟩,
 ⟨some 8, .bin .or (.tmp 5) (.tmp 7), none, []⟩,
 ⟨some 4, .mv (.tmp 8), none, []⟩] [5, 6, 7, 8])
 .ret))
set_option maxRecDepth 100000 in
theorem krecord_proofs_with : IsCode Try.prog 90 9 crecord_proofs_with [.tmp 4] :=
 ⟨Try.f90, _, [0, 1, 4], Try.func90, rfl, by decide, rfl, by kernel_rfl, by kernel_rfl⟩
def crecord_counting : ACode :=
 (.seq
 (.region false [⟨some 2, .box (.tmp 0), none, []⟩,
 ⟨some 4, .mv (.const (.int .i64 0)), none, []⟩] [])
 (.seq
 (.seq
 (.region false [⟨some 7, .fad 1 (.tmp 2), none, []⟩,
 ⟨some 8, .load1 (.tmp 7), none, []⟩,
 ⟨some 9, .len_ (.tmp 8), none, []⟩,
 ⟨some 10, .mv (.const (.int .i64 0)), none, []⟩] [7])
 (.block 0
 (.loop
 (.seq
 (.region false [⟨some 11, .bin .lss (.tmp 10) (.tmp 9), none, []⟩] [])
 (.seq
 (.cond (.tmp 11)
 .skip
 (.exit 0))
 (.seq
 (.block 1
 (.seq
 (.region false [⟨some 12, .mv (.tmp 10), none, []⟩,
 ⟨some 13, .iadS 2 (.tmp 8) (.tmp 10), none, []⟩,
 ⟨some 14, .loadN 2 (.tmp 13), none, []⟩,
 ⟨some 6, .mem [(.val (.int .i64 0)), (.val (.int .i64 0))], none, []⟩,
 ⟨some 5, .mv (.tmp 12), none, []⟩,
 ⟨none, .store 2 (.tmp 6) (.tmp 14), none, []⟩] [12, 13, 14])
 (.seq
 (.region false [⟨some 15, .mv (.tmp 1), none, []⟩,
 ⟨some 16, .fad 0 (.tmp 6), none, []⟩,
 ⟨some 17, .load1 (.tmp 16), none, []⟩,
 ⟨some 18, .fad 1 (.tmp 6), none, []⟩,
 ⟨some 19, .load1 (.tmp 18), none, []⟩,
 ⟨some 20, .call (.func 74) [(.tmp 15), (.tmp 17), (.tmp 19)], none, []⟩] [15, 16, 17, 18, 19])
 (.cond (.tmp 20)
 (.region false [⟨some 21, .mv (.tmp 4), none, []⟩,
 ⟨some 22, .mv (.tmp 5), none, []⟩,
 ⟨some 23, .call (.func 90) [(.tmp 21), (.tmp 22)], none, []⟩,
 ⟨some 4, .mv (.tmp 23), none, []⟩] [21, 22, 23])
 .skip))))
 (.region false [⟨some 24, .bin .add (.tmp 10) (.const (.int .i64 1)), none, []⟩,
 ⟨some 10, .mv (.tmp 24), none, []⟩] [24])))))))
 (.seq
 (.region false [⟨some 25, .mv (.tmp 4), none, []⟩,
 ⟨some 4, .mv (.tmp 25), none, []⟩] [25])
 .ret)))
set_option maxRecDepth 100000 in
theorem krecord_counting : IsCode Try.prog 84 26 crecord_counting [.tmp 4] :=
 ⟨Try.f84, _, [20, 11, 0, 2, 10, 9, 8, 1, 6, 4, 5], Try.func84, rfl, by decide, rfl, by kernel_rfl, by kernel_rfl⟩
def crecord_holds : ACode :=
 (.seq
 (.region false [⟨some 3, .box (.tmp 0), none, []⟩,
 ⟨some 6, .mv (.const (.bool false)), none, []⟩] [])
 (.seq
 (.region false [⟨some 11, .mv (.tmp 1), none, []⟩,
 ⟨some 12, .bin .add (.tmp 11) (.const (.int .i64 1)), none, []⟩,
 ⟨some 13, .mksl 1 1 [(.val (.bool false))] (.tmp 12) (.tmp 12), none, []⟩,
 ⟨some 7, .mem [(.val (.slice none 0 0))], none, []⟩,
 ⟨none, .store 1 (.tmp 7) (.tmp 13), none, []⟩] [11, 12, 13])
 (.seq
 (.seq
 (.region false [⟨some 14, .fad 0 (.tmp 3), none, []⟩,
 ⟨some 15, .load1 (.tmp 14), none, []⟩,
 ⟨some 16, .mv (.tmp 1), none, []⟩,
 ⟨some 17, .bin .add (.tmp 16) (.const (.int .i64 1)), none, []⟩,
 ⟨some 18, .slS 3 (.tmp 15) none (some (.tmp 17)), none, []⟩,
 ⟨some 19, .len_ (.tmp 18), none, []⟩,
 ⟨some 20, .mv (.const (.int .i64 0)), none, []⟩] [14, 15, 16, 17])
 (.block 0
 (.loop
 (.seq
 (.region false [⟨some 21, .bin .lss (.tmp 20) (.tmp 19), none, []⟩] [])
 (.seq
 (.cond (.tmp 21)
 .skip
 (.exit 0))
 (.seq
 (.block 1
 (.seq
 (.region false [⟨some 22, .mv (.tmp 20), none, []⟩,
 ⟨some 23, .iadS 3 (.tmp 18) (.tmp 20), none, []⟩,
 ⟨some 24, .loadN 3 (.tmp 23), none, []⟩,
 ⟨some 9, .mem [(.val (.slice none 0 0)), (.val (.slice none 0 0)), (.val (.bool false))], none, []⟩,
 ⟨some 8, .mv (.tmp 22), none, []⟩,
 ⟨none, .store 3 (.tmp 9) (.tmp 24), none, []⟩] [22, 23, 24])
 (.seq
 (.region true [⟨some 25, .fad 0 (.tmp 9), none, []⟩,
 ⟨some 26, .load1 (.tmp 25), none, [0]⟩,
 ⟨some 27, .mkfn 120 [] [(.tmp 7)], none, []⟩,
 ⟨some 28, .call (.func 119) [(.tmp 26), (.tmp 27)], none, [1, 0, 2]⟩,
 ⟨some 29, .fad 1 (.tmp 9), none, []⟩,
 ⟨some 30, .load1 (.tmp 29), none, [4]⟩,
 ⟨some 31, .mv (.tmp 2), none, []⟩,
 ⟨some 32, .mkfn 89 [(.tmp 31)] [], none, [6]⟩,
 ⟨some 33, .call (.func 119) [(.tmp 30), (.tmp 32)], none, [5, 4, 7, 6, 3, 1, 0, 2]⟩,
 ⟨some 34, .app 1 1 (.tmp 28) (.tmp 33), none, [3, 1, 0, 2, 8, 5, 4, 7, 6]⟩,
 ⟨some 10, .mv (.tmp 34), none, [9, 3, 1, 0, 2, 8, 5, 4, 7, 6]⟩] [25, 26, 27, 28, 29, 30, 31, 32, 33, 34])
 (.seq
 (.region false [⟨some 35, .fad 2 (.tmp 9), none, []⟩,
 ⟨some 36, .load1 (.tmp 35), none, []⟩] [35])
 (.cond (.tmp 36)
 (.region true [⟨some 37, .load1 (.tmp 7), none, []⟩,
 ⟨some 38, .mv (.tmp 8), none, []⟩,
 ⟨some 39, .mv (.tmp 10), none, []⟩,
 ⟨some 40, .call (.func 121) [(.tmp 39), (.const (.bool true))], none, [2]⟩,
 ⟨some 41, .iadS 1 (.tmp 37) (.tmp 38), none, [0, 1, 2, 3]⟩,
 ⟨none, .store 1 (.tmp 41) (.tmp 40), none, [4, 0, 1, 2, 3]⟩] [37, 38, 39, 40, 41])
 (.region true [⟨some 42, .load1 (.tmp 7), none, []⟩,
 ⟨some 43, .mv (.tmp 8), none, []⟩,
 ⟨some 44, .mv (.tmp 10), none, []⟩,
 ⟨some 45, .call (.func 121) [(.tmp 44), (.const (.bool false))], none, [2]⟩,
 ⟨some 46, .un .not (.tmp 45), none, [3, 2]⟩,
 ⟨some 47, .iadS 1 (.tmp 42) (.tmp 43), none, [0, 1, 2, 3, 4]⟩,
 ⟨none, .store 1 (.tmp 47) (.tmp 46), none, [5, 0, 1, 2, 3, 4]⟩] [42, 43, 44, 45, 46, 47]))))))
 (.region false [⟨some 48, .bin .add (.tmp 20) (.const (.int .i64 1)), none, []⟩,
 ⟨some 20, .mv (.tmp 48), none, []⟩] [48])))))))
 (.seq
 (.region false [⟨some 49, .load1 (.tmp 7), none, []⟩,
 ⟨some 50, .mv (.tmp 1), none, []⟩,
 ⟨some 51, .iadS 1 (.tmp 49) (.tmp 50), none, []⟩,
 ⟨some 52, .load1 (.tmp 51), none, []⟩,
 ⟨some 6, .mv (.tmp 52), none, []⟩] [49, 50, 51, 52])
 .ret))))
set_option maxRecDepth 100000 in
theorem krecord_holds : IsCode Try.prog 83 53 crecord_holds [.tmp 6] :=
 ⟨Try.f83, _, [36, 21, 0, 1, 3, 20, 19, 18, 9, 7, 2, 8, 10, 6], Try.func83, rfl, by decide, rfl, by kernel_rfl, by kernel_rfl⟩
def crecord_holds_S1 : ACode :=
 (.seq
 (.region false [⟨some 3, .mv (.const (.bool false)), none, []⟩] [])
 (.seq
 (.region false [⟨some 4, .load1 (.tmp 1), none, []⟩,
 ⟨some 5, .mv (.tmp 0), none, []⟩,
 ⟨some 6, .iadS 1 (.tmp 4) (.tmp 5), none, []⟩,
 ⟨some 7, .load1 (.tmp 6), none, []⟩,
 ⟨some 3, .mv (.tmp 7), none, []⟩] [4, 5, 6, 7])
 .ret))
set_option maxRecDepth 100000 in
theorem krecord_holds_S1 : IsCode Try.prog 120 8 crecord_holds_S1 [.tmp 3] :=
 ⟨Try.f120, _, [1, 0, 3], Try.func120, rfl, by decide, rfl, by kernel_rfl, by kernel_rfl⟩
def crecord_pick : ACode :=
 (.seq
 (.region false [⟨some 4, .mv (.const (.slice none 0 0)), none, []⟩] [])
 (.seq
 (.seq
 (.region false [⟨some 7, .mv (.tmp 0), none, []⟩,
 ⟨some 8, .len_ (.tmp 7), none, []⟩,
 ⟨some 9, .mv (.const (.int .i64 0)), none, []⟩] [])
 (.block 0
 (.loop
 (.seq
 (.region false [⟨some 10, .bin .lss (.tmp 9) (.tmp 8), none, []⟩] [])
 (.seq
 (.cond (.tmp 10)
 .skip
 (.exit 0))
 (.seq
 (.block 1
 (.seq
 (.region false [⟨some 11, .iadS 1 (.tmp 7) (.tmp 9), none, []⟩,
 ⟨some 12, .load1 (.tmp 11), none, []⟩,
 ⟨some 6, .mv (.tmp 12), none, []⟩] [11, 12])
 (.region false [⟨some 13, .mv (.tmp 4), none, []⟩,
 ⟨some 14, .mv (.tmp 1), none, []⟩,
 ⟨some 15, .mv (.tmp 6), none, []⟩,
 ⟨some 16, .call (.tmp 14) [(.tmp 15)], none, []⟩,
 ⟨some 17, .buildSl 1 1 [(.val (.bool false))] [(0, 1, (.tmp 16))], none, []⟩,
 ⟨some 18, .app 1 1 (.tmp 13) (.tmp 17), none, []⟩,
 ⟨some 4, .mv (.tmp 18), none, []⟩] [13, 14, 15, 16, 17, 18])))
 (.region false [⟨some 19, .bin .add (.tmp 9) (.const (.int .i64 1)), none, []⟩,
 ⟨some 9, .mv (.tmp 19), none, []⟩] [19])))))))
 (.seq
 (.region false [⟨some 20, .mv (.tmp 4), none, []⟩,
 ⟨some 4, .mv (.tmp 20), none, []⟩] [20])
 .ret)))
set_option maxRecDepth 100000 in
theorem krecord_pick : IsCode Try.prog 119 21 crecord_pick [.tmp 4] :=
 ⟨Try.f119, _, [10, 0, 9, 8, 7, 4, 1, 6], Try.func119, rfl, by decide, rfl, by kernel_rfl, by kernel_rfl⟩
def crecord_Until : ACode :=
 (.seq
 (.region false [⟨some 3, .box (.tmp 0), none, []⟩,
 ⟨some 6, .mv (.const (.int .i64 0)), none, []⟩,
 ⟨some 7, .mv (.const (.int .i64 0)), none, []⟩] [])
 (.seq
 (.seq
 (.region false [⟨some 10, .loadN 2 (.tmp 3), none, []⟩,
 ⟨some 11, .mv (.tmp 1), none, []⟩,
 ⟨some 12, .mv (.tmp 2), none, []⟩,
 ⟨some 13, .call (.func 82) [(.tmp 10), (.tmp 11), (.tmp 12)], none, []⟩,
 ⟨some 8, .mv (.tmp 13), none, []⟩] [10, 11, 12, 13])
 (.seq
 (.region false [⟨some 14, .mv (.tmp 8), none, []⟩,
 ⟨some 15, .bin .neq (.tmp 14) (.const (.int .i64 0)), none, []⟩] [14])
 (.cond (.tmp 15)
 (.seq
 (.region false [⟨some 16, .mv (.tmp 8), none, []⟩,
 ⟨some 6, .mv (.const (.int .i64 0)), none, []⟩,
 ⟨some 7, .mv (.tmp 16), none, []⟩] [16])
 .ret)
 .skip)))
 (.seq
 (.region false [⟨some 17, .mv (.tmp 2), none, []⟩,
 ⟨some 9, .mv (.tmp 17), none, []⟩] [17])
 (.seq
 (.block 0
 (.loop
 (.seq
 (.seq
 (.region true [⟨some 18, .mv (.tmp 9), none, []⟩,
 ⟨some 19, .bin .leq (.tmp 18) (.const (.int .i64 2000)), none, [0]⟩,
 ⟨some 20, .mv (.tmp 19), none, [1, 0]⟩,
 ⟨some 21, .loadN 2 (.tmp 3), (some (some 20, true)), [2, 1, 0]⟩,
 ⟨some 22, .mv (.tmp 1), (some (some 20, true)), [2, 1, 0]⟩,
 ⟨some 23, .loadN 2 (.tmp 3), (some (some 20, true)), [2, 1, 0]⟩,
 ⟨some 24, .mv (.tmp 9), (some (some 20, true)), [2, 1, 0]⟩,
 ⟨some 25, .call (.func 84) [(.tmp 23), (.tmp 24)], (some (some 20, true)), [5, 2, 1, 0, 6]⟩,
 ⟨some 26, .call (.func 83) [(.tmp 21), (.tmp 22), (.tmp 25)], (some (some 20, true)), [3, 2, 1, 0, 4, 7, 5, 6]⟩,
 ⟨some 27, .pick (.tmp 20) (.tmp 26) (.const (.bool false)), none, [2, 1, 0, 8, 3, 4, 7, 5, 6]⟩] [18, 19, 20, 21, 22, 23, 24, 25, 26])
 (.cond (.tmp 27)
 .skip
 (.exit 0)))
 (.block 1
 (.region false [⟨some 28, .mv (.tmp 9), none, []⟩,
 ⟨some 29, .bin .add (.tmp 28) (.const (.int .i64 1)), none, []⟩,
 ⟨some 9, .mv (.tmp 29), none, []⟩] [28, 29])))))
 (.seq
 (.seq
 (.region false [⟨some 30, .mv (.tmp 9), none, []⟩,
 ⟨some 31, .mv (.tmp 2), none, []⟩,
 ⟨some 32, .bin .eql (.tmp 30) (.tmp 31), none, []⟩] [30, 31])
 (.cond (.tmp 32)
 (.seq
 (.region false [⟨some 6, .mv (.const (.int .i64 0)), none, []⟩,
 ⟨some 7, .mv (.const (.int .i64 3)), none, []⟩] [])
 .ret)
 .skip))
 (.seq
 (.region false [⟨some 33, .mv (.tmp 9), none, []⟩,
 ⟨some 34, .bin .sub (.tmp 33) (.const (.int .i64 1)), none, []⟩,
 ⟨some 6, .mv (.tmp 34), none, []⟩,
 ⟨some 7, .mv (.const (.int .i64 0)), none, []⟩] [33, 34])
 .ret))))))
set_option maxRecDepth 100000 in
theorem krecord_Until : IsCode Try.prog 37 35 crecord_Until [.tmp 6, .tmp 7] :=
 ⟨Try.f37, _, [32, 27, 15, 0, 3, 1, 2, 8, 9, 6, 7], Try.func37, rfl, by decide, rfl, by kernel_rfl, by kernel_rfl⟩
def cslices_Contains_L_L_Jbool_Kbool_J : ACode :=
 (.seq
 (.region false [⟨some 4, .mv (.const (.bool false)), none, []⟩] [])
 (.seq
 (.region false [⟨some 5, .mv (.tmp 0), none, []⟩,
 ⟨some 6, .mv (.tmp 1), none, []⟩,
 ⟨some 7, .call (.func 149) [(.tmp 5), (.tmp 6)], none, []⟩,
 ⟨some 8, .bin .geq (.tmp 7) (.const (.int .i64 0)), none, []⟩,
 ⟨some 4, .mv (.tmp 8), none, []⟩] [5, 6, 7, 8])
 .ret))
set_option maxRecDepth 100000 in
theorem kslices_Contains_L_L_Jbool_Kbool_J : IsCode Try.prog 121 9 cslices_Contains_L_L_Jbool_Kbool_J [.tmp 4] :=
 ⟨Try.f121, _, [0, 1, 4], Try.func121, rfl, by decide, rfl, by kernel_rfl, by kernel_rfl⟩
def cslices_Index_L_L_Jbool_Kbool_J : ACode :=
 (.seq
 (.region false [⟨some 4, .mv (.const (.int .i64 0)), none, []⟩] [])
 (.seq
 (.seq
 (.region false [⟨some 6, .mv (.tmp 0), none, []⟩,
 ⟨some 7, .len_ (.tmp 6), none, []⟩,
 ⟨some 8, .mv (.const (.int .i64 0)), none, []⟩] [6])
 (.block 0
 (.loop
 (.seq
 (.region false [⟨some 9, .bin .lss (.tmp 8) (.tmp 7), none, []⟩] [])
 (.seq
 (.cond (.tmp 9)
 .skip
 (.exit 0))
 (.seq
 (.block 1
 (.seq
 (.region false [⟨some 10, .mv (.tmp 8), none, []⟩,
 ⟨some 5, .mv (.tmp 10), none, []⟩] [10])
 (.seq
 (.region false [⟨some 11, .mv (.tmp 1), none, []⟩,
 ⟨some 12, .mv (.tmp 0), none, []⟩,
 ⟨some 13, .mv (.tmp 5), none, []⟩,
 ⟨some 14, .iadS 1 (.tmp 12) (.tmp 13), none, []⟩,
 ⟨some 15, .load1 (.tmp 14), none, []⟩,
 ⟨some 16, .eqb false (.tmp 11) (.tmp 15), none, []⟩] [11, 12, 13, 14, 15])
 (.cond (.tmp 16)
 (.seq
 (.region false [⟨some 17, .mv (.tmp 5), none, []⟩,
 ⟨some 4, .mv (.tmp 17), none, []⟩] [17])
 .ret)
 .skip))))
 (.region false [⟨some 18, .bin .add (.tmp 8) (.const (.int .i64 1)), none, []⟩,
 ⟨some 8, .mv (.tmp 18), none, []⟩] [18])))))))
 (.seq
 (.region false [⟨some 4, .mv (.const (.int .i64 (-1))), none, []⟩] [])
 .ret)))
set_option maxRecDepth 100000 in
theorem kslices_Index_L_L_Jbool_Kbool_J : IsCode Try.prog 149 19 cslices_Index_L_L_Jbool_Kbool_J [.tmp 4] :=
 ⟨Try.f149, _, [16, 9, 0, 8, 7, 1, 5, 4], Try.func149, rfl, by decide, rfl, by kernel_rfl, by kernel_rfl⟩
def claw12_works : ACode :=
 (.seq
 (.region false [⟨some 0, .mv (.const (.bool false)), none, []⟩] [])
 (.seq
 (.region false [⟨some 10, .call (.func 64) [], none, []⟩,
 ⟨some 9, .mv (.tmp 10), none, []⟩,
 ⟨some 11, .ext (.tmp 9) 0, none, []⟩,
 ⟨some 12, .ext (.tmp 9) 1, none, []⟩,
 ⟨some 13, .ext (.tmp 9) 2, none, []⟩,
 ⟨some 1, .mem [(.val (.int .i64 0)), (.val (.int .i64 0)), (.val (.int .i64 0)), (.val (.int .i64 0)), (.val (.int .i64 0)), (.val (.slice none 0 0))], none, []⟩,
 ⟨some 3, .mem [(.val (.slice none 0 0)), (.val (.slice none 0 0))], none, []⟩,
 ⟨none, .store 6 (.tmp 1) (.tmp 11), none, []⟩,
 ⟨some 2, .mv (.tmp 12), none, []⟩,
 ⟨none, .store 2 (.tmp 3) (.tmp 13), none, []⟩] [10, 9, 11, 12, 13])
 (.seq
 (.region false [⟨some 15, .loadN 6 (.tmp 1), none, []⟩,
 ⟨some 16, .mv (.tmp 2), none, []⟩,
 ⟨some 17, .call (.func 20) [(.tmp 15), (.tmp 16), (.const (.int .i64 0))], none, []⟩,
 ⟨some 14, .mv (.tmp 17), none, []⟩,
 ⟨some 18, .ext (.tmp 14) 0, none, []⟩,
 ⟨some 19, .ext (.tmp 14) 1, none, []⟩,
 ⟨some 20, .ext (.tmp 14) 2, none, []⟩,
 ⟨some 4, .mv (.tmp 18), none, []⟩,
 ⟨some 5, .mv (.tmp 19), none, []⟩,
 ⟨some 6, .mv (.tmp 20), none, []⟩] [15, 16, 17, 14, 18, 19, 20])
 (.seq
 (.region false [⟨some 22, .loadN 2 (.tmp 3), none, []⟩,
 ⟨some 23, .call (.func 37) [(.tmp 22), (.const (.int .i64 1)), (.const (.int .i64 5))], none, []⟩,
 ⟨some 21, .mv (.tmp 23), none, []⟩,
 ⟨some 24, .ext (.tmp 21) 0, none, []⟩,
 ⟨some 25, .ext (.tmp 21) 1, none, []⟩,
 ⟨some 7, .mv (.tmp 24), none, []⟩,
 ⟨some 8, .mv (.tmp 25), none, []⟩] [22, 23, 21, 24, 25])
 (.seq
 (.region false [⟨some 26, .mv (.tmp 6), none, []⟩,
 ⟨some 27, .bin .eql (.tmp 26) (.const (.int .i64 0)), none, []⟩,
 ⟨some 28, .mv (.tmp 27), none, []⟩,
 ⟨some 29, .mv (.tmp 8), (some (some 28, true)), []⟩,
 ⟨some 30, .bin .eql (.tmp 29) (.const (.int .i64 0)), (some (some 28, true)), []⟩,
 ⟨some 31, .pick (.tmp 28) (.tmp 30) (.const (.bool false)), none, []⟩,
 ⟨some 32, .mv (.tmp 31), none, []⟩,
 ⟨some 33, .mv (.tmp 4), (some (some 32, true)), []⟩,
 ⟨some 34, .bin .eql (.tmp 33) (.const (.int .i64 2)), (some (some 32, true)), []⟩,
 ⟨some 35, .pick (.tmp 32) (.tmp 34) (.const (.bool false)), none, []⟩,
 ⟨some 36, .mv (.tmp 35), none, []⟩,
 ⟨some 37, .mv (.tmp 5), (some (some 36, true)), []⟩,
 ⟨some 38, .bin .eql (.tmp 37) (.const (.int .i64 26)), (some (some 36, true)), []⟩,
 ⟨some 39, .pick (.tmp 36) (.tmp 38) (.const (.bool false)), none, []⟩,
 ⟨some 40, .mv (.tmp 39), none, []⟩,
 ⟨some 41, .mv (.tmp 7), (some (some 40, true)), []⟩,
 ⟨some 42, .bin .eql (.tmp 41) (.const (.int .i64 30)), (some (some 40, true)), []⟩,
 ⟨some 43, .pick (.tmp 40) (.tmp 42) (.const (.bool false)), none, []⟩,
 ⟨some 0, .mv (.tmp 43), none, []⟩] [26, 27, 28, 29, 30, 31, 32, 33, 34, 35, 36, 37, 38, 39, 40, 41, 42, 43])
 .ret)))))
set_option maxRecDepth 100000 in
theorem klaw12_works : IsCode Try.prog 16 44 claw12_works [.tmp 0] :=
 ⟨Try.f16, _, [1, 2, 3, 6, 8, 4, 5, 7, 0], Try.func16, rfl, by decide, rfl, by kernel_rfl, by kernel_rfl⟩
def claw12_Example : ACode :=
 (.seq
 (.region false [⟨some 0, .mem [(.val (.int .i64 0)), (.val (.int .i64 0)), (.val (.int .i64 0)), (.val (.int .i64 0)), (.val (.int .i64 0)), (.val (.slice none 0 0))], none, []⟩,
 ⟨some 1, .mv (.const (.slice none 0 0)), none, []⟩,
 ⟨some 2, .mem [(.val (.slice none 0 0)), (.val (.slice none 0 0))], none, []⟩] [])
 (.seq
 (.region false [⟨some 5, .build [(.val (.int .i64 0)), (.val (.int .i64 0)), (.val (.int .i64 0)), (.val (.int .i64 0))] [(0, 1, (.const (.int .i64 100))), (1, 1, (.const (.int .i64 200))), (2, 1, (.const (.int .i64 300))), (3, 1, (.const (.int .i64 400)))], none, []⟩,
 ⟨some 6, .build [(.val (.int .i64 0)), (.val (.int .i64 0)), (.val (.int .i64 0)), (.val (.bool false)), (.val (.int .i64 0)), (.val (.int .i64 0)), (.val (.int .i64 0)), (.val (.int .i64 0)), (.val (.int .i64 0))] [(0, 1, (.const (.int .i64 1))), (2, 1, (.const (.int .i64 8))), (3, 1, (.const (.bool true))), (4, 1, (.const (.int .i64 1))), (5, 1, (.const (.int .i64 2))), (6, 1, (.const (.int .i64 10))), (7, 1, (.const (.int .i64 1)))], none, []⟩,
 ⟨some 7, .build [(.val (.int .i64 0)), (.val (.int .i64 0)), (.val (.int .i64 0)), (.val (.bool false)), (.val (.int .i64 0)), (.val (.int .i64 0)), (.val (.int .i64 0)), (.val (.int .i64 0)), (.val (.int .i64 0))] [(0, 1, (.const (.int .i64 2))), (1, 1, (.const (.int .i64 4))), (2, 1, (.const (.int .i64 3))), (4, 1, (.const (.int .i64 5))), (5, 1, (.const (.int .i64 1))), (7, 1, (.const (.int .i64 2))), (8, 1, (.const (.int .i64 1)))], none, []⟩,
 ⟨some 8, .build [(.val (.int .i64 0)), (.val (.int .i64 0)), (.val (.int .i64 0)), (.val (.bool false)), (.val (.int .i64 0)), (.val (.int .i64 0)), (.val (.int .i64 0)), (.val (.int .i64 0)), (.val (.int .i64 0))] [(0, 1, (.const (.int .i64 3))), (2, 1, (.const (.int .i64 1))), (4, 1, (.const (.int .i64 1))), (5, 1, (.const (.int .i64 1))), (7, 1, (.const (.int .i64 1)))], none, []⟩,
 ⟨some 9, .buildSl 9 3 [(.val (.int .i64 0)), (.val (.int .i64 0)), (.val (.int .i64 0)), (.val (.bool false)), (.val (.int .i64 0)), (.val (.int .i64 0)), (.val (.int .i64 0)), (.val (.int .i64 0)), (.val (.int .i64 0)), (.val (.int .i64 0)), (.val (.int .i64 0)), (.val (.int .i64 0)), (.val (.bool false)), (.val (.int .i64 0)), (.val (.int .i64 0)), (.val (.int .i64 0)), (.val (.int .i64 0)), (.val (.int .i64 0)), (.val (.int .i64 0)), (.val (.int .i64 0)), (.val (.int .i64 0)), (.val (.bool false)), (.val (.int .i64 0)), (.val (.int .i64 0)), (.val (.int .i64 0)), (.val (.int .i64 0)), (.val (.int .i64 0))] [(0, 9, (.tmp 6)), (9, 9, (.tmp 7)), (18, 9, (.tmp 8))], none, []⟩,
 ⟨some 10, .build [(.val (.int .i64 0)), (.val (.int .i64 0)), (.val (.int .i64 0)), (.val (.int .i64 0)), (.val (.int .i64 0)), (.val (.slice none 0 0))] [(0, 1, (.const (.int .i64 4))), (1, 4, (.tmp 5)), (5, 1, (.tmp 9))], none, []⟩,
 ⟨some 3, .mem [(.val (.int .i64 0)), (.val (.int .i64 0)), (.val (.int .i64 0)), (.val (.int .i64 0)), (.val (.int .i64 0)), (.val (.slice none 0 0))], none, []⟩,
 ⟨none, .store 6 (.tmp 3) (.tmp 10), none, []⟩] [5, 6, 7, 8, 9, 10])
 (.seq
 (.region false [⟨some 11, .buildSl 1 2 [(.val (.int .i64 0)), (.val (.int .i64 0))] [(0, 1, (.const (.int .i64 0))), (1, 1, (.const (.int .i64 1)))], none, []⟩,
 ⟨some 12, .build [(.val (.slice none 0 0)), (.val (.slice none 0 0)), (.val (.bool false))] [(1, 1, (.tmp 11))], none, []⟩,
 ⟨some 13, .buildSl 1 1 [(.val (.int .i64 0))] [(0, 1, (.const (.int .i64 0)))], none, []⟩,
 ⟨some 14, .buildSl 1 1 [(.val (.int .i64 0))] [(0, 1, (.const (.int .i64 2)))], none, []⟩,
 ⟨some 15, .build [(.val (.slice none 0 0)), (.val (.slice none 0 0)), (.val (.bool false))] [(0, 1, (.tmp 13)), (1, 1, (.tmp 14)), (2, 1, (.const (.bool true)))], none, []⟩,
 ⟨some 16, .buildSl 1 2 [(.val (.int .i64 0)), (.val (.int .i64 0))] [(0, 1, (.const (.int .i64 0))), (1, 1, (.const (.int .i64 1)))], none, []⟩,
 ⟨some 17, .build [(.val (.slice none 0 0)), (.val (.slice none 0 0)), (.val (.bool false))] [(0, 1, (.tmp 16))], none, []⟩,
 ⟨some 18, .buildSl 3 3 [(.val (.slice none 0 0)), (.val (.slice none 0 0)), (.val (.bool false)), (.val (.slice none 0 0)), (.val (.slice none 0 0)), (.val (.bool false)), (.val (.slice none 0 0)), (.val (.slice none 0 0)), (.val (.bool false))] [(0, 3, (.tmp 12)), (3, 3, (.tmp 15)), (6, 3, (.tmp 17))], none, []⟩,
 ⟨some 19, .build [(.val (.int .i64 0)), (.val (.int .i64 0))] [(1, 1, (.const (.int .i64 10)))], none, []⟩,
 ⟨some 20, .build [(.val (.int .i64 0)), (.val (.int .i64 0))] [(0, 1, (.const (.int .i64 5))), (1, 1, (.const (.int .i64 20)))], none, []⟩,
 ⟨some 21, .build [(.val (.int .i64 0)), (.val (.int .i64 0))] [(0, 1, (.const (.int .i64 8))), (1, 1, (.const (.int .i64 30)))], none, []⟩,
 ⟨some 22, .buildSl 2 3 [(.val (.int .i64 0)), (.val (.int .i64 0)), (.val (.int .i64 0)), (.val (.int .i64 0)), (.val (.int .i64 0)), (.val (.int .i64 0))] [(0, 2, (.tmp 19)), (2, 2, (.tmp 20)), (4, 2, (.tmp 21))], none, []⟩,
 ⟨some 23, .build [(.val (.slice none 0 0)), (.val (.slice none 0 0))] [(0, 1, (.tmp 18)), (1, 1, (.tmp 22))], none, []⟩,
 ⟨some 4, .mem [(.val (.slice none 0 0)), (.val (.slice none 0 0))], none, []⟩,
 ⟨none, .store 2 (.tmp 4) (.tmp 23), none, []⟩] [11, 12, 13, 14, 15, 16, 17, 18, 19, 20, 21, 22, 23])
 (.seq
 (.region true [⟨some 24, .loadN 6 (.tmp 3), none, []⟩,
 ⟨some 25, .buildSl 1 4 [(.val (.int .i64 0)), (.val (.int .i64 0)), (.val (.int .i64 0)), (.val (.int .i64 0))] [(0, 1, (.const (.int .i64 100))), (1, 1, (.const (.int .i64 4))), (2, 1, (.const (.int .i64 0))), (3, 1, (.const (.int .i64 0)))], none, []⟩,
 ⟨some 26, .buildSl 1 4 [(.val (.int .i64 0)), (.val (.int .i64 0)), (.val (.int .i64 0)), (.val (.int .i64 0))] [(0, 1, (.const (.int .i64 200))), (1, 1, (.const (.int .i64 254))), (2, 1, (.const (.int .i64 48))), (3, 1, (.const (.int .i64 1)))], none, []⟩,
 ⟨some 27, .buildSl 1 4 [(.val (.int .i64 0)), (.val (.int .i64 0)), (.val (.int .i64 0)), (.val (.int .i64 0))] [(0, 1, (.const (.int .i64 300))), (1, 1, (.const (.int .i64 6))), (2, 1, (.const (.int .i64 0))), (3, 1, (.const (.int .i64 0)))], none, []⟩,
 ⟨some 28, .buildSl 1 3 [(.val (.slice none 0 0)), (.val (.slice none 0 0)), (.val (.slice none 0 0))] [(0, 1, (.tmp 25)), (1, 1, (.tmp 26)), (2, 1, (.tmp 27))], none, [1, 2, 3]⟩,
 ⟨some 29, .loadN 2 (.tmp 4), none, []⟩,
 ⟨none, .store 6 (.tmp 0) (.tmp 24), none, [0]⟩,
 ⟨some 1, .mv (.tmp 28), none, [4, 1, 2, 3, 6, 0]⟩,
 ⟨none, .store 2 (.tmp 2) (.tmp 29), none, [5, 7, 4, 1, 2, 3, 6, 0]⟩] [24, 25, 26, 27, 28, 29])
 .ret))))
set_option maxRecDepth 100000 in
theorem klaw12_Example : IsCode Try.prog 64 30 claw12_Example [.cellN 0 6, .tmp 1, .cellN 2 2] :=
 ⟨Try.f64, _, [3, 4, 0, 2, 1], Try.func64, rfl, by decide, rfl, by kernel_rfl, by kernel_rfl⟩
end Go.Proofs.Ytdcodicoclecnaa
/- record: what a case must be. No conditions. -/
namespace Go.Proofs.Ytdcodicoclecnaa
open Go Go.RowKit Lift

theorem in_sp (S : Nat → Prop) (a b : Int) : In S (.agg [dI a, dI b]) := .agg _ (by intro d hd; simp at hd; rcases hd with rfl | rfl <;> exact .val _)
set_option maxRecDepth 100000 in
set_option maxHeartbeats 1000000 in
theorem swithin_ac (n a b : Int) : AC Try.prog 161 [dI n, dI a, dI b] [] [] (dB (wI n a b)) := by
  refine kspans_within.ac (n0 := 0) (by simp) ⟨.val _, .val _, .val _, trivial⟩ trivial rfl ?_
  unfold cspans_within wI
  cases q1 : decide (a ≤ n) <;> cases q2 : decide (n ≤ b)
  all_goals
    (repeat' (first | apply aw_seq | ((first | apply aw_skip | apply aw_exit); try simp only [thenQ, blockQ, if_true, if_false, Nat.reduceEqDiff, reduceCtorEq]) | apply aw_ret | apply aw_block | apply aw_condT rfl | apply aw_condF rfl | ((first | refine aw_region ?_ | refine ago_if (by omega) ?_ | skip); simp (disch := first | exact okY | omega) only [ZU, dB, Bool.and_false, Nat.reduceMul, dI, Nat.reduceAdd, AOpRun, aexec, Nat.reduceBEq, ↓eget_h, isSh, ↓reduceIte, abin, ge_iff_le, q1, ARun_some, AG_ft, AG_tt, q2])))
    all_goals (refine end_q [] [] ?_ ?_ <;> repeat' (first | exact trivial | exact vr_val _))
def spVB (x : Int × Int) : Bool := wI x.1 (-1000000) x.2 && decide (x.2 ≤ 1000000)
set_option maxRecDepth 100000 in
set_option maxHeartbeats 1000000 in
theorem svalid_ac (x : Int × Int) : AC Try.prog 165 [.agg [dI x.1, dI x.2]] [] [] (dB (spVB x)) := by
  refine kspans_valid.ac (n0 := 0) (by simp) ⟨in_sp _ _ _, trivial⟩ trivial rfl ?_
  unfold cspans_valid spVB
  cases q1 : wI x.1 (-1000000) x.2 <;> cases q2 : decide (x.2 ≤ 1000000)
  all_goals
    have cw := swithin_ac x.1 (-1000000) x.2
    rw [q1] at cw
    (repeat' (first | apply aw_seq | ((first | apply aw_skip | apply aw_exit); try simp only [thenQ, blockQ, if_true, if_false, Nat.reduceEqDiff, reduceCtorEq]) | apply aw_ret | apply aw_block | apply aw_condT rfl | apply aw_condF rfl | ((first | refine aw_region ?_ | refine acall0 (cw) ?_ | refine ago_if (by omega) ?_ | skip); simp (disch := first | exact okY | omega) only [ZU, Int.reduceNeg, dB, Bool.and_false, Nat.reduceAdd, Nat.reduceMul, dI, AOpRun, aexec, D.isBot, ↓eget_h, or_self, ↓reduceIte, D.cells, Nat.reduceBEq, run1, ARun_some, AG_ft, AG_tt, isSh, abin, q2])))
    all_goals (refine end_q [] [] ?_ ?_ <;> repeat' (first | exact trivial | exact vr_val _))
set_option maxRecDepth 100000 in
set_option maxHeartbeats 1000000 in
theorem sspan1_ac (x : Int × Int) : AC Try.prog 164 [.agg [dI x.1, dI x.2]] [] [] (dB (!spVB x)) := by
  refine kspans_spanned_S1.ac (n0 := 0) (by simp) ⟨in_sp _ _ _, trivial⟩ trivial rfl ?_
  unfold cspans_spanned_S1
  (repeat' (first | apply aw_seq | ((first | apply aw_skip | apply aw_exit); try simp only [thenQ, blockQ, if_true, if_false, Nat.reduceEqDiff, reduceCtorEq]) | apply aw_ret | apply aw_block | apply aw_condT rfl | apply aw_condF rfl | ((first | refine aw_region ?_ | refine acall0 (svalid_ac x) ?_ | refine ago_if (by omega) ?_ | skip); simp (disch := first | exact okY | omega) only [ZU, dB, Nat.reduceAdd, Nat.reduceMul, dI, AOpRun, aexec, D.isBot, ↓eget_h, or_self, ↓reduceIte, D.cells, Nat.reduceBEq, Nat.reduceLeDiff, List.drop, List.take])))
  all_goals (refine end_q [] [] ?_ ?_ <;> repeat' (first | exact trivial | exact vr_val _))
theorem sp_at (l : List (Int × Int)) (k : Nat) (h : k < l.length) : (sps l)[k]? = some [dI (l[k]?.getD (0, 0)).1, dI (l[k]?.getD (0, 0)).2] := by simp [sps, h, dI]
set_option maxRecDepth 100000 in
set_option maxHeartbeats 1000000 in
theorem ifsp_ac (F : FuncId) (p : Int × Int → Bool) (hF : ∀ x : Int × Int, AC Try.prog F [.agg [dI x.1, dI x.2]] [] [] (dB (p x))) (l : List (Int × Int)) (hl : l.length ≤ 1000000) : AC Try.prog 158 [.list (sps l), .fn F [] []] [] [] (dI (match l.findIdx? p with
    | some k => (k : Int)
    | none => -1)) := by
  refine kslices_IndexFunc_L_L_Japi_Span_Kapi_Span_J.ac (n0 := 0) (by simp) ⟨.list _, .fn _ _ _ (by simp) (by simp), trivial⟩ trivial rfl ?_
  unfold cslices_IndexFunc_L_L_Japi_Span_Kapi_Span_J
  (repeat' (first | apply aw_seq | ((first | apply aw_skip | apply aw_exit); try simp only [thenQ, blockQ, if_true, if_false, Nat.reduceEqDiff, reduceCtorEq]) | apply aw_ret | apply aw_block | apply aw_condT rfl | apply aw_condF rfl | ((first | refine aw_region ?_ | refine ago_if (by omega) ?_ | skip); simp (disch := first | exact okY | omega) only [ZU, Int.reduceNeg, dI, Nat.reduceMul, AOpRun, aexec, Nat.reduceBEq, Nat.reduceAdd, ↓eget_h, sps_len])))
  refine aw_loop (fun k : Nat => ⟨[(0, .list (sps l)), (1, .fn F [] []), (7, dI l.length), (8, dI k)], [], 400⟩) (fun k => k ≤ l.length ∧ ∀ j, j < k → p (l[j]?.getD (0, 0)) = false) (fun k => l.length - k) ⟨0, ⟨by omega, fun j hj => by omega⟩, ?_⟩ ?_
  · refine wk_q [] [] ?_ ?_ <;> repeat' (first | exact trivial | exact vr_val _ | exact vr_list _ | apply vr_fn | apply And.intro)
  rintro k ⟨hk, hin⟩
  by_cases hk2 : k < l.length
  · have g1 := sp_at l k hk2
    have hc := hF (l[k]?.getD (0, 0))
    cases he : p (l[k]?.getD (0, 0)) with
    | true =>
      have q : l.findIdx? p = some k := by
        rw [List.findIdx?_eq_some_iff_getElem]
        refine ⟨hk2, by have := he; simp [hk2] at this; simp [this], fun j hj => ?_⟩
        have := hin j hj
        simpa [show j < l.length by omega] using this
      rw [q]
      rw [he] at hc
      (have hg : (987654321 : Nat) - 987654321 = 0 := rfl; have hr := hg; repeat' (first | apply aw_seq | ((first | apply aw_skip | apply aw_exit); try simp only [thenQ, blockQ, if_true, if_false, Nat.reduceEqDiff, reduceCtorEq]) | apply aw_ret | apply aw_block | apply aw_condT rfl | apply aw_condF rfl | (refine aw_cond rfl (fun hg => ?_) (fun hg => ?_) <;> (try (have hq := hg; simp only [Bool.not_eq_true', Bool.not_eq_false', Bool.and_eq_true, Bool.and_eq_false_iff, Bool.or_eq_true, Bool.or_eq_false_iff, decide_eq_true_eq, decide_eq_false_iff_not, bne_iff_ne, beq_iff_eq, beq_eq_false_iff_ne, bne_eq_false_iff_eq, ne_eq, Int.not_lt, Int.not_le, Decidable.not_not] at hq)) <;> (try (have hr := hg; simp only [decide_eq_true_eq, decide_eq_false_iff_not] at hr)) <;> (try (exfalso; omega))) | ((first | refine aw_region ?_ | refine acall0 (hc) ?_ | refine ago_if (by omega) ?_ | skip); simp (disch := first | exact okY | omega) only [ZU, dI, Int.reduceNeg, Nat.reduceMul, Nat.reduceAdd, AOpRun, aexec, Nat.reduceBEq, ↓eget_h, isSh, ↓reduceIte, abin, hr, sps_all, opt1, g1, Nat.reduceLeDiff, List.take, dB, blockQ])))
      all_goals (refine end_q [] [] ?_ ?_ <;> repeat' (first | exact trivial | exact vr_val _))
    | false =>
      rw [he] at hc
      (have hg : (987654321 : Nat) - 987654321 = 0 := rfl; have hr := hg; repeat' (first | apply aw_seq | ((first | apply aw_skip | apply aw_exit); try simp only [thenQ, blockQ, if_true, if_false, Nat.reduceEqDiff, reduceCtorEq]) | apply aw_ret | apply aw_block | apply aw_condT rfl | apply aw_condF rfl | (refine aw_cond rfl (fun hg => ?_) (fun hg => ?_) <;> (try (have hq := hg; simp only [Bool.not_eq_true', Bool.not_eq_false', Bool.and_eq_true, Bool.and_eq_false_iff, Bool.or_eq_true, Bool.or_eq_false_iff, decide_eq_true_eq, decide_eq_false_iff_not, bne_iff_ne, beq_iff_eq, beq_eq_false_iff_ne, bne_eq_false_iff_eq, ne_eq, Int.not_lt, Int.not_le, Decidable.not_not] at hq)) <;> (try (have hr := hg; simp only [decide_eq_true_eq, decide_eq_false_iff_not] at hr)) <;> (try (exfalso; omega))) | ((first | refine aw_region ?_ | refine acall0 (hc) ?_ | refine ago_if (by omega) ?_ | skip); simp (disch := first | exact okY | omega) only [ZU, dI, Int.reduceNeg, Nat.reduceMul, Nat.reduceAdd, AOpRun, aexec, Nat.reduceBEq, ↓eget_h, isSh, ↓reduceIte, abin, hr, sps_all, opt1, g1, Nat.reduceLeDiff, List.take, dB, fits])))
      refine ⟨k + 1, ⟨by omega, fun j hj => ?_⟩, by omega, by refine wk_q [] [] ?_ ?_ <;> repeat' (first | exact trivial | exact vr_val _ | exact vr_list _ | apply vr_fn | apply And.intro)⟩
      rcases (by omega : j < k ∨ j = k) with h | rfl
      · exact hin j h
      · exact he
  · obtain rfl : k = l.length := by omega
    have q : l.findIdx? p = none := by
      rw [List.findIdx?_eq_none_iff]
      intro y hy
      obtain ⟨j, hj, rfl⟩ := List.getElem_of_mem hy
      have := hin j hj
      simp [hj] at this
      simp [this]
    rw [q]
    (have hg : (987654321 : Nat) - 987654321 = 0 := rfl; have hr := hg; repeat' (first | apply aw_seq | ((first | apply aw_skip | apply aw_exit); try simp only [thenQ, blockQ, if_true, if_false, Nat.reduceEqDiff, reduceCtorEq]) | apply aw_ret | apply aw_block | apply aw_condT rfl | apply aw_condF rfl | (refine aw_cond rfl (fun hg => ?_) (fun hg => ?_) <;> (try (have hq := hg; simp only [Bool.not_eq_true', Bool.not_eq_false', Bool.and_eq_true, Bool.and_eq_false_iff, Bool.or_eq_true, Bool.or_eq_false_iff, decide_eq_true_eq, decide_eq_false_iff_not, bne_iff_ne, beq_iff_eq, beq_eq_false_iff_ne, bne_eq_false_iff_eq, ne_eq, Int.not_lt, Int.not_le, Decidable.not_not] at hq)) <;> (try (have hr := hg; simp only [decide_eq_true_eq, decide_eq_false_iff_not] at hr)) <;> (try (exfalso; omega))) | ((first | refine aw_region ?_ | refine ago_if (by omega) ?_ | skip); simp (disch := first | exact okY | omega) only [ZU, dI, Int.reduceNeg, Nat.reduceMul, Nat.reduceAdd, AOpRun, aexec, Nat.reduceBEq, ↓eget_h, isSh, ↓reduceIte, abin, hr, decide_false])))
    all_goals (refine end_q [] [] ?_ ?_ <;> repeat' (first | exact trivial | exact vr_val _))
set_option maxRecDepth 100000 in
set_option maxHeartbeats 1000000 in
theorem cfsp_ac (F : FuncId) (p : Int × Int → Bool) (hF : ∀ x : Int × Int, AC Try.prog F [.agg [dI x.1, dI x.2]] [] [] (dB (p x))) (l : List (Int × Int)) (hl : l.length ≤ 1000000) : AC Try.prog 146 [.list (sps l), .fn F [] []] [] [] (dB (l.any p)) := by
  refine kslices_ContainsFunc_L_L_Japi_Span_Kapi_Span_J.ac (n0 := 0) (by simp) ⟨.list _, .fn _ _ _ (by simp) (by simp), trivial⟩ trivial rfl ?_
  unfold cslices_ContainsFunc_L_L_Japi_Span_Kapi_Span_J
  have hf := ifsp_ac F p hF l hl
  cases h : l.findIdx? p with
  | none =>
    have ha : l.any p = false := by
      rw [List.findIdx?_eq_none_iff] at h
      exact List.any_eq_false.2 fun x hx => by simp [h x hx]
    rw [h] at hf
    rw [ha]
    (repeat' (first | apply aw_seq | ((first | apply aw_skip | apply aw_exit); try simp only [thenQ, blockQ, if_true, if_false, Nat.reduceEqDiff, reduceCtorEq]) | apply aw_ret | apply aw_block | apply aw_condT rfl | apply aw_condF rfl | ((first | refine aw_region ?_ | refine acall0 (hf) ?_ | refine ago_if (by omega) ?_ | skip); simp (disch := first | exact okY | omega) only [ZU, dB, Nat.reduceMul, AOpRun, aexec, Nat.reduceBEq, Nat.reduceAdd, ↓eget_h, dI, Int.reduceNeg, isSh, ↓reduceIte, abin])))
    all_goals (refine end_q [] [] ?_ ?_ <;> repeat' (first | exact trivial | exact vr_val _))
  | some k =>
    have ha : l.any p = true := by
      rw [List.findIdx?_eq_some_iff_getElem] at h
      obtain ⟨hk, he, _⟩ := h
      exact List.any_eq_true.2 ⟨l[k], List.getElem_mem hk, he⟩
    rw [h] at hf
    rw [ha]
    have q : decide ((k : Int) ≥ 0) = true := decide_eq_true (by omega)
    (repeat' (first | apply aw_seq | ((first | apply aw_skip | apply aw_exit); try simp only [thenQ, blockQ, if_true, if_false, Nat.reduceEqDiff, reduceCtorEq]) | apply aw_ret | apply aw_block | apply aw_condT rfl | apply aw_condF rfl | ((first | refine aw_region ?_ | refine acall0 (hf) ?_ | refine ago_if (by omega) ?_ | skip); simp (disch := first | exact okY | omega) only [ZU, dB, Nat.reduceMul, AOpRun, aexec, Nat.reduceBEq, Nat.reduceAdd, ↓eget_h, dI, isSh, ↓reduceIte, abin])))
    all_goals (refine end_q [] [] ?_ ?_ <;> repeat' (first | exact trivial | exact vr_val _))
set_option maxRecDepth 100000 in
set_option maxHeartbeats 1000000 in
theorem scheck_ac (x : Int × Int) : AC Try.prog 159 [.list (sps [x])] [] [] (dI (if spVB x = true then 0 else 10)) := by
  have h1 : AC Try.prog 162 [.list (sps [x])] [] [] (dI (if spVB x = true then 0 else 10)) := by
    refine kspans_spanned.ac (n0 := 0) (by simp) ⟨.list _, trivial⟩ trivial rfl ?_
    unfold cspans_spanned
    have hc := cfsp_ac 164 (fun x => !spVB x) sspan1_ac [x] (by simp)
    cases h : spVB x with
    | true =>
      rw [show ([x].any fun x => !spVB x) = false by simp [h]] at hc
      rw [if_pos rfl]
      (repeat' (first | apply aw_seq | ((first | apply aw_skip | apply aw_exit); try simp only [thenQ, blockQ, if_true, if_false, Nat.reduceEqDiff, reduceCtorEq]) | apply aw_ret | apply aw_block | apply aw_condT rfl | apply aw_condF rfl | ((first | refine aw_region ?_ | refine acall0 (hc) ?_ | refine ago_if (by omega) ?_ | skip); simp (disch := first | exact okY | omega) only [ZU, dI, Nat.reduceMul, AOpRun, aexec, Nat.reduceBEq, Nat.reduceAdd, ↓eget_h, dB])))
      all_goals (refine end_q [] [] ?_ ?_ <;> repeat' (first | exact trivial | exact vr_val _))
    | false =>
      rw [show ([x].any fun x => !spVB x) = true by simp [h]] at hc
      rw [if_neg (by simp)]
      (repeat' (first | apply aw_seq | ((first | apply aw_skip | apply aw_exit); try simp only [thenQ, blockQ, if_true, if_false, Nat.reduceEqDiff, reduceCtorEq]) | apply aw_ret | apply aw_block | apply aw_condT rfl | apply aw_condF rfl | ((first | refine aw_region ?_ | refine acall0 (hc) ?_ | refine ago_if (by omega) ?_ | skip); simp (disch := first | exact okY | omega) only [ZU, dI, Nat.reduceMul, AOpRun, aexec, Nat.reduceBEq, Nat.reduceAdd, ↓eget_h, dB])))
      all_goals (refine end_q [] [] ?_ ?_ <;> repeat' (first | exact trivial | exact vr_val _))
  refine kspans_Check.ac (n0 := 0) (by simp) ⟨.list _, trivial⟩ trivial rfl ?_
  unfold cspans_Check
  have cw : AC Try.prog 161 [dI 1, dI 1, dI 3] [] [] (dB true) := swithin_ac 1 1 3
  generalize (if spVB x = true then (0 : Int) else 10) = E at *
  (repeat' (first | apply aw_seq | ((first | apply aw_skip | apply aw_exit); try simp only [thenQ, blockQ, if_true, if_false, Nat.reduceEqDiff, reduceCtorEq]) | apply aw_ret | apply aw_block | apply aw_condT rfl | apply aw_condF rfl | ((first | refine aw_region ?_ | refine acall0 (cw) ?_ | refine acall0 (h1) ?_ | refine ago_if (by omega) ?_ | skip); simp (disch := first | exact okY | omega) only [ZU, dI, Nat.reduceMul, AOpRun, aexec, Nat.reduceBEq, Nat.reduceAdd, ↓eget_h, sps_len, cast_lit, dB])))
  all_goals (refine end_q [] [] ?_ ?_ <;> repeat' (first | exact trivial | exact vr_val _))
theorem spv_iff (x : Int × Int) : pfOk x ↔ (spVB x = true ∧ 0 ≤ x.1 ∧ x.2 ≤ 2000) := by
  unfold pfOk spVB wI
  simp only [Bool.and_eq_true, decide_eq_true_eq]
  omega
set_option maxRecDepth 100000 in
set_option maxHeartbeats 1000000 in
theorem proof_ac (x : Int × Int) : AC Try.prog 148 [.agg [dI x.1, dI x.2]] [] [] (dB (decide (pfOk x))) := by
  refine krecord_proof.ac (n0 := 0) (by simp) ⟨in_sp _ _ _, trivial⟩ trivial rfl ?_
  unfold crecord_proof
  have hs := scheck_ac x
  have hp : decide (pfOk x) = (spVB x && (decide (0 ≤ x.1) && decide (x.2 ≤ 2000))) := by
    rw [← Bool.decide_and]
    cases h : spVB x with
    | true => simp only [Bool.true_and]; exact decide_eq_decide.2 (by rw [spv_iff]; simp [h])
    | false => rw [Bool.false_and]; exact decide_eq_false (by rw [spv_iff]; simp [h])
  rw [hp]
  cases h : spVB x with
  | true =>
    rw [h, if_pos rfl] at hs
    cases q1 : decide (0 ≤ x.1) <;> cases q2 : decide (x.2 ≤ 2000)
    all_goals
      refine aw_seq (aw_region ?_)
      simp (disch := first | exact okY | omega) only [ZU, dB, Bool.and_false, Nat.reduceAdd, Nat.reduceMul, dI, AOpRun, aexec, D.isBot, ↓eget_h, or_self, ↓reduceIte, D.cells, Nat.reduceBEq]
      refine aw_seq (aw_region ?_)
      simp (disch := first | exact okY | omega) only [ZU, Nat.reduceAdd, Nat.reduceMul, AOpRun, aexec, Nat.reduceBEq, ↓eget_h, Nat.reduceLeDiff, ↓reduceIte, List.drop, List.take, fillD, D.isBot, D.cells, ne_eq, not_true_eq_false, Nat.reduceGT, or_self, splice]
      refine acall hs [24] ⟨.vec 24 1 2 (scells [x]) (sps [x]) (by simp) rfl (Nat.le_of_ble_eq_true rfl) (sps_two _) rfl rfl (scells_in _), trivial⟩ (.inr (.val _)) (by intro g hg; simp at hg; subst hg; exact ⟨_, rfl⟩) (by kernel_rfl) ?_
      simp (disch := first | exact okY | omega) only [ZU, Nat.reduceAdd, dI, Nat.reduceBEq, AOpRun, aexec, ↓eget_h, isSh, ↓reduceIte, abin, ARun_some, AG_tt, run1, ge_iff_le, q1, AG_ft, q2]
      (repeat' (first | apply aw_seq | ((first | apply aw_skip | apply aw_exit); try simp only [thenQ, blockQ, if_true, if_false, Nat.reduceEqDiff, reduceCtorEq]) | apply aw_ret | apply aw_block | apply aw_condT rfl | apply aw_condF rfl | ((first | refine aw_region ?_ | refine ago_if (by omega) ?_ | skip); fail)))
      all_goals (refine end_q [] [] ?_ ?_ <;> repeat' (first | exact trivial | exact vr_val _))
  | false =>
    rw [h, if_neg (by simp)] at hs
    refine aw_seq (aw_region ?_)
    simp (disch := first | exact okY | omega) only [ZU, dB, Bool.false_and, Nat.reduceAdd, Nat.reduceMul, dI, AOpRun, aexec, D.isBot, ↓eget_h, or_self, ↓reduceIte, D.cells, Nat.reduceBEq]
    refine aw_seq (aw_region ?_)
    simp (disch := first | exact okY | omega) only [ZU, Nat.reduceAdd, Nat.reduceMul, AOpRun, aexec, Nat.reduceBEq, ↓eget_h, Nat.reduceLeDiff, ↓reduceIte, List.drop, List.take, fillD, D.isBot, D.cells, ne_eq, not_true_eq_false, Nat.reduceGT, or_self, splice]
    refine acall hs [24] ⟨.vec 24 1 2 (scells [x]) (sps [x]) (by simp) rfl (Nat.le_of_ble_eq_true rfl) (sps_two _) rfl rfl (scells_in _), trivial⟩ (.inr (.val _)) (by intro g hg; simp at hg; subst hg; exact ⟨_, rfl⟩) (by kernel_rfl) ?_
    simp (disch := first | exact okY | omega) only [ZU, Nat.reduceAdd, dI, Nat.reduceBEq, AOpRun, aexec, ↓eget_h, isSh, ↓reduceIte, abin, Int.reduceBEq, ARun_some, AG_ft]
    (repeat' (first | apply aw_seq | ((first | apply aw_skip | apply aw_exit); try simp only [thenQ, blockQ, if_true, if_false, Nat.reduceEqDiff, reduceCtorEq]) | apply aw_ret | apply aw_block | apply aw_condT rfl | apply aw_condF rfl | ((first | refine aw_region ?_ | refine ago_if (by omega) ?_ | skip); fail)))
    all_goals (refine end_q [] [] ?_ ?_ <;> repeat' (first | exact trivial | exact vr_val _))
set_option maxRecDepth 100000 in
set_option maxHeartbeats 1000000 in
theorem valid1_ac (x : Int × Int) : AC Try.prog 147 [.agg [dI x.1, dI x.2]] [] [] (dB (!decide (pfOk x))) := by
  refine krecord_valid_S1.ac (n0 := 0) (by simp) ⟨in_sp _ _ _, trivial⟩ trivial rfl ?_
  unfold crecord_valid_S1
  (repeat' (first | apply aw_seq | ((first | apply aw_skip | apply aw_exit); try simp only [thenQ, blockQ, if_true, if_false, Nat.reduceEqDiff, reduceCtorEq]) | apply aw_ret | apply aw_block | apply aw_condT rfl | apply aw_condF rfl | ((first | refine aw_region ?_ | refine acall0 (proof_ac x) ?_ | refine ago_if (by omega) ?_ | skip); simp (disch := first | exact okY | omega) only [ZU, dB, Nat.reduceAdd, Nat.reduceMul, dI, AOpRun, aexec, D.isBot, ↓eget_h, or_self, ↓reduceIte, D.cells, Nat.reduceBEq, Nat.reduceLeDiff, List.drop, List.take])))
  all_goals (refine end_q [] [] ?_ ?_ <;> repeat' (first | exact trivial | exact vr_val _))
end Go.Proofs.Ytdcodicoclecnaa
