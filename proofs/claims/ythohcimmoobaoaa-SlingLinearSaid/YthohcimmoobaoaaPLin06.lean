/- Texts of the laws, shared part 6. No conditions. -/
import Derived.Test.YthohcimmoobaoaaPLin05
import Derived.Deep.RegionWith
import Derived.Deep.RegionLawGrows
import Derived.Deep.RegionHeld3
import Derived.Deep.DeepCutAuto
import Derived.Test.YthohcimmoobaoaaRows
/- The checks of boxes, on abstract values: both sides. No conditions. -/
set_option linter.unusedSimpArgs false
set_option linter.unusedVariables false
namespace Go.Proofs.Ythohcimmoobaoaa
open Go.RowKit Lift

theorem within_ac (n a b : Int) : AC Try.prog 96 [dI n, dI a, dI b] [] [] (dB (decide (a ≤ n) && decide (n ≤ b))) := by
  refine kspans_within.ac (n0 := 0) (by simp) ⟨.val _, .val _, .val _, trivial⟩ trivial rfl ?_
  unfold cspans_within
  refine aw_seq (aw_region ?_)
  simp (config := {maxSteps := 10000000}) (disch := first | exact okYes (by kernel_rfl) | omega) only [thenQ, List.map, dB, List.length, Nat.zero_add, Nat.reduceMul, envOf, dI, Nat.reduceAdd, ARun_none, AOpRun, aexec, FSt.ev, AGo_ok, St.app, putO, eput_c, Nat.reduceBEq, eput_n, cond_false, hups, ARun_nil, dropE_c, inL_n, dropE_n]
  refine aw_seq (aw_region ?_)
  by_cases h1 : a ≤ n
  · have h1' : n ≥ a := h1
    simp (config := {maxSteps := 10000000}) (disch := first | exact okYes (by kernel_rfl) | omega) only [thenQ, h1', decide_true, Bool.true_and, List.length, Nat.zero_add, Nat.reduceAdd, Nat.reduceMul, ARun_none, AOpRun, aexec, FSt.ev, St.F, ↓eget_h, AGo_ok, St.app, putO, eput_c, Nat.reduceBEq, eput_n, cond_false, hups, List.map, eget_c, isSh, Bool.false_eq_true, ↓reduceIte, Option.map, abin, ARun_some, AG_tt, beq_self_eq_true, cond_true, ARun_nil, dropE_c, inL_c, inL_n, dropE_n]
    refine aw_ret ?_
    refine end_to [] [] (by first | exact .inl rfl | exact .inr rfl) rfl (by kernel_rfl) (by kernel_rfl) (by kernel_rfl) ?_ ?_ <;> repeat' (first | exact trivial | exact vr_val _)
  · have h1' : ¬ n ≥ a := h1
    simp (config := {maxSteps := 10000000}) (disch := first | exact okYes (by kernel_rfl) | omega) only [thenQ, h1', decide_false, Bool.false_and, List.length, Nat.zero_add, Nat.reduceAdd, Nat.reduceMul, ARun_none, AOpRun, aexec, FSt.ev, St.F, ↓eget_h, AGo_ok, St.app, putO, eput_c, Nat.reduceBEq, eput_n, cond_false, hups, List.map, eget_c, isSh, Bool.false_eq_true, ↓reduceIte, Option.map, abin, ARun_some, AG_ft, beq_self_eq_true, cond_true, ARun_nil, dropE_c, inL_c, inL_n, dropE_n]
    refine aw_ret ?_
    refine end_to [] [] (by first | exact .inl rfl | exact .inr rfl) rfl (by kernel_rfl) (by kernel_rfl) (by kernel_rfl) ?_ ?_ <;> repeat' (first | exact trivial | exact vr_val _)
theorem valid_ac (x : Int × Int) : AC Try.prog 115 [spD x] [] [] (dB (okS x)) := by
  refine kspans_valid.ac (n0 := 0) (by simp) ⟨.agg _ (by intro d hd; simp at hd; rcases hd with rfl | rfl <;> exact .val _), trivial⟩ trivial rfl ?_
  unfold cspans_valid
  refine aw_seq (aw_region ?_)
  simp (config := {maxSteps := 10000000}) (disch := first | exact okYes (by kernel_rfl) | omega) only [thenQ, List.map, Int.reduceNeg, List.length, Nat.zero_add, Nat.reduceAdd, Nat.reduceMul, envOf, spD, ARun_none, AOpRun, aexec, D.isBot, FSt.ev, St.F, ↓eget_h, Bool.false_eq_true, Option.isSome, hget_n, or_self, ↓reduceIte, D.cells, AGo_ok, St.app, putO, eput_c, Nat.reduceBEq, eput_n, cond_false, hups, hput_n, ARun_nil, dropE_c, inL_n, dropE_n]
  refine aw_seq (aw_region ?_)
  simp (config := {maxSteps := 10000000}) (disch := first | exact okYes (by kernel_rfl) | omega) only [thenQ, List.length, Nat.zero_add, Nat.reduceAdd, Nat.reduceMul, Int.reduceNeg, ARun_none, AOpRun, aexec, FSt.ev, St.F, eget_c, Nat.reduceBEq, ↓eget_h, cond_false, AGo_ok, St.app, putO, eput_c, eput_n, hups, List.map, Option.map, run1, hget_c, beq_self_eq_true, hget_n, cond_true, List.getElem?_cons_zero, List.getElem?_cons_succ]
  refine acall0 (within_ac x.1 (-1000000) x.2) ?_
  by_cases h1 : (decide (-1000000 ≤ x.1) && decide (x.1 ≤ x.2)) = true
  · simp (config := {maxSteps := 10000000}) (disch := first | exact okYes (by kernel_rfl) | omega) only [dB, Nat.reduceAdd, St.app, putO, Int.reduceNeg, h1, eput_c, Nat.reduceBEq, eput_n, cond_false, hups, ARun_none, AOpRun, aexec, FSt.ev, St.F, eget_c, ↓eget_h, AGo_ok, List.map, ARun_some, AG_tt, Nat.zero_add, Option.map, run1, hget_c, beq_self_eq_true, hget_n, cond_true, List.getElem?_cons_succ, List.getElem?_cons_zero, isSh, Bool.false_eq_true, ↓reduceIte, abin, ARun_nil, dropE_c, inL_c, inL_n, dropE_n]
    refine aw_ret ?_
    have e : okS x = decide (x.2 ≤ 1000000) := by unfold okS; rw [h1]; rfl
    rw [e]
    refine end_to [] [] (by first | exact .inl rfl | exact .inr rfl) rfl (by kernel_rfl) (by kernel_rfl) (by kernel_rfl) ?_ ?_ <;> repeat' (first | exact trivial | exact vr_val _)
  · have h1' : (decide (-1000000 ≤ x.1) && decide (x.1 ≤ x.2)) = false := by simpa using h1
    simp (config := {maxSteps := 10000000}) (disch := first | exact okYes (by kernel_rfl) | omega) only [dB, Nat.reduceAdd, St.app, putO, Int.reduceNeg, h1', eput_c, Nat.reduceBEq, eput_n, cond_false, hups, ARun_none, AOpRun, aexec, FSt.ev, St.F, eget_c, ↓eget_h, AGo_ok, List.map, ARun_some, AG_ft, Bool.false_eq_true, ↓reduceIte, beq_self_eq_true, cond_true, ARun_nil, dropE_c, inL_c, inL_n, dropE_n]
    refine aw_ret ?_
    have e : okS x = false := by unfold okS; rw [h1']; rfl
    rw [e]
    refine end_to [] [] (by first | exact .inl rfl | exact .inr rfl) rfl (by kernel_rfl) (by kernel_rfl) (by kernel_rfl) ?_ ?_ <;> repeat' (first | exact trivial | exact vr_val _)
theorem spanned1_ac (x : Int × Int) : AC Try.prog 114 [spD x] [] [] (dB (!okS x)) := by
  refine kspans_spanned_S1.ac (n0 := 0) (by simp) ⟨.agg _ (by intro d hd; simp at hd; rcases hd with rfl | rfl <;> exact .val _), trivial⟩ trivial rfl ?_
  unfold cspans_spanned_S1
  refine aw_seq (aw_region ?_)
  simp (config := {maxSteps := 10000000}) (disch := first | exact okYes (by kernel_rfl) | omega) only [thenQ, List.map, List.length, Nat.zero_add, Nat.reduceAdd, Nat.reduceMul, envOf, spD, ARun_none, AOpRun, aexec, D.isBot, FSt.ev, St.F, ↓eget_h, Bool.false_eq_true, Option.isSome, hget_n, or_self, ↓reduceIte, D.cells, AGo_ok, St.app, putO, eput_c, Nat.reduceBEq, eput_n, cond_false, hups, hput_n, ARun_nil, dropE_c, inL_n, dropE_n]
  refine aw_seq (aw_region ?_)
  simp (config := {maxSteps := 10000000}) (disch := first | exact okYes (by kernel_rfl) | omega) only [thenQ, List.length, Nat.zero_add, Nat.reduceAdd, Nat.reduceMul, ARun_none, AOpRun, aexec, FSt.ev, St.F, eget_c, Nat.reduceBEq, ↓eget_h, cond_false, hget_c, beq_self_eq_true, hget_n, cond_true, Nat.reduceLeDiff, ↓reduceIte, List.drop, List.take, AGo_ok, St.app, putO, eput_c, eput_n, hups, List.map]
  refine acall0 (valid_ac x) ?_
  simp (config := {maxSteps := 10000000}) (disch := first | exact okYes (by kernel_rfl) | omega) only [dB, Nat.reduceAdd, St.app, putO, eput_c, Nat.reduceBEq, eput_n, cond_false, hups, ARun_none, AOpRun, aexec, FSt.ev, St.F, eget_c, ↓eget_h, AGo_ok, List.map, beq_self_eq_true, cond_true, ARun_nil, dropE_c, inL_c, inL_n, dropE_n]
  refine aw_ret ?_
  refine end_to [] [] (by first | exact .inl rfl | exact .inr rfl) rfl (by kernel_rfl) (by kernel_rfl) (by kernel_rfl) ?_ ?_ <;> repeat' (first | exact trivial | exact vr_val _)
/-- the number of the first span that is not right -/
def badAt : Bx → Nat → Option Nat
  | [], _ => none
  | x :: b, k => if okS x = true then badAt b (k + 1) else some k
theorem badAt_none : ∀ (b : Bx) (k : Nat), badAt b k = none ↔ b.all okS = true
  | [], k => by simp [badAt]
  | x :: b, k => by
    unfold badAt
    have := badAt_none b (k + 1)
    by_cases h : okS x = true
    · rw [if_pos h, this]; simp [h]
    · rw [if_neg h]; simp [h]
theorem badAt_drop (b : Bx) (k : Nat) (h : k < b.length) : badAt (b.drop k) k = if okS (lo b k, hi b k) = true then badAt (b.drop (k + 1)) (k + 1) else some k := by
  have : b[k] = (lo b k, hi b k) := by simp [lo, hi, h]
  rw [List.drop_eq_getElem_cons h, this]
  rfl
def idxD : Option Nat → D
  | none => .val (.int .i64 (-1))
  | some k => .val (.int .i64 k)
set_option maxHeartbeats 1000000 in
theorem index_ac (b : Bx) (hl : b.length ≤ 1000) : AC Try.prog 126 [.list (sps b), .fn 114 [] []] [] [] (idxD (badAt b 0)) := by
  refine kslices_IndexFunc_L_L_Japi_Span_Kapi_Span_J.ac (n0 := 0) (by simp) ⟨.list _, .fn _ _ _ (by simp) (by simp), trivial⟩ trivial rfl ?_
  unfold cslices_IndexFunc_L_L_Japi_Span_Kapi_Span_J
  refine aw_seq (aw_region ?_)
  simp (config := {maxSteps := 10000000}) (disch := first | exact okYes (by kernel_rfl) | omega) only [thenQ, List.map, Int.reduceNeg, List.length, Nat.zero_add, Nat.reduceMul, envOf, ARun_none, AOpRun, aexec, FSt.ev, AGo_ok, St.app, putO, eput_c, Nat.reduceBEq, eput_n, cond_false, hups, ARun_nil, dropE_c, inL_n, dropE_n]
  refine aw_seq (aw_seq (aw_region ?_))
  simp (config := {maxSteps := 10000000}) (disch := first | exact okYes (by kernel_rfl) | omega) only [thenQ, Int.reduceNeg, List.length, Nat.zero_add, Nat.reduceAdd, Nat.reduceMul, ARun_none, AOpRun, aexec, FSt.ev, St.F, ↓eget_h, AGo_ok, St.app, putO, eput_c, Nat.reduceBEq, eput_n, cond_false, hups, List.map, eget_c, sps_len, ARun_nil, dropE_c, inL_c, inL_n, beq_self_eq_true, cond_true, dropE_n]
  refine aw_block (aw_loop (fun k : Nat => ⟨[(0, .list (sps b)), (1, .fn 114 [] []), (7, .val (.int .i64 b.length)), (8, .val (.int .i64 k))], [], 64⟩) (fun k => k ≤ b.length ∧ badAt b 0 = badAt (b.drop k) k) (fun k => b.length - k) ⟨0, ⟨by omega, rfl⟩, ?_⟩ ?_)
  · refine wk_to [] [] (by kernel_rfl) (by kernel_rfl) (by kernel_rfl) (by kernel_rfl) (by kernel_rfl) ?_ ?_ <;> repeat' (first | exact trivial | exact vr_val _ | exact vr_list _ | apply vr_fn | apply And.intro)
  · rintro k ⟨hk, hb⟩
    refine aw_seq (aw_region ?_)
    simp (config := {maxSteps := 10000000}) (disch := first | exact okYes (by kernel_rfl) | omega) only [thenQ, Int.reduceNeg, List.length, Nat.zero_add, Nat.reduceMul, Nat.reduceAdd, ARun_none, AOpRun, aexec, FSt.ev, St.F, eget_c, Nat.reduceBEq, ↓eget_h, cond_false, isSh, Bool.false_eq_true, ↓reduceIte, Option.map, abin, AGo_ok, St.app, putO, eput_c, eput_n, hups, List.map, ARun_nil, dropE_c, inL_n, dropE_n]
    refine aw_seq (aw_cond rfl (fun hc => ?_) (fun hc => ?_))
    · have hk' : k < b.length := by have := of_decide_eq_true hc; omega
      refine aw_skip (aw_seq (aw_block (aw_seq (aw_region ?_))))
      simp (config := {maxSteps := 10000000}) (disch := first | exact okYes (by kernel_rfl) | omega) only [thenQ, Int.reduceNeg, List.length, Nat.zero_add, Nat.reduceAdd, Nat.reduceMul, ARun_none, AOpRun, aexec, FSt.ev, St.F, eget_c, Nat.reduceBEq, ↓eget_h, cond_false, AGo_ok, St.app, putO, eput_c, eput_n, hups, List.map, ARun_nil, dropE_c, inL_c, inL_n, beq_self_eq_true, cond_true, dropE_n]
      refine aw_seq (aw_region ?_)
      simp (config := {maxSteps := 10000000}) (disch := first | exact okYes (by kernel_rfl) | omega) only [thenQ, Int.reduceNeg, List.length, Nat.zero_add, Nat.reduceAdd, Nat.reduceMul, ARun_none, AOpRun, aexec, FSt.ev, St.F, eget_c, Nat.reduceBEq, ↓eget_h, cond_false, AGo_ok, St.app, putO, eput_c, eput_n, hups, List.map, Int.natCast_nonneg, sps_all, and_self, ↓reduceIte, opt1, Option.map, Int.toNat_natCast, sps_gd b k hk', Nat.reduceLeDiff, List.take]
      refine acall0 (spanned1_ac (lo b k, hi b k)) ?_
      simp (config := {maxSteps := 10000000}) (disch := first | exact okYes (by kernel_rfl) | omega) only [Int.reduceNeg, Nat.reduceAdd, St.app, putO, dB, eput_c, Nat.reduceBEq, eput_n, cond_false, hups, ARun_nil, dropE_c, inL_c, inL_n, beq_self_eq_true, cond_true, dropE_n]
      rw [badAt_drop b k hk'] at hb
      refine aw_cond rfl (fun hc => ?_) (fun hc => ?_)
      · have hn : okS (lo b k, hi b k) = false := by simpa using hc
        rw [hn] at hb
        refine aw_seq (aw_region ?_)
        simp (config := {maxSteps := 10000000}) (disch := first | exact okYes (by kernel_rfl) | omega) only [thenQ, Int.reduceNeg, List.length, Nat.zero_add, Nat.reduceAdd, Nat.reduceMul, ARun_none, AOpRun, aexec, FSt.ev, St.F, eget_c, Nat.reduceBEq, ↓eget_h, cond_false, AGo_ok, St.app, putO, eput_c, eput_n, hups, List.map, ARun_nil, dropE_c, inL_c, inL_n, beq_self_eq_true, cond_true, dropE_n]
        refine aw_ret ?_
        rw [hb]
        simp only [Bool.false_eq_true, if_false, idxD]
        refine end_to [] [] (by first | exact .inl rfl | exact .inr rfl) rfl (by kernel_rfl) (by kernel_rfl) (by kernel_rfl) ?_ ?_ <;> repeat' (first | exact trivial | exact vr_val _)
      · have hn : okS (lo b k, hi b k) = true := by simpa using hc
        rw [hn, if_pos rfl] at hb
        refine aw_skip (aw_region ?_)
        simp (config := {maxSteps := 10000000}) (disch := first | exact okYes (by kernel_rfl) | omega) only [thenQ, List.length, Nat.zero_add, Nat.reduceAdd, Nat.reduceMul, ARun_none, AOpRun, aexec, FSt.ev, St.F, eget_c, Nat.reduceBEq, ↓eget_h, cond_false, isSh, Bool.false_eq_true, ↓reduceIte, Option.map, abin, fits, AGo_ok, St.app, putO, eput_c, eput_n, hups, List.map, beq_self_eq_true, cond_true, ARun_nil, dropE_c, inL_c, inL_n, dropE_n]
        refine ⟨k + 1, ⟨hk', hb⟩, by omega, ?_⟩
        refine wk_to [] [] (by kernel_rfl) (by kernel_rfl) (by kernel_rfl) (by kernel_rfl) (by kernel_rfl) ?_ ?_ <;> repeat' (first | exact trivial | exact vr_val _ | exact vr_list _ | apply vr_fn | apply And.intro)
    · have hk' : k = b.length := by have := of_decide_eq_false hc; omega
      subst hk'
      refine aw_exit (aw_seq (aw_region ?_))
      simp (config := {maxSteps := 10000000}) (disch := first | exact okYes (by kernel_rfl) | omega) only [thenQ, List.length, Nat.zero_add, Nat.reduceMul, Nat.reduceAdd, Int.reduceNeg, ARun_none, AOpRun, aexec, FSt.ev, AGo_ok, St.app, putO, eput_c, Nat.reduceBEq, eput_n, cond_false, hups, List.map, ARun_nil, dropE_c, inL_n, dropE_n]
      refine aw_ret ?_
      rw [hb, List.drop_length]
      refine end_to [] [] (by first | exact .inl rfl | exact .inr rfl) rfl (by kernel_rfl) (by kernel_rfl) (by kernel_rfl) ?_ ?_ <;> repeat' (first | exact trivial | exact vr_val _)
theorem contains_ac (b : Bx) (hl : b.length ≤ 1000) : AC Try.prog 113 [.list (sps b), .fn 114 [] []] [] [] (dB (!b.all okS)) := by
  refine kslices_ContainsFunc_L_L_Japi_Span_Kapi_Span_J.ac (n0 := 0) (by simp) ⟨.list _, .fn _ _ _ (by simp) (by simp), trivial⟩ trivial rfl ?_
  unfold cslices_ContainsFunc_L_L_Japi_Span_Kapi_Span_J
  refine aw_seq (aw_region ?_)
  simp (config := {maxSteps := 10000000}) (disch := first | exact okYes (by kernel_rfl) | omega) only [thenQ, List.map, List.length, Nat.zero_add, Nat.reduceMul, envOf, ARun_none, AOpRun, aexec, FSt.ev, AGo_ok, St.app, putO, eput_c, Nat.reduceBEq, eput_n, cond_false, hups, ARun_nil, dropE_c, inL_n, dropE_n]
  refine aw_seq (aw_region ?_)
  simp (config := {maxSteps := 10000000}) (disch := first | exact okYes (by kernel_rfl) | omega) only [thenQ, List.length, Nat.zero_add, Nat.reduceAdd, Nat.reduceMul, ARun_none, AOpRun, aexec, FSt.ev, St.F, ↓eget_h, AGo_ok, St.app, putO, eput_c, Nat.reduceBEq, eput_n, cond_false, hups, List.map, eget_c]
  refine acall0 (index_ac b hl) ?_
  have hb := badAt_none b 0
  cases hi : badAt b 0 with
  | none =>
    have h1 : b.all okS = true := hb.1 hi
    simp (config := {maxSteps := 10000000}) (disch := first | exact okYes (by kernel_rfl) | omega) only [Nat.reduceAdd, St.app, putO, idxD, Int.reduceNeg, eput_c, Nat.reduceBEq, eput_n, cond_false, hups, ARun_none, AOpRun, aexec, FSt.ev, St.F, eget_c, ↓eget_h, isSh, Bool.false_eq_true, ↓reduceIte, Option.map, abin, AGo_ok, List.map, beq_self_eq_true, cond_true, ARun_nil, dropE_c, inL_c, inL_n, dropE_n]
    refine aw_ret ?_
    rw [h1]
    refine end_to [] [] (by first | exact .inl rfl | exact .inr rfl) rfl (by kernel_rfl) (by kernel_rfl) (by kernel_rfl) ?_ ?_ <;> repeat' (first | exact trivial | exact vr_val _)
  | some k =>
    have h1 : b.all okS = false := by
      rw [hi] at hb
      cases h : b.all okS with
      | false => rfl
      | true => rw [h] at hb; simp at hb
    have h2 : ((k : Int) ≥ 0) := by omega
    simp (config := {maxSteps := 10000000}) (disch := first | exact okYes (by kernel_rfl) | omega) only [Nat.reduceAdd, St.app, putO, idxD, eput_c, Nat.reduceBEq, eput_n, cond_false, hups, ARun_none, AOpRun, aexec, FSt.ev, St.F, eget_c, ↓eget_h, isSh, Bool.false_eq_true, ↓reduceIte, Option.map, abin, h2, decide_true, AGo_ok, List.map, beq_self_eq_true, cond_true, ARun_nil, dropE_c, inL_c, inL_n, dropE_n]
    refine aw_ret ?_
    rw [h1]
    refine end_to [] [] (by first | exact .inl rfl | exact .inr rfl) rfl (by kernel_rfl) (by kernel_rfl) (by kernel_rfl) ?_ ?_ <;> repeat' (first | exact trivial | exact vr_val _)
theorem spanned_ac (b : Bx) (hl : b.length ≤ 1000) : AC Try.prog 101 [.list (sps b)] [] [] (dI (if b.all okS = true then 0 else 10)) := by
  refine kspans_spanned.ac (n0 := 0) (by simp) ⟨.list _, trivial⟩ trivial rfl ?_
  unfold cspans_spanned
  refine aw_seq (aw_region ?_)
  simp (config := {maxSteps := 10000000}) (disch := first | exact okYes (by kernel_rfl) | omega) only [thenQ, List.map, List.length, Nat.zero_add, Nat.reduceMul, envOf, ARun_none, AOpRun, aexec, FSt.ev, AGo_ok, St.app, putO, eput_c, Nat.reduceBEq, eput_n, cond_false, hups, ARun_nil, dropE_c, inL_n, dropE_n]
  refine aw_seq (aw_seq (aw_region ?_))
  simp (config := {maxSteps := 10000000}) (disch := first | exact okYes (by kernel_rfl) | omega) only [thenQ, List.length, Nat.zero_add, Nat.reduceAdd, Nat.reduceMul, ARun_none, AOpRun, aexec, FSt.ev, St.F, ↓eget_h, AGo_ok, St.app, putO, eput_c, Nat.reduceBEq, eput_n, cond_false, hups, List.map, eget_c]
  refine acall0 (contains_ac b hl) ?_
  simp (config := {maxSteps := 10000000}) (disch := first | exact okYes (by kernel_rfl) | omega) only [Nat.reduceAdd, St.app, putO, dB, eput_c, Nat.reduceBEq, eput_n, cond_false, hups, ARun_nil, dropE_c, inL_c, inL_n, beq_self_eq_true, cond_true, dropE_n]
  refine aw_cond rfl (fun hc => ?_) (fun hc => ?_)
  · have h1 : ¬ b.all okS = true := by simpa using hc
    refine aw_seq (aw_region ?_)
    simp (config := {maxSteps := 10000000}) (disch := first | exact okYes (by kernel_rfl) | omega) only [thenQ, List.length, Nat.zero_add, Nat.reduceMul, Nat.reduceAdd, ARun_none, AOpRun, aexec, FSt.ev, AGo_ok, St.app, putO, eput_c, Nat.reduceBEq, beq_self_eq_true, eput_n, cond_false, cond_true, hups, List.map, ARun_nil, dropE_c, inL_n, dropE_n]
    refine aw_ret ?_
    rw [if_neg h1]
    refine end_to [] [] (by first | exact .inl rfl | exact .inr rfl) rfl (by kernel_rfl) (by kernel_rfl) (by kernel_rfl) ?_ ?_ <;> repeat' (first | exact trivial | exact vr_val _)
  · have h1 : b.all okS = true := by simpa using hc
    refine aw_skip (aw_seq (aw_region ?_))
    simp (config := {maxSteps := 10000000}) (disch := first | exact okYes (by kernel_rfl) | omega) only [thenQ, List.length, Nat.zero_add, Nat.reduceMul, Nat.reduceAdd, ARun_none, AOpRun, aexec, FSt.ev, AGo_ok, St.app, putO, eput_c, Nat.reduceBEq, beq_self_eq_true, eput_n, cond_false, cond_true, hups, List.map, ARun_nil, dropE_c, inL_n, dropE_n]
    refine aw_ret ?_
    rw [if_pos h1]
    refine end_to [] [] (by first | exact .inl rfl | exact .inr rfl) rfl (by kernel_rfl) (by kernel_rfl) (by kernel_rfl) ?_ ?_ <;> repeat' (first | exact trivial | exact vr_val _)
theorem check_ac (b : Bx) : AC Try.prog 72 [.list (sps b)] [] [] (dI (boxE b)) := by
  refine kspans_Check.ac (n0 := 0) (by simp) ⟨.list _, trivial⟩ trivial rfl ?_
  unfold cspans_Check
  refine aw_seq (aw_region ?_)
  simp (config := {maxSteps := 10000000}) (disch := first | exact okYes (by kernel_rfl) | omega) only [thenQ, List.map, List.length, Nat.zero_add, Nat.reduceMul, envOf, ARun_none, AOpRun, aexec, FSt.ev, AGo_ok, St.app, putO, eput_c, Nat.reduceBEq, eput_n, cond_false, hups, ARun_nil, dropE_c, inL_n, dropE_n]
  refine aw_seq (aw_seq (aw_region ?_))
  simp (config := {maxSteps := 10000000}) (disch := first | exact okYes (by kernel_rfl) | omega) only [thenQ, List.length, Nat.zero_add, Nat.reduceAdd, Nat.reduceMul, ARun_none, AOpRun, aexec, FSt.ev, St.F, ↓eget_h, AGo_ok, St.app, putO, eput_c, Nat.reduceBEq, eput_n, cond_false, hups, List.map, eget_c, sps_len]
  refine acall0 (within_ac b.length 1 3) ?_
  simp (config := {maxSteps := 10000000}) (disch := first | exact okYes (by kernel_rfl) | omega) only [Nat.reduceAdd, St.app, putO, dB, eput_c, Nat.reduceBEq, eput_n, cond_false, hups, ARun_none, AOpRun, aexec, FSt.ev, St.F, eget_c, ↓eget_h, AGo_ok, List.map, ARun_nil, dropE_c, inL_c, inL_n, beq_self_eq_true, cond_true, dropE_n]
  refine aw_cond rfl (fun hc => ?_) (fun hc => ?_)
  · have h1 : ¬ (1 ≤ b.length ∧ b.length ≤ 3 ∧ b.all okS = true) := fun h => by
      simp only [Bool.not_eq_true', Bool.and_eq_false_iff, decide_eq_false_iff_not] at hc
      omega
    refine aw_seq (aw_region ?_)
    simp (config := {maxSteps := 10000000}) (disch := first | exact okYes (by kernel_rfl) | omega) only [thenQ, List.length, Nat.zero_add, Nat.reduceMul, Nat.reduceAdd, ARun_none, AOpRun, aexec, FSt.ev, AGo_ok, St.app, putO, eput_c, Nat.reduceBEq, beq_self_eq_true, eput_n, cond_false, cond_true, hups, List.map, ARun_nil, dropE_c, inL_n, dropE_n]
    refine aw_ret ?_
    unfold boxE
    rw [if_neg h1]
    refine end_to [] [] (by first | exact .inl rfl | exact .inr rfl) rfl (by kernel_rfl) (by kernel_rfl) (by kernel_rfl) ?_ ?_ <;> repeat' (first | exact trivial | exact vr_val _)
  · simp only [Bool.not_eq_false', Bool.and_eq_true, decide_eq_true_eq] at hc
    refine aw_skip (aw_seq (aw_region ?_))
    simp (config := {maxSteps := 10000000}) (disch := first | exact okYes (by kernel_rfl) | omega) only [thenQ, List.length, Nat.zero_add, Nat.reduceAdd, Nat.reduceMul, ARun_none, AOpRun, aexec, FSt.ev, St.F, ↓eget_h, AGo_ok, St.app, putO, eput_c, Nat.reduceBEq, eput_n, cond_false, hups, List.map, eget_c]
    refine acall0 (spanned_ac b (by omega)) ?_
    simp (config := {maxSteps := 10000000}) (disch := first | exact okYes (by kernel_rfl) | omega) only [dI, Nat.reduceAdd, St.app, putO, eput_c, Nat.reduceBEq, eput_n, cond_false, hups, ARun_none, AOpRun, aexec, FSt.ev, St.F, eget_c, ↓eget_h, AGo_ok, beq_self_eq_true, cond_true, List.map, ARun_nil, dropE_c, inL_c, inL_n, dropE_n]
    refine aw_ret ?_
    have e : boxE b = (if b.all okS = true then 0 else 10) := by
      unfold boxE
      by_cases h : b.all okS = true
      · rw [if_pos ⟨by omega, by omega, h⟩, if_pos h]
      · rw [if_neg (fun hh => h hh.2.2), if_neg h]
    rw [e]
    refine end_to [] [] (by first | exact .inl rfl | exact .inr rfl) rfl (by kernel_rfl) (by kernel_rfl) (by kernel_rfl) ?_ ?_ <;> repeat' (first | exact trivial | exact vr_val _)
end Go.Proofs.Ythohcimmoobaoaa
/- The first of a list of which something is so. No conditions. -/
namespace Go.Proofs.Ythohcimmoobaoaa

def ixOf {α : Type} (p : α → Bool) (l : List α) : Int := if l.any p = true then (l.findIdx p : Int) else -1
theorem ixOf_some {α : Type} {p : α → Bool} {l : List α} {d : α} {k : Nat} (hk : k < l.length) (h : ∀ j, j < k → p (l[j]?.getD d) = false) (hp : p (l[k]?.getD d) = true) : ixOf p l = k := by
  have e : p l[k] = true := by simpa [hk] using hp
  unfold ixOf
  rw [if_pos (List.any_eq_true.2 ⟨l[k], List.getElem_mem hk, e⟩)]
  have : l.findIdx p = k := (List.findIdx_eq hk).2 ⟨e, fun j hj => by
    have := h j hj
    simpa [show j < l.length by omega] using this⟩
  rw [this]
theorem ixOf_none {α : Type} {p : α → Bool} {l : List α} {d : α} (h : ∀ j, j < l.length → p (l[j]?.getD d) = false) : ixOf p l = -1 := by
  unfold ixOf
  rw [if_neg]
  intro hc
  obtain ⟨x, hx, hp⟩ := List.any_eq_true.1 hc
  obtain ⟨j, hj, rfl⟩ := List.getElem_of_mem hx
  have := h j hj
  simp [hj, hp] at this
theorem ixOf_ge {α : Type} (p : α → Bool) (l : List α) : decide (ixOf p l ≥ 0) = l.any p := by
  unfold ixOf
  cases h : l.any p <;> simp
theorem prev_next {α : Type} {p : α → Bool} {l : List α} {d : α} {k : Nat} (h : ∀ j, j < k → p (l[j]?.getD d) = false) (hp : p (l[k]?.getD d) = false) : ∀ j, j < k + 1 → p (l[j]?.getD d) = false := fun j hj => by
  rcases (by omega : j < k ∨ j = k) with h1 | rfl
  · exact h j h1
  · exact hp
/-- the first number below n of which something is so; -1: none -/
def ixR (p : Nat → Bool) (n : Nat) : Int := ixOf p (List.range n)
theorem ixR_some {p : Nat → Bool} {n k : Nat} (hk : k < n) (h : ∀ j, j < k → p j = false) (hp : p k = true) : ixR p n = k :=
  ixOf_some (d := 0) (by simpa using hk) (fun j hj => by simpa [show j < n by omega] using h j hj) (by simpa [hk] using hp)
theorem ixR_none {p : Nat → Bool} {n : Nat} (h : ∀ j, j < n → p j = false) : ixR p n = -1 :=
  ixOf_none (d := 0) fun j hj => by
    have hj' : j < n := by simpa using hj
    simpa [hj'] using h j hj'
end Go.Proofs.Ythohcimmoobaoaa
/- A list of gusts: is one not right? No conditions. -/
set_option linter.unusedSimpArgs false
set_option linter.unusedVariables false
namespace Go.Proofs.Ythohcimmoobaoaa
open Go.RowKit Lift

set_option maxRecDepth 100000 in
set_option maxHeartbeats 1000000 in
theorem gustI_ac  (l : List Int) (hl : l.length ≤ 1000000) : AC Try.prog 92 [.list (ints l), .fn 52 [] []] [] [] (dI (ixOf (fun g => !wI g (-100) 100) l)) := by
  refine kslices_IndexFunc_L_L_Jint_Kint_J.ac (n0 := 0) (by simp) ⟨.list _, .fn _ _ _ (by simp) (by simp), trivial⟩ trivial rfl ?_
  unfold cslices_IndexFunc_L_L_Jint_Kint_J
  generalize hp : (fun g => !wI g (-100) 100) = p
  have hpa : ∀ x, p x = (fun g => !wI g (-100) 100) x := fun x => by rw [hp]
  generalize hR : ixOf p l = R
  (have hg : (987654321 : Nat) - 987654321 = 0 := rfl; have hr := hg; repeat' (first | refine aw_seq ?_ | (refine aw_skip ?_; try simp only [thenQ, blockQ, if_true, if_false, Nat.reduceEqDiff, reduceCtorEq]) | (refine aw_exit ?_; try simp only [thenQ, blockQ, if_true, if_false, Nat.reduceEqDiff, reduceCtorEq]) | refine aw_ret ?_ | refine aw_block ?_ | refine aw_condT rfl ?_ | refine aw_condF rfl ?_ | (refine aw_cond rfl (fun hg => ?_) (fun hg => ?_) <;> (try (have hq := hg; simp only [Bool.not_eq_true', Bool.not_eq_false', Bool.and_eq_true, Bool.and_eq_false_iff, Bool.or_eq_true, Bool.or_eq_false_iff, decide_eq_true_eq, decide_eq_false_iff_not, bne_iff_ne, beq_iff_eq, beq_eq_false_iff_ne, bne_eq_false_iff_eq, ne_eq, Int.not_lt, Int.not_le, Decidable.not_not] at hq)) <;> (try (have hr := hg; simp only [decide_eq_true_eq, decide_eq_false_iff_not] at hr)) <;> (try (exfalso; omega))) | ((first | refine aw_region ?_ | refine ago_if (by omega) ?_ | skip); simp (config := {maxSteps := 10000000}) (disch := first | exact okYes (by kernel_rfl) | omega) only [thenQ, List.map, Int.reduceNeg, List.length, Nat.zero_add, Nat.reduceMul, envOf, ARun_none, AOpRun, aexec, FSt.ev, AGo_ok, St.app, putO, eput_c, Nat.reduceBEq, eput_n, cond_false, hups, ARun_nil, dropE_c, inL_n, dropE_n, Nat.reduceAdd, St.F, ↓eget_h, eget_c, ints_len, inL_c, beq_self_eq_true, cond_true])))
  refine aw_loop (fun k : Nat => ⟨[(0, .list (ints l)), (1, .fn 52 [] []), (7, dI l.length), (8, dI k)], [], 400⟩) (fun k => k ≤ l.length ∧ ∀ j, j < k → p (l[j]?.getD 0) = false) (fun k => l.length - k) ⟨0, ⟨by omega, by omega⟩, ?_⟩ ?_
  · refine wk_to [] [] (by kernel_rfl) (by kernel_rfl) (by kernel_rfl) (by kernel_rfl) (by kernel_rfl) ?_ ?_ <;> repeat' (first | exact trivial | exact vr_val _ | exact vr_list _ | exact vr_at _ | exact vr_nil | exact vr_cap0 | exact vr_vec _ _ _ _ rfl | exact vr_own _ _ _ _ _ rfl | exact vr_ptr _ _ _ rfl | exact vr_nilv _ _ _ rfl | exact vr_bot _ | exact vr_cap0v _ _ _ rfl | exact vr_cap0l | apply vr_agg | apply vr_tup | apply vr_fn | refine vr_yld _ _ _ rfl ?_ | exact Ren.bot _ | exact Ren.val _ | exact Ren.list _ | exact Ren.at_ _ | exact Ren.ptr _ _ _ rfl | refine Ren.yld _ _ _ _ _ rfl rfl (RenL.get ?_).2 (fun _ _ _ h => h) | refine vr_fl _ _ _ _ _ (by decide) rfl ?_ ?_ ?_ ?_ | refine And.intro ⟨_, rfl, .inl ⟨_, rfl, by decide, ?_⟩⟩ ?_ | refine And.intro ⟨_, rfl, _, rfl, by decide, ?_⟩ ?_ | refine And.intro ⟨_, rfl, .inr ⟨rfl, rfl, of_decide_eq_true (by kernel_rfl)⟩⟩ ?_ | apply And.intro | exact vrl_flat _ (by first | exact icells_in _ | exact rcells_in _ | exact scells_in _ | exact bcells_in _ | assumption))
  · rintro k ⟨hk, hv⟩
    by_cases hk2 : k < l.length
    · have g1 := ints_gd l k hk2
      cases hx : p (l[k]?.getD 0) with
      | true =>
        have hx2 := hx
        rw [hpa] at hx2
        rw [← hR, ixOf_some hk2 hv hx]
        (have hg : (987654321 : Nat) - 987654321 = 0 := rfl; have hr := hg; repeat' (first | refine aw_seq ?_ | (refine aw_skip ?_; try simp only [thenQ, blockQ, if_true, if_false, Nat.reduceEqDiff, reduceCtorEq]) | (refine aw_exit ?_; try simp only [thenQ, blockQ, if_true, if_false, Nat.reduceEqDiff, reduceCtorEq]) | refine aw_ret ?_ | refine aw_block ?_ | refine aw_condT rfl ?_ | refine aw_condF rfl ?_ | (refine aw_cond rfl (fun hg => ?_) (fun hg => ?_) <;> (try (have hq := hg; simp only [Bool.not_eq_true', Bool.not_eq_false', Bool.and_eq_true, Bool.and_eq_false_iff, Bool.or_eq_true, Bool.or_eq_false_iff, decide_eq_true_eq, decide_eq_false_iff_not, bne_iff_ne, beq_iff_eq, beq_eq_false_iff_ne, bne_eq_false_iff_eq, ne_eq, Int.not_lt, Int.not_le, Decidable.not_not] at hq)) <;> (try (have hr := hg; simp only [decide_eq_true_eq, decide_eq_false_iff_not] at hr)) <;> (try (exfalso; omega))) | ((first | refine aw_region ?_ | refine acall0 (s1_ac _) ?_ | refine ago_if (by omega) ?_ | skip); simp (config := {maxSteps := 10000000}) (disch := first | exact okYes (by kernel_rfl) | omega) only [thenQ, dI, Int.reduceNeg, List.length, Nat.zero_add, Nat.reduceMul, Nat.reduceAdd, ARun_none, AOpRun, aexec, FSt.ev, St.F, eget_c, Nat.reduceBEq, ↓eget_h, cond_false, isSh, Bool.false_eq_true, ↓reduceIte, Option.map, abin, AGo_ok, St.app, putO, eput_c, eput_n, hups, List.map, ARun_nil, dropE_c, inL_n, dropE_n, hr, decide_true, inL_c, beq_self_eq_true, cond_true, Int.natCast_nonneg, ints_all, and_self, opt1, Int.toNat_natCast, g1, run1, List.getElem?_cons_zero, dB, hx2, blockQ])))
        all_goals (refine end_to [] [] (by first | exact .inl rfl | exact .inr rfl) rfl (by kernel_rfl) (by kernel_rfl) (by kernel_rfl) ?_ ?_ <;> repeat' (first | exact trivial | exact vr_val _ | exact vr_list _ | exact vr_at _ | exact vr_nil | exact vr_cap0 | exact vr_vec _ _ _ _ rfl | exact vr_own _ _ _ _ _ rfl | exact vr_ptr _ _ _ rfl | exact vr_nilv _ _ _ rfl | exact vr_bot _ | exact vr_cap0v _ _ _ rfl | exact vr_cap0l | apply vr_agg | apply vr_tup | apply vr_fn | refine vr_yld _ _ _ rfl ?_ | exact Ren.bot _ | exact Ren.val _ | exact Ren.list _ | exact Ren.at_ _ | exact Ren.ptr _ _ _ rfl | refine Ren.yld _ _ _ _ _ rfl rfl (RenL.get ?_).2 (fun _ _ _ h => h) | refine vr_fl _ _ _ _ _ (by decide) rfl ?_ ?_ ?_ ?_ | refine And.intro ⟨_, rfl, .inl ⟨_, rfl, by decide, ?_⟩⟩ ?_ | refine And.intro ⟨_, rfl, _, rfl, by decide, ?_⟩ ?_ | refine And.intro ⟨_, rfl, .inr ⟨rfl, rfl, of_decide_eq_true (by kernel_rfl)⟩⟩ ?_ | apply And.intro | refine vr_valq ?_ | refine vr_listq ?_ | exact vrl_flat _ (by first | exact icells_in _ | exact rcells_in _ | exact scells_in _ | exact bcells_in _ | assumption)))
      | false =>
        have hx2 := hx
        rw [hpa] at hx2
        (have hg : (987654321 : Nat) - 987654321 = 0 := rfl; have hr := hg; repeat' (first | refine aw_seq ?_ | (refine aw_skip ?_; try simp only [thenQ, blockQ, if_true, if_false, Nat.reduceEqDiff, reduceCtorEq]) | (refine aw_exit ?_; try simp only [thenQ, blockQ, if_true, if_false, Nat.reduceEqDiff, reduceCtorEq]) | refine aw_ret ?_ | refine aw_block ?_ | refine aw_condT rfl ?_ | refine aw_condF rfl ?_ | (refine aw_cond rfl (fun hg => ?_) (fun hg => ?_) <;> (try (have hq := hg; simp only [Bool.not_eq_true', Bool.not_eq_false', Bool.and_eq_true, Bool.and_eq_false_iff, Bool.or_eq_true, Bool.or_eq_false_iff, decide_eq_true_eq, decide_eq_false_iff_not, bne_iff_ne, beq_iff_eq, beq_eq_false_iff_ne, bne_eq_false_iff_eq, ne_eq, Int.not_lt, Int.not_le, Decidable.not_not] at hq)) <;> (try (have hr := hg; simp only [decide_eq_true_eq, decide_eq_false_iff_not] at hr)) <;> (try (exfalso; omega))) | ((first | refine aw_region ?_ | refine acall0 (s1_ac _) ?_ | refine ago_if (by omega) ?_ | skip); simp (config := {maxSteps := 10000000}) (disch := first | exact okYes (by kernel_rfl) | omega) only [thenQ, dI, Int.reduceNeg, List.length, Nat.zero_add, Nat.reduceMul, Nat.reduceAdd, ARun_none, AOpRun, aexec, FSt.ev, St.F, eget_c, Nat.reduceBEq, ↓eget_h, cond_false, isSh, Bool.false_eq_true, ↓reduceIte, Option.map, abin, AGo_ok, St.app, putO, eput_c, eput_n, hups, List.map, ARun_nil, dropE_c, inL_n, dropE_n, hr, decide_true, inL_c, beq_self_eq_true, cond_true, Int.natCast_nonneg, ints_all, and_self, opt1, Int.toNat_natCast, g1, run1, List.getElem?_cons_zero, dB, hx2, fits])))
        exact ⟨k + 1, ⟨by omega, prev_next hv hx⟩, by omega, by refine wk_to [] [] (by kernel_rfl) (by kernel_rfl) (by kernel_rfl) (by kernel_rfl) (by kernel_rfl) ?_ ?_ <;> repeat' (first | exact trivial | exact vr_val _ | exact vr_list _ | exact vr_at _ | exact vr_nil | exact vr_cap0 | exact vr_vec _ _ _ _ rfl | exact vr_own _ _ _ _ _ rfl | exact vr_ptr _ _ _ rfl | exact vr_nilv _ _ _ rfl | exact vr_bot _ | exact vr_cap0v _ _ _ rfl | exact vr_cap0l | apply vr_agg | apply vr_tup | apply vr_fn | refine vr_yld _ _ _ rfl ?_ | exact Ren.bot _ | exact Ren.val _ | exact Ren.list _ | exact Ren.at_ _ | exact Ren.ptr _ _ _ rfl | refine Ren.yld _ _ _ _ _ rfl rfl (RenL.get ?_).2 (fun _ _ _ h => h) | refine vr_fl _ _ _ _ _ (by decide) rfl ?_ ?_ ?_ ?_ | refine And.intro ⟨_, rfl, .inl ⟨_, rfl, by decide, ?_⟩⟩ ?_ | refine And.intro ⟨_, rfl, _, rfl, by decide, ?_⟩ ?_ | refine And.intro ⟨_, rfl, .inr ⟨rfl, rfl, of_decide_eq_true (by kernel_rfl)⟩⟩ ?_ | apply And.intro | exact vrl_flat _ (by first | exact icells_in _ | exact rcells_in _ | exact scells_in _ | exact bcells_in _ | assumption))⟩
    · obtain rfl : k = l.length := by omega
      rw [← hR, ixOf_none hv]
      (have hg : (987654321 : Nat) - 987654321 = 0 := rfl; have hr := hg; repeat' (first | refine aw_seq ?_ | (refine aw_skip ?_; try simp only [thenQ, blockQ, if_true, if_false, Nat.reduceEqDiff, reduceCtorEq]) | (refine aw_exit ?_; try simp only [thenQ, blockQ, if_true, if_false, Nat.reduceEqDiff, reduceCtorEq]) | refine aw_ret ?_ | refine aw_block ?_ | refine aw_condT rfl ?_ | refine aw_condF rfl ?_ | (refine aw_cond rfl (fun hg => ?_) (fun hg => ?_) <;> (try (have hq := hg; simp only [Bool.not_eq_true', Bool.not_eq_false', Bool.and_eq_true, Bool.and_eq_false_iff, Bool.or_eq_true, Bool.or_eq_false_iff, decide_eq_true_eq, decide_eq_false_iff_not, bne_iff_ne, beq_iff_eq, beq_eq_false_iff_ne, bne_eq_false_iff_eq, ne_eq, Int.not_lt, Int.not_le, Decidable.not_not] at hq)) <;> (try (have hr := hg; simp only [decide_eq_true_eq, decide_eq_false_iff_not] at hr)) <;> (try (exfalso; omega))) | ((first | refine aw_region ?_ | refine ago_if (by omega) ?_ | skip); simp (config := {maxSteps := 10000000}) (disch := first | exact okYes (by kernel_rfl) | omega) only [thenQ, dI, Int.reduceNeg, List.length, Nat.zero_add, Nat.reduceMul, Nat.reduceAdd, ARun_none, AOpRun, aexec, FSt.ev, St.F, eget_c, Nat.reduceBEq, ↓eget_h, cond_false, isSh, Bool.false_eq_true, ↓reduceIte, Option.map, abin, AGo_ok, St.app, putO, eput_c, eput_n, hups, List.map, ARun_nil, dropE_c, inL_n, dropE_n, hr, decide_false])))
      all_goals (refine end_to [] [] (by first | exact .inl rfl | exact .inr rfl) rfl (by kernel_rfl) (by kernel_rfl) (by kernel_rfl) ?_ ?_ <;> repeat' (first | exact trivial | exact vr_val _ | exact vr_list _ | exact vr_at _ | exact vr_nil | exact vr_cap0 | exact vr_vec _ _ _ _ rfl | exact vr_own _ _ _ _ _ rfl | exact vr_ptr _ _ _ rfl | exact vr_nilv _ _ _ rfl | exact vr_bot _ | exact vr_cap0v _ _ _ rfl | exact vr_cap0l | apply vr_agg | apply vr_tup | apply vr_fn | refine vr_yld _ _ _ rfl ?_ | exact Ren.bot _ | exact Ren.val _ | exact Ren.list _ | exact Ren.at_ _ | exact Ren.ptr _ _ _ rfl | refine Ren.yld _ _ _ _ _ rfl rfl (RenL.get ?_).2 (fun _ _ _ h => h) | refine vr_fl _ _ _ _ _ (by decide) rfl ?_ ?_ ?_ ?_ | refine And.intro ⟨_, rfl, .inl ⟨_, rfl, by decide, ?_⟩⟩ ?_ | refine And.intro ⟨_, rfl, _, rfl, by decide, ?_⟩ ?_ | refine And.intro ⟨_, rfl, .inr ⟨rfl, rfl, of_decide_eq_true (by kernel_rfl)⟩⟩ ?_ | apply And.intro | refine vr_valq ?_ | refine vr_listq ?_ | exact vrl_flat _ (by first | exact icells_in _ | exact rcells_in _ | exact scells_in _ | exact bcells_in _ | assumption)))
set_option maxRecDepth 100000 in
set_option maxHeartbeats 1000000 in
theorem gustC_ac  (l : List Int) (hl : l.length ≤ 1000000) : AC Try.prog 51 [.list (ints l), .fn 52 [] []] [] [] (dB (l.any (fun g => !wI g (-100) 100))) := by
  refine kslices_ContainsFunc_L_L_Jint_Kint_J.ac (n0 := 0) (by simp) ⟨.list _, .fn _ _ _ (by simp) (by simp), trivial⟩ trivial rfl ?_
  unfold cslices_ContainsFunc_L_L_Jint_Kint_J
  rw [← ixOf_ge]
  (have hg : (987654321 : Nat) - 987654321 = 0 := rfl; have hr := hg; repeat' (first | refine aw_seq ?_ | (refine aw_skip ?_; try simp only [thenQ, blockQ, if_true, if_false, Nat.reduceEqDiff, reduceCtorEq]) | (refine aw_exit ?_; try simp only [thenQ, blockQ, if_true, if_false, Nat.reduceEqDiff, reduceCtorEq]) | refine aw_ret ?_ | refine aw_block ?_ | refine aw_condT rfl ?_ | refine aw_condF rfl ?_ | (refine aw_cond rfl (fun hg => ?_) (fun hg => ?_) <;> (try (have hq := hg; simp only [Bool.not_eq_true', Bool.not_eq_false', Bool.and_eq_true, Bool.and_eq_false_iff, Bool.or_eq_true, Bool.or_eq_false_iff, decide_eq_true_eq, decide_eq_false_iff_not, bne_iff_ne, beq_iff_eq, beq_eq_false_iff_ne, bne_eq_false_iff_eq, ne_eq, Int.not_lt, Int.not_le, Decidable.not_not] at hq)) <;> (try (have hr := hg; simp only [decide_eq_true_eq, decide_eq_false_iff_not] at hr)) <;> (try (exfalso; omega))) | ((first | refine aw_region ?_ | refine acall0 (gustI_ac  l hl) ?_ | refine ago_if (by omega) ?_ | skip); simp (config := {maxSteps := 10000000}) (disch := first | exact okYes (by kernel_rfl) | omega) only [thenQ, List.map, Int.reduceNeg, List.length, Nat.zero_add, Nat.reduceMul, envOf, ARun_none, AOpRun, aexec, FSt.ev, AGo_ok, St.app, putO, eput_c, Nat.reduceBEq, eput_n, cond_false, hups, ARun_nil, dropE_c, inL_n, dropE_n, Nat.reduceAdd, St.F, ↓eget_h, eget_c, dI, isSh, Bool.false_eq_true, ↓reduceIte, Option.map, abin, beq_self_eq_true, cond_true, inL_c])))
  all_goals (refine end_to [] [] (by first | exact .inl rfl | exact .inr rfl) rfl (by kernel_rfl) (by kernel_rfl) (by kernel_rfl) ?_ ?_ <;> repeat' (first | exact trivial | exact vr_val _ | exact vr_list _ | exact vr_at _ | exact vr_nil | exact vr_cap0 | exact vr_vec _ _ _ _ rfl | exact vr_own _ _ _ _ _ rfl | exact vr_ptr _ _ _ rfl | exact vr_nilv _ _ _ rfl | exact vr_bot _ | exact vr_cap0v _ _ _ rfl | exact vr_cap0l | apply vr_agg | apply vr_tup | apply vr_fn | refine vr_yld _ _ _ rfl ?_ | exact Ren.bot _ | exact Ren.val _ | exact Ren.list _ | exact Ren.at_ _ | exact Ren.ptr _ _ _ rfl | refine Ren.yld _ _ _ _ _ rfl rfl (RenL.get ?_).2 (fun _ _ _ h => h) | refine vr_fl _ _ _ _ _ (by decide) rfl ?_ ?_ ?_ ?_ | refine And.intro ⟨_, rfl, .inl ⟨_, rfl, by decide, ?_⟩⟩ ?_ | refine And.intro ⟨_, rfl, _, rfl, by decide, ?_⟩ ?_ | refine And.intro ⟨_, rfl, .inr ⟨rfl, rfl, of_decide_eq_true (by kernel_rfl)⟩⟩ ?_ | apply And.intro | refine vr_valq ?_ | refine vr_listq ?_ | exact vrl_flat _ (by first | exact icells_in _ | exact rcells_in _ | exact scells_in _ | exact bcells_in _ | assumption)))
end Go.Proofs.Ythohcimmoobaoaa
/- A call that takes one slice of one's own, to look at. No conditions. -/
namespace Go.Proofs.Ythohcimmoobaoaa.Lift
open Go Go.RowKit

theorem flat_len {sz : Nat} : ∀ l : List (List D), (∀ e ∈ l, e.length = sz) → l.flatten.length = l.length * sz
  | [], _ => by simp
  | x :: l, h => by
    simp only [List.flatten_cons, List.length_append, List.length_cons, flat_len l fun e he => h e (List.mem_cons_of_mem _ he), h x (List.mem_cons_self ..)]
    rw [Nat.succ_mul]; omega
section
variable {P : Program} {dr : Bool} {b : Nat} {Q : St → Prop} {dst : Option Nat} {anc : List Nat} {l : List AOper} {k : Nat} {s : St} {log : Lg}
theorem acallV1 {f : FuncId} {g n sz : Nat} {L : List (List D)} {c : List D} {d : D} (hA : AC P f [.list L] [] [] d) (hF : Flat d) (hc : hget s.hp g = some c) (h4 : ∀ e ∈ L, e.length = sz) (h5 : L.length = n) (h6 : L.flatten = c) (h7 : ∀ x ∈ c, In (fun _ => False) x)
    (hl : okLog dr log anc [g] [] = true) (h : ARun P dr b Q l (k + 1) (s.app dst d []) ((k, [g], []) :: log)) : ACallK P dr b Q (.fn f [] []) [.vec g n sz] dst anc l k s log :=
  acall (args' := [.list L]) hA [g] ⟨by
    have := flat_len L h4
    rw [h6, h5] at this
    exact .vec g n sz c L (List.mem_singleton.2 rfl) hc (by omega) h4 h5 (by rw [h6, List.take_of_length_le (by omega)]) h7, trivial⟩ (.inr hF) (fun x hx => by rw [List.mem_singleton.1 hx]; exact ⟨c, hc⟩) hl h
end
end Go.Proofs.Ythohcimmoobaoaa.Lift
/- Sets of starts and gusts: what is right; how one is made. No conditions. -/
set_option linter.unusedSimpArgs false
set_option linter.unusedVariables false
namespace Go.Proofs.Ythohcimmoobaoaa
open Go.RowKit Lift

theorem box1 (x : Int × Int) : boxE [x] = if okS x = true then 0 else 10 := by
  unfold boxE; by_cases h : okS x = true <;> simp [h]
theorem okS_t {x : Int × Int} (h : okS x = true) : -1000000 ≤ x.1 ∧ x.1 ≤ x.2 ∧ x.2 ≤ 1000000 := by
  simp only [okS, Bool.and_eq_true, decide_eq_true_eq] at h; omega
end Go.Proofs.Ythohcimmoobaoaa
/- The contracts of spans.Bound and spans.Worst. -/
namespace Go.Proofs.Ythohcimmoobaoaa
open Go.RowKit

def pts (xs ys : List Int) (vs : List (List Int)) (x y : Int × Int) : List Pt := allPts xs ys vs (stopsL xs x.1 x.2) (stopsL ys y.1 y.2)
def bnd (xs ys : List Int) (vs : List (List Int)) (x y : Int × Int) : Int × Int :=
  match extrE (pts xs ys vs x y) with
  | some (l, m) => (l.n / l.d, -(-m.n / m.d))
  | none => (0, 0)
def wst (xs ys : List Int) (vs : List (List Int)) (x y : Int × Int) : Int × Int :=
  match extrE (pts xs ys vs x y) with
  | some (_, m) => (m.x, m.y)
  | none => (0, 0)
theorem bnd_eq {xs ys : List Int} {vs : List (List Int)} {x y : Int × Int} {l m : Pt} (h : extrE (pts xs ys vs x y) = some (l, m)) : bnd xs ys vs x y = (l.n / l.d, -(-m.n / m.d)) := by unfold bnd; rw [h]
theorem wst_eq {xs ys : List Int} {vs : List (List Int)} {x y : Int × Int} {l m : Pt} (h : extrE (pts xs ys vs x y) = some (l, m)) : wst xs ys vs x y = (m.x, m.y) := by unfold wst; rw [h]
theorem vB_iff {x : Int × Int} : vB x = true ↔ -1000000 ≤ x.1 ∧ x.1 ≤ x.2 ∧ x.2 ≤ 1000000 := by simp [vB, wB, and_assoc]
/-- what a box on a table owes -/
structure OnT (xs ys : List Int) (vs : List (List Int)) (x y : Int × Int) : Prop where
  t : Tbl xs ys vs
  x1 : xs[0]?.getD 0 ≤ x.1
  x2 : x.2 ≤ xs[xs.length-1]?.getD 0
  x3 : x.1 ≤ x.2
  y1 : ys[0]?.getD 0 ≤ y.1
  y2 : y.2 ≤ ys[ys.length-1]?.getD 0
  y3 : y.1 ≤ y.2
theorem liesB_iff {l : List Int} {x : Int × Int} : liesB l x = true ↔ l[0]?.getD 0 ≤ x.1 ∧ x.2 ≤ l[l.length - 1]?.getD 0 := by simp [liesB]
theorem cp_zero {xs ys : List Int} {vs : List (List Int)} {x y : Int × Int} (h : cpErr xs ys vs x y = 0) : OnT xs ys vs x y := by
  unfold cpErr at h
  by_cases ht : tabB xs ys vs = true
  · rw [if_pos ht] at h
    by_cases hs : (spErr [x, y] != 0) = true
    · rw [if_pos hs] at h
      simp at hs
      exact absurd h hs
    · rw [if_neg hs] at h
      by_cases hl : (liesB xs x && liesB ys y) = true
      · simp only [Bool.and_eq_true] at hl
        have h1 := liesB_iff.1 hl.1
        have h2 := liesB_iff.1 hl.2
        have hs' : spErr [x, y] = 0 := by simpa using hs
        unfold spErr at hs'
        by_cases ha : [x, y].any (fun x => !vB x) = true
        · rw [if_pos ha] at hs'; omega
        · have ha' : [x, y].any (fun x => !vB x) = false := by simpa using ha
          simp at ha'
          have v1 := vB_iff.1 ha'.1
          have v2 := vB_iff.1 ha'.2
          exact ⟨tbl_of ht, h1.1, h1.2, v1.2.1, h2.1, h2.2, v2.2.1⟩
      · rw [if_neg hl] at h; omega
  · rw [if_neg ht] at h; omega
theorem extremesR {xs ys : List Int} {vs : List (List Int)} {x y : Int × Int} {X Y V : Option Addr} {cx cy cv : Nat} {w : World} (h : OnT xs ys vs x y) (hR : TabR w X Y V cx cy cv xs ys vs) :
    Calls Try.prog 77 #[.agg #[.slice X xs.length cx, .slice Y ys.length cy, .slice V vs.length cv], .agg #[.int .i64 x.1, .int .i64 x.2], .agg #[.int .i64 y.1, .int .i64 y.2]] w (ExtPost (pts xs ys vs x y) w) :=
  extremes_any xs ys vs X Y V cx cy cv x.1 x.2 y.1 y.2 w h.t h.x1 h.x2 h.x3 h.y1 h.y2 h.y3 hR
def boundR (xs ys : List Int) (vs : List (List Int)) (x y : Int × Int) : (Int × Int) × Int := if cpErr xs ys vs x y != 0 then ((0, 0), cpErr xs ys vs x y) else (bnd xs ys vs x y, 0)
set_option maxRecDepth 100000 in
set_option maxHeartbeats 2000000 in
theorem bound_any (xs ys : List Int) (vs : List (List Int)) (X Y V : Option Addr) (cx cy cv : Nat) (x y : Int × Int) (w : World) (hS : TSz xs ys vs) (hR : TabR w X Y V cx cy cv xs ys vs) :
   Calls Try.prog 35 #[.agg #[.slice X xs.length cx, .slice Y ys.length cy, .slice V vs.length cv], .agg #[.int .i64 x.1, .int .i64 x.2], .agg #[.int .i64 y.1, .int .i64 y.2]] w fun e w' =>
     e = .returned (.tuple #[.agg #[.int .i64 (boundR xs ys vs x y).1.1, .int .i64 (boundR xs ys vs x y).1.2], .int .i64 (boundR xs ys vs x y).2]) ∧ Below w.heap.size w w' := by
  obtain ⟨xl, xh⟩ := x
  obtain ⟨yl, yh⟩ := y
  show Calls Try.prog 35 #[.agg #[.slice X xs.length cx, .slice Y ys.length cy, .slice V vs.length cv], .agg #[.int .i64 xl, .int .i64 xh], .agg #[.int .i64 yl, .int .i64 yh]] w _
  have HRR := Lib.hid hR
  have HS := Lib.hid hS
  obtain ⟨W, hW⟩ : ∃ W, (w3 w (.slice X xs.length cx) (.slice Y ys.length cy) (.slice V vs.length cv) (.int .i64 xl) (.int .i64 xh) (.int .i64 yl) (.int .i64 yh)).alloc (.cells #[.int .i64 0, .int .i64 0] 27) = W := ⟨_, rfl⟩
  have hWz : W.heap.size = w.heap.size + 4 := by rw [← hW]; simp [w3]
  have hWb : Below w.heap.size w W := by rw [← hW]; exact (w3_below w _ _ _ _ _ _ _).alloc w3_le _
  have hW3 : Below (w.heap.size + 3) (w3 w (.slice X xs.length cx) (.slice Y ys.length cy) (.slice V vs.length cv) (.int .i64 xl) (.int .i64 xh) (.int .i64 yl) (.int .i64 yh)) W := by rw [← hW]; exact (Below.refl _ _).alloc w3_le3 _
  have hWc : W.heap[w.heap.size + 1 + 1 + 1]? = some (.cells #[.int .i64 0, .int .i64 0] 27) := by rw [← hW, heap_alloc_at, w3_size, if_pos (by omega)]
  have HWz := Lib.hid hWz
  have HWb := Lib.hid hWb
  have HW3 := Lib.hid hW3
  have HWc := Lib.hid hWc
  have HW := Lib.hid hW
  clear hR hS hWz hWb hW3 hWc hW
  go_enter Try.func35, Try.ntmps35
  go_wp2_with fail
  have hW := HW.out
  unfold w3 at hW
  rw [hW]
  clear hW
  refine (checkPoints_any xs ys vs X Y V cx cy cv (xl, xh) (yl, yh) W HS.out (HRR.out.below HWb.out)).mono ?_
  rintro e w1 ⟨rfl, hb1⟩
  have hz1 := HWz.out
  obtain ⟨⟨a1, a2, a3⟩, ⟨a4, a5⟩, ⟨a6, a7⟩, hz⟩ := boxes3 (N := w.heap.size + 3) (HW3.out.trans (hb1.mono (by omega))) (by omega)
  have hc := (hb1.block (w.heap.size + 1 + 1 + 1) (by omega)).trans HWc.out
  have r0 : w1.cell? ⟨w.heap.size + 1 + 1 + 1, 0, none⟩ = some (.int .i64 0) := by rw [cell_of_row w1 _ 0 _ _ _ hc]; rfl
  have r1 : w1.cell? ⟨w.heap.size + 1 + 1 + 1, 1, none⟩ = some (.int .i64 0) := by rw [cell_of_row w1 _ 1 _ _ _ hc]; rfl
  have f0 : w1.frozen? ⟨w.heap.size + 1 + 1 + 1, 0, none⟩ = false := by simp [World.frozen?, hc]
  have f1 : w1.frozen? ⟨w.heap.size + 1 + 1 + 1, 1, none⟩ = false := by simp [World.frozen?, hc]
  have HB1 := Lib.hid hb1
  have HC1 := Lib.hid hc
  have hz4 : w.heap.size + 1 + 1 + 1 < w1.heap.size := by have := hb1.size; omega
  clear hz1 hc hb1
  by_cases he : (cpErr xs ys vs (xl, xh) (yl, yh) != 0) = true
  · have R : Hid (boundR xs ys vs (xl, xh) (yl, yh) = ((0, 0), cpErr xs ys vs (xl, xh) (yl, yh))) := by unfold Hid boundR; rw [if_pos he]
    generalize cpErr xs ys vs (xl, xh) (yl, yh) = ce at *
    go_wp2_with fail
    refine bodyPost_ret (v := .tuple #[.agg #[.int .i64 0, .int .i64 0], .int .i64 ce]) (by simp [results, Try.results35, go_sem, r0, r1]) rfl ⟨by rw [R.out], ?_⟩
    exact ((HWb.out.trans (HB1.out.mono HWb.out.size)).setCell (p := ⟨w.heap.size + 1 + 1 + 1, 0, none⟩) (by show _ ≤ _ + 1 + 1 + 1; omega) _).setCell (p := ⟨w.heap.size + 1 + 1 + 1, 1, none⟩) (by show _ ≤ _ + 1 + 1 + 1; omega) _
  · have he' : (cpErr xs ys vs (xl, xh) (yl, yh) != 0) = false := by simpa using he
    have h0 : cpErr xs ys vs (xl, xh) (yl, yh) = 0 := by simpa using he'
    have HO := Lib.hid (cp_zero h0)
    have R : Hid (boundR xs ys vs (xl, xh) (yl, yh) = (bnd xs ys vs (xl, xh) (yl, yh), 0)) := by unfold Hid boundR; rw [if_neg he]
    rw [h0]
    clear he he' h0
    go_wp2_with fail
    refine (extremesR HO.out ((HRR.out.below HWb.out).below HB1.out)).mono ?_
    rintro e w2 ⟨lo, mo, hlm, rfl, hb2⟩
    have HLM := Lib.hid hlm
    have HB2 := Lib.hid hb2
    clear hlm hb2 a1 a2 a3 a4 a5 a6 a7 r0 r1 f0 f1
    have hc := (HB2.out.block (w.heap.size + 1 + 1 + 1) (by omega)).trans HC1.out
    have r0 : w2.cell? ⟨w.heap.size + 1 + 1 + 1, 0, none⟩ = some (.int .i64 0) := by rw [cell_of_row w2 _ 0 _ _ _ hc]; rfl
    have r1 : w2.cell? ⟨w.heap.size + 1 + 1 + 1, 1, none⟩ = some (.int .i64 0) := by rw [cell_of_row w2 _ 1 _ _ _ hc]; rfl
    have f0 : w2.frozen? ⟨w.heap.size + 1 + 1 + 1, 0, none⟩ = false := by simp [World.frozen?, hc]
    have f1 : w2.frozen? ⟨w.heap.size + 1 + 1 + 1, 1, none⟩ = false := by simp [World.frozen?, hc]
    have hz2 : w.heap.size + 1 + 1 + 1 < w2.heap.size := by have := HB2.out.size; omega
    have HC2 := Lib.hid hc
    obtain ⟨hl1, hl2, hl3, hl4⟩ := lo.ok
    obtain ⟨hm1, hm2, hm3, hm4⟩ := mo.ok
    clear hc
    unfold vP
    go_wp2_with fail
    refine wp_region_tail 9 (by kernel_rfl) (by kernel_rfl) ?_
    simp only [List.take_succ_cons, List.take_zero, List.drop_succ_cons, List.drop_zero]
    iterate 6 still_step
    still_call (floor_any _ _ _ (by omega) (by omega) (by omega) (by omega))
    iterate 2 still_step
    refine wpStill_nil ?_
    go_wp2_with fail
    refine (up_any mo.n mo.d _ (by omega) (by omega) (by omega) (by omega)).mono ?_
    rintro e w4 ⟨rfl, hb4⟩
    have hb5 : Below w2.heap.size w2 w4 := ((((Below.refl _ w2).alloc (Nat.le_refl _) _).alloc (by simp) _).drew).trans (hb4.mono (by simp; omega))
    have hc := (hb5.block (w.heap.size + 1 + 1 + 1) (by omega)).trans HC2.out
    clear r0 r1 f0 f1
    have r0 : w4.cell? ⟨w.heap.size + 1 + 1 + 1, 0, none⟩ = some (.int .i64 0) := by rw [cell_of_row w4 _ 0 _ _ _ hc]; rfl
    have r1 : w4.cell? ⟨w.heap.size + 1 + 1 + 1, 1, none⟩ = some (.int .i64 0) := by rw [cell_of_row w4 _ 1 _ _ _ hc]; rfl
    have f0 : w4.frozen? ⟨w.heap.size + 1 + 1 + 1, 0, none⟩ = false := by simp [World.frozen?, hc]
    have f1 : w4.frozen? ⟨w.heap.size + 1 + 1 + 1, 1, none⟩ = false := by simp [World.frozen?, hc]
    have HB4 := Lib.hid ((HWb.out.trans (HB1.out.mono HWb.out.size)).trans ((HB2.out.trans (hb5.mono HB2.out.size)).mono (by have := HWb.out.size; have := HB1.out.size; omega)))
    clear hb4 hb5 hc
    go_wp2_with fail
    refine bodyPost_ret (v := .tuple #[.agg #[.int .i64 (lo.n / lo.d), .int .i64 (-(-mo.n / mo.d))], .int .i64 0]) (by simp [results, Try.results35, go_sem, r0, r1]) rfl ⟨by rw [R.out, bnd_eq HLM.out], ?_⟩
    exact (HB4.out.setCell (p := ⟨w.heap.size + 1 + 1 + 1, 0, none⟩) (by show _ ≤ _ + 1 + 1 + 1; omega) _).setCell (p := ⟨w.heap.size + 1 + 1 + 1, 1, none⟩) (by show _ ≤ _ + 1 + 1 + 1; omega) _
end Go.Proofs.Ythohcimmoobaoaa
/- The contracts of Meet and Hull, and of what the reference has for them. -/
namespace Go.Proofs.Ythohcimmoobaoaa
open Go.RowKit

/-- Go's max and min as the walk has them -/
def mx (a b : Int) : Int := if a < b then b else a
def mn (a b : Int) : Int := if b < a then b else a
theorem mx_eq (a b : Int) : mx a b = max a b := by unfold mx; split <;> omega
theorem mn_eq (a b : Int) : mn a b = min a b := by unfold mn; split <;> omega
end Go.Proofs.Ythohcimmoobaoaa
/- The contracts of the reference's part, Between and Value. -/
namespace Go.Proofs.Ythohcimmoobaoaa
open Go.RowKit

def PartAt (l : List Int) (x : Int) (i : Nat) : Prop := i + 2 ≤ l.length ∧ (0 < i → l[i]?.getD 0 ≤ x) ∧ (i + 2 < l.length → x < l[i+1]?.getD 0)
instance (l : List Int) (x : Int) (i : Nat) : Decidable (PartAt l x i) := by unfold PartAt; exact inferInstance
end Go.Proofs.Ythohcimmoobaoaa
/- Plain laws of fractions, and that the reference's value of a table is the program's. -/
namespace Go.Proofs.Ythohcimmoobaoaa

theorem floor_cross {n d m f : Int} (hd : 1 ≤ d) (hf : 1 ≤ f) (h : n * f = m * d) : n / d = m / f := by
  have h1 : n * f / (d * f) = n / d := Int.mul_ediv_mul_of_pos_left n d (by omega)
  have h2 : m * d / (f * d) = m / f := Int.mul_ediv_mul_of_pos_left m f (by omega)
  rw [← h1, ← h2, h, Int.mul_comm f d]
theorem ceil_cross {n d m f : Int} (hd : 1 ≤ d) (hf : 1 ≤ f) (h : n * f = m * d) : -(-n / d) = -(-m / f) := by
  rw [floor_cross (n := -n) (m := -m) hd hf (by rw [Int.neg_mul, Int.neg_mul, h])]
theorem cmpV_sign {n d m f : Int} (hd : 1 ≤ d) (hf : 1 ≤ f) : (cmpV n d m f < 0 ↔ n * f < m * d) ∧ (0 < cmpV n d m f ↔ m * d < n * f) := by
  have r1 := rem_bd n d hd
  have r2 := rem_bd m f hf
  have hC : cmpV n d m f = if n / d - m / f = 0 then (if (n - n / d * d) * f - (m - m / f * f) * d = 0 then 0 else (n - n / d * d) * f - (m - m / f * f) * d) else n / d - m / f := rfl
  rw [hC]
  clear hC
  generalize n / d = a at *
  generalize m / f = b at *
  have hdf : 1 ≤ d * f := by
    have := Int.mul_le_mul hd hf (by omega) (by omega : (0 : Int) ≤ d)
    omega
  have e1 : n * f - m * d = (a - b) * (d * f) + ((n - a * d) * f - (m - b * f) * d) := by grind
  have p1 : (n - a * d) * f ≤ (d - 1) * f := Int.mul_le_mul_of_nonneg_right (by omega) (by omega)
  have p2 : 0 ≤ (n - a * d) * f := Int.mul_nonneg (by omega) (by omega)
  have p3 : (m - b * f) * d ≤ (f - 1) * d := Int.mul_le_mul_of_nonneg_right (by omega) (by omega)
  have p4 : 0 ≤ (m - b * f) * d := Int.mul_nonneg (by omega) (by omega)
  have p5 : (d - 1) * f = d * f - f := by rw [Int.sub_mul]; omega
  have p6 : (f - 1) * d = d * f - d := by rw [Int.sub_mul, Int.mul_comm f d]; omega
  by_cases h0 : a - b = 0
  · rw [if_pos h0]
    rw [h0, Int.zero_mul] at e1
    split <;> constructor <;> omega
  · rw [if_neg h0]
    rcases Int.lt_or_gt_of_ne h0 with hlt | hgt
    · have p7 : (a - b) * (d * f) ≤ (-1) * (d * f) := Int.mul_le_mul_of_nonneg_right (by omega) (by omega)
      constructor <;> omega
    · have p7 : 1 * (d * f) ≤ (a - b) * (d * f) := Int.mul_le_mul_of_nonneg_right (by omega) (by omega)
      constructor <;> omega
end Go.Proofs.Ythohcimmoobaoaa
/- A copy of a slice, append([]T{}, l...): a new slice of equal elements; nothing old is written. -/
namespace Go.Proofs.Ythohcimmoobaoaa
open Go.RowKit

section
variable {P : Program} (w : World)
/-- what a copy owes: a new slice of so many elements, its cells as given -/
structure Copied (e : TypeId) (size m : Nat) (news : List Value) (w : World) (A : Option Addr) (c : Nat) (w' : World) : Prop where
  len : m ≤ c
  below : Below w.heap.size w w'
  own : 0 < m → w'.ownsRow w.heap.size e size (.slice A m c) m news
end
end Go.Proofs.Ythohcimmoobaoaa
/- The contract of the reference's Copy: an equal table in new memory; nothing old is written. -/
namespace Go.Proofs.Ythohcimmoobaoaa
open Go.RowKit

/-- a slice of ints in a row of its own -/
def OwnI (base : Nat) (w : World) (A : Option Addr) (c : Nat) (l : List Int) : Prop := 0 < l.length → w.ownsRow base 3 1 (.slice A l.length c) l.length (IV l)
theorem OwnI.ints {base : Nat} {w : World} {A : Option Addr} {c : Nat} {l : List Int} (h : OwnI base w A c l) : Ints w A l := fun hl => by
  obtain ⟨A', c', e, hI, _⟩ := ints_of_own (h hl)
  cases e
  exact hI hl
theorem grown_of_below {W W' : World} (hb : Below W.heap.size W W') : W.grownBy W' none := ⟨hb.os, hb.tape, hb.output, hb.size, fun k hk _ => hb.block k hk⟩
/-- a step that turns no block of ints keeps it -/
theorem OwnI.step {base : Nat} {W W' : World} {A : Option Addr} {c : Nat} {l : List Int} {row : Option Nat} (h : OwnI base W A c l) (hg : W.grownBy W' row) (hr : ∀ g cs fz, row = some g → W.heap[g]? = some (.cells cs 3 fz) → False) : OwnI base W' A c l := fun hl => by
  have h1 := h hl
  refine h1.kept hg ?_
  obtain ⟨_, ⟨e, _⟩ | ⟨g, cap, cur, e, hb, hgb, _⟩⟩ := h1
  · left; rw [e]; rfl
  · right
    intro e'
    rw [e] at e'
    exact hr g _ _ (by simpa [Value.ownBlock] using e'.symm) hgb
theorem OwnI.below {base : Nat} {W W' : World} {A : Option Addr} {c : Nat} {l : List Int} (h : OwnI base W A c l) (hb : Below W.heap.size W W') : OwnI base W' A c l := h.step (grown_of_below hb) (fun g cs fz e => by cases e)
theorem OwnI.mono {b1 b2 : Nat} {w : World} {A : Option Addr} {c : Nat} {l : List Int} (h : OwnI b1 w A c l) (hb : b2 ≤ b1) : OwnI b2 w A c l := fun hl => by
  obtain ⟨h1, ⟨e, h0⟩ | ⟨g, cap, cur, e, hbg, rest⟩⟩ := h hl
  · exact ⟨h1, .inl ⟨e, h0⟩⟩
  · exact ⟨h1, .inr ⟨g, cap, cur, e, by omega, rest⟩⟩
/-- rows, each in a row of its own -/
def OwnRows (base : Nat) (w : World) (rs : List Value) (l : List (List Int)) : Prop := rs.length = l.length ∧ ∀ k, k < l.length → ∃ B c, rs[k]? = some (.slice B (l[k]?.getD []).length c) ∧ (l[k]?.getD []).length ≤ c ∧ OwnI base w B c (l[k]?.getD [])
theorem OwnRows.step {base : Nat} {W W' : World} {rs : List Value} {l : List (List Int)} {row : Option Nat} (h : OwnRows base W rs l) (hg : W.grownBy W' row) (hr : ∀ g cs fz, row = some g → W.heap[g]? = some (.cells cs 3 fz) → False) : OwnRows base W' rs l :=
  ⟨h.1, fun k hk => by obtain ⟨B, c, h1, h2, h3⟩ := h.2 k hk; exact ⟨B, c, h1, h2, h3.step hg hr⟩⟩
/-- nil slices have no room -/
def MatN (w : World) (A : Option Addr) (l : List (List Int)) : Prop :=
  0 < l.length → ∃ b off, A = some ⟨b, off, none⟩ ∧ b < w.heap.size ∧ ∀ k, k < l.length → ∃ B c, w.cell? ⟨b, off + k, none⟩ = some (.slice B (l[k]?.getD []).length c) ∧ Ints w B (l[k]?.getD []) ∧ (B = none → c = 0)
structure TabN (w : World) (X Y V : Option Addr) (cx cy cv : Nat) (xs ys : List Int) (vs : List (List Int)) : Prop where
  nx : X = none → cx = 0
  ny : Y = none → cy = 0
  mv : MatN w V vs
theorem MatN.below {w w' : World} {A : Option Addr} {l : List (List Int)} (h : MatN w A l) (hb : Below w.heap.size w w') : MatN w' A l := fun hl => by
  obtain ⟨b, off, e, hlt, hc⟩ := h hl
  refine ⟨b, off, e, Nat.lt_of_lt_of_le hlt hb.size, fun k hk => ?_⟩
  obtain ⟨B, c, h1, h2, h3⟩ := hc k hk
  exact ⟨B, c, (hb.cell (p := ⟨b, off + k, none⟩) hlt).trans h1, h2.below hb, h3⟩
theorem TabN.below {w w' : World} {X Y V : Option Addr} {cx cy cv : Nat} {xs ys : List Int} {vs : List (List Int)} (h : TabN w X Y V cx cy cv xs ys vs) (hb : Below w.heap.size w w') : TabN w' X Y V cx cy cv xs ys vs := ⟨h.nx, h.ny, h.mv.below hb⟩
end Go.Proofs.Ythohcimmoobaoaa
/- The reference's bound: it is the program's. -/
namespace Go.Proofs.Ythohcimmoobaoaa
open Go.RowKit

theorem ptAt_is {xs ys : List Int} {vs : List (List Int)} {x y : Int} (hT : Tbl xs ys vs) (hx : OnAx xs x) (hy : OnAx ys y) :
    (ptAt xs ys vs x y).n = atN xs ys vs x y ∧ (ptAt xs ys vs x y).d = atD xs ys x y ∧ (ptAt xs ys vs x y).x = x ∧ (ptAt xs ys vs x y).y = y := by
  unfold ptAt mkPt
  rw [dif_pos (at_bd hT hx hy)]
  exact ⟨rfl, rfl, rfl, rfl⟩
theorem floor_mono {n d m f : Int} (hd : 1 ≤ d) (hf : 1 ≤ f) (h : n * f ≤ m * d) : n / d ≤ m / f := by
  have h1 : n * f / (d * f) = n / d := Int.mul_ediv_mul_of_pos_left n d (by omega)
  have h2 : m * d / (f * d) = m / f := Int.mul_ediv_mul_of_pos_left m f (by omega)
  rw [← h1, ← h2, Int.mul_comm f d]
  exact Int.ediv_le_ediv (Int.mul_pos (by omega) (by omega)) h
theorem step_low (l p : Pt) : mn (l.n / l.d) (p.n / p.d) = (if cmpV p.n p.d l.n l.d < 0 then p else l).n / (if cmpV p.n p.d l.n l.d < 0 then p else l).d := by
  have h := (cmpV_sign (n := p.n) (m := l.n) p.ok.1 l.ok.1).1
  rw [mn_eq]
  by_cases c : cmpV p.n p.d l.n l.d < 0
  · rw [if_pos c]
    have := floor_mono (n := p.n) (m := l.n) p.ok.1 l.ok.1 (by have := h.1 c; omega)
    omega
  · rw [if_neg c]
    have := floor_mono (n := l.n) (m := p.n) l.ok.1 p.ok.1 (by have := fun q => c (h.2 q); omega)
    omega
theorem step_top (m p : Pt) : mx (-(-m.n / m.d)) (-(-p.n / p.d)) = -(-(if 0 < cmpV p.n p.d m.n m.d then p else m).n / (if 0 < cmpV p.n p.d m.n m.d then p else m).d) := by
  have h := (cmpV_sign (n := p.n) (m := m.n) p.ok.1 m.ok.1).2
  rw [mx_eq]
  by_cases c : 0 < cmpV p.n p.d m.n m.d
  · rw [if_pos c]
    have := floor_mono (n := -p.n) (m := -m.n) p.ok.1 m.ok.1 (by have := h.1 c; rw [Int.neg_mul, Int.neg_mul]; omega)
    omega
  · rw [if_neg c]
    have := floor_mono (n := -m.n) (m := -p.n) m.ok.1 p.ok.1 (by have := fun q => c (h.2 q); rw [Int.neg_mul, Int.neg_mul]; omega)
    omega
end Go.Proofs.Ythohcimmoobaoaa
/- What came in or was made, as lists of numbers, in both tongues; old contracts as abstract ones. -/
namespace Go.Proofs.Ythohcimmoobaoaa
open Go.RowKit Lift

section
variable {w : World} {β : Bet} {Z : Blk}
theorem rep_ints {v : Value} {l : List Int} (h : Rep w β Z v (.list (ints l))) : ∃ A c, v = .slice A l.length c ∧ Ints w A l ∧ l.length ≤ c := by
  generalize hd : D.list (ints l) = d at h
  cases h with
  | list0 A c =>
    have : l = [] := by simpa [ints] using hd
    subst this
    exact ⟨A, c, rfl, fun h => by simp at h, by simp⟩
  | list b off c sz L vs hz hb hc hs hcell hrep =>
    cases hd
    refine ⟨_, c, by rw [ints_len], fun hl => ⟨b, off, rfl, hb, fun k hk => ?_⟩, by rw [← ints_len l]; exact hc⟩
    have hk' : k < (ints l).length := by rw [ints_len]; exact hk
    have hg := ints_get l k hk'
    have hsz : sz = 1 := by rw [← hs _ (List.getElem_mem hk'), hg]; rfl
    have h0 : 0 < (ints l)[k].length := by rw [hg]; simp
    have h1 := hcell k 0 hk' h0
    have h2 := hrep k 0 hk' h0
    rw [getElem_of_eq hk' hg 0 h0 (by simp)] at h2
    simp only [List.getElem_cons_zero] at h2
    rw [h1.trans (congrArg some h2.val_eq.symm) |>.symm, hsz]
    simp
  | _ => cases hd
theorem rep_mat {v : Value} {l : List (List Int)} (h : Rep w β Z v (.list (rows l))) : ∃ A c, v = .slice A l.length c ∧ Mat w A l := by
  generalize hd : D.list (rows l) = d at h
  cases h with
  | list0 A c =>
    have : l = [] := by simpa [rows] using hd
    subst this
    exact ⟨A, c, rfl, fun h => by simp at h⟩
  | list b off c sz L vs hz hb hc hs hcell hrep =>
    cases hd
    refine ⟨_, c, by rw [rows_len], fun hl => ⟨b, off, rfl, hb, fun k hk => ?_⟩⟩
    have hk' : k < (rows l).length := by rw [rows_len]; exact hk
    have hg := rows_get l k hk'
    have hsz : sz = 1 := by rw [← hs _ (List.getElem_mem hk'), hg]; rfl
    have h0 : 0 < (rows l)[k].length := by rw [hg]; simp
    have h1 := hcell k 0 hk' h0
    have h2 := hrep k 0 hk' h0
    rw [getElem_of_eq hk' hg 0 h0 (by simp)] at h2
    simp only [List.getElem_cons_zero] at h2
    obtain ⟨A, cc, e1, e2, _⟩ := rep_ints h2
    refine ⟨A, cc, ?_, e2⟩
    rw [hsz, e1] at h1
    simpa using h1
  | _ => cases hd
theorem rep_agg {v : Value} {l : List D} (h : Rep w β Z v (.agg l)) : ∃ cs : Array Value, v = .agg cs ∧ cs.size = l.length ∧ ∀ i (h : i < l.length), Rep w β Z (cs.getD i undef) l[i] := by
  cases h with
  | agg cs _ h1 h2 => exact ⟨cs, rfl, h1, h2⟩
theorem rep_tab {v : Value} {xs ys : List Int} {vs : List (List Int)} (h : Rep w β Z v (tabD xs ys vs)) : ∃ X Y V cx cy cv, v = .agg #[.slice X xs.length cx, .slice Y ys.length cy, .slice V vs.length cv] ∧ TabR w X Y V cx cy cv xs ys vs := by
  obtain ⟨cs, rfl, h1, h2⟩ := rep_agg h
  obtain ⟨X, cx, e0, hX, lx⟩ := rep_ints (h2 0 (by simp))
  obtain ⟨Y, cy, e1, hY, ly⟩ := rep_ints (h2 1 (by simp))
  obtain ⟨V, cv, e2, hV⟩ := rep_mat (h2 2 (by simp))
  refine ⟨X, Y, V, cx, cy, cv, ?_, ⟨hX, hY, hV, lx, ly⟩⟩
  rw [← e0, ← e1, ← e2]
  congr 1
  apply Array.ext
  · simpa using h1
  · intro i h3 h4
    have h5 : i < 3 := by simpa using h4
    match i, h5 with
    | 0, _ => simp [h3]
    | 1, _ => simp [h3]
    | 2, _ => simp [h3]
theorem rep_sp {v : Value} {x : Int × Int} (h : Rep w β Z v (spD x)) : v = .agg #[.int .i64 x.1, .int .i64 x.2] := by
  obtain ⟨cs, rfl, h1, h2⟩ := rep_agg h
  have e0 := (h2 0 (by simp)).val_eq
  have e1 := (h2 1 (by simp)).val_eq
  rw [e0, e1]
  congr 1
  apply Array.ext
  · simpa using h1
  · intro i h3 h4
    have h5 : i < 2 := by simpa using h4
    match i, h5 with
    | 0, _ => simp [h3]
    | 1, _ => simp [h3]
end
theorem args3 {vs : Array Value} (h : vs.size = 3) : vs = #[vs.getD 0 undef, vs.getD 1 undef, vs.getD 2 undef] := by
  apply Array.ext
  · simpa using h
  · intro i h3 h4
    have h5 : i < 3 := by simpa using h4
    match i, h5 with
    | 0, _ => simp [h3]
    | 1, _ => simp [h3]
    | 2, _ => simp [h3]
end Go.Proofs.Ythohcimmoobaoaa
/- Old contracts as abstract ones: tables and bounds. No conditions. -/
namespace Go.Proofs.Ythohcimmoobaoaa
open Go.RowKit Lift

theorem flat_sp (x : Int × Int) (w : World) (β : Bet) (Z : Blk) : Rep w β Z (.agg #[.int .i64 x.1, .int .i64 x.2]) (spD x) :=
  .agg _ _ rfl fun i hi => by
    have : i < 2 := by simpa using hi
    match i, this with
    | 0, _ => exact .val _
    | 1, _ => exact .val _
theorem flat_sp1 (x : Int × Int) (e : Int) (w : World) (β : Bet) (Z : Blk) : Rep w β Z (.tuple #[.agg #[.int .i64 x.1, .int .i64 x.2], .int .i64 e]) (.tup [spD x, dI e]) :=
  .tup _ _ rfl fun i hi => by
    have : i < 2 := by simpa using hi
    match i, this with
    | 0, _ => exact flat_sp x w β Z
    | 1, _ => exact .val _
theorem Tbl.sz {xs ys : List Int} {vs : List (List Int)} (h : Tbl xs ys vs) : TSz xs ys vs := by
  have h1 := h.ax.twelve
  have h2 := h.ay.twelve
  have h3 := h.len
  refine ⟨by omega, by omega, by omega, fun r hr => ?_⟩
  obtain ⟨k, hk, rfl⟩ := List.getElem_of_mem hr
  have := h.row k hk
  simp only [List.getElem?_eq_getElem hk, Option.getD_some] at this
  omega
section
variable {xs ys : List Int} {vs : List (List Int)}
theorem bound_ac (x y : Int × Int) (hS : TSz xs ys vs) : AC Try.prog 35 [tabD xs ys vs, spD x, spD y] [] [] (.tup [spD (boundR xs ys vs x y).1, dI (boundR xs ys vs x y).2]) :=
  ac_of_calls ⟨Try.f35, Try.func35, by decide, rfl⟩ (flat_sp1 _ _) fun w us β Z hs hr => by
    obtain ⟨X, Y, V, cx, cy, cv, e, hR⟩ := rep_tab (hr 0 (by simp))
    rw [args3 hs, e, rep_sp (hr 1 (by simp)), rep_sp (hr 2 (by simp))]
    exact bound_any xs ys vs X Y V cx cy cv x y w hS hR
end
end Go.Proofs.Ythohcimmoobaoaa
/- The functions' bodies, translated. Written by a program; no conditions. -/
namespace Go.Proofs.Ythohcimmoobaoaa
open Go.RowKit Lift

/-- spans_axis -/
def cspans_axis : ACode :=
  (.seq
   (.region false [⟨some 2, .mv (.const (.bool false)), none, []⟩] [])
  (.seq
   (.seq
    (.region false [⟨some 5, .mv (.tmp 0), none, []⟩,
      ⟨some 6, .len_ (.tmp 5), none, []⟩,
      ⟨some 7, .call (.func 96) [(.tmp 6), (.const (.int .i64 2)), (.const (.int .i64 12))], none, []⟩,
      ⟨some 8, .un .not (.tmp 7), none, []⟩] [5, 6, 7])
   (.cond (.tmp 8)
     (.seq
      (.region false [⟨some 2, .mv (.const (.bool false)), none, []⟩] [])
     .ret)
     .skip))
  (.seq
   (.seq
    (.region false [⟨some 9, .mv (.tmp 0), none, []⟩,
      ⟨some 10, .len_ (.tmp 9), none, []⟩,
      ⟨some 11, .mv (.const (.int .i64 0)), none, []⟩] [])
   (.block 0
     (.loop
       (.seq
        (.region false [⟨some 12, .bin .lss (.tmp 11) (.tmp 10), none, []⟩] [])
       (.seq
        (.cond (.tmp 12)
          .skip
          (.exit 0))
       (.seq
        (.block 1
          (.seq
           (.region false [⟨some 13, .mv (.tmp 11), none, []⟩,
             ⟨some 14, .iadS 1 (.tmp 9) (.tmp 11), none, []⟩,
             ⟨some 15, .load1 (.tmp 14), none, []⟩,
             ⟨some 3, .mv (.tmp 13), none, []⟩,
             ⟨some 4, .mv (.tmp 15), none, []⟩] [13, 14, 15])
          (.seq
           (.region false [⟨some 16, .mv (.tmp 4), none, []⟩,
             ⟨some 17, .call (.func 96) [(.tmp 16), (.const (.int .i64 (-1000000))), (.const (.int .i64 1000000))], none, []⟩,
             ⟨some 18, .un .not (.tmp 17), none, []⟩,
             ⟨some 19, .mv (.tmp 18), none, []⟩,
             ⟨some 20, .mv (.tmp 3), (some (some 19, false)), []⟩,
             ⟨some 21, .bin .gtr (.tmp 20) (.const (.int .i64 0)), (some (some 19, false)), []⟩,
             ⟨some 22, .mv (.tmp 21), (some (some 19, false)), []⟩,
             ⟨some 23, .mv (.tmp 4), (some (some 22, true)), []⟩,
             ⟨some 24, .mv (.tmp 0), (some (some 22, true)), []⟩,
             ⟨some 25, .mv (.tmp 3), (some (some 22, true)), []⟩,
             ⟨some 26, .bin .sub (.tmp 25) (.const (.int .i64 1)), (some (some 22, true)), []⟩,
             ⟨some 27, .iadS 1 (.tmp 24) (.tmp 26), (some (some 22, true)), []⟩,
             ⟨some 28, .load1 (.tmp 27), (some (some 22, true)), []⟩,
             ⟨some 29, .bin .sub (.tmp 23) (.tmp 28), (some (some 22, true)), []⟩,
             ⟨some 30, .call (.func 96) [(.tmp 29), (.const (.int .i64 1)), (.const (.int .i64 10000))], (some (some 22, true)), []⟩,
             ⟨some 31, .un .not (.tmp 30), (some (some 22, true)), []⟩,
             ⟨some 32, .pick (.tmp 22) (.tmp 31) (.const (.bool false)), (some (some 19, false)), []⟩,
             ⟨some 33, .pick (.tmp 19) (.const (.bool true)) (.tmp 32), none, []⟩] [16, 17, 18, 19, 20, 21, 22, 23, 24, 25, 26, 27, 28, 29, 30, 31, 32])
          (.cond (.tmp 33)
            (.seq
             (.region false [⟨some 2, .mv (.const (.bool false)), none, []⟩] [])
            .ret)
            .skip))))
       (.region false [⟨some 34, .bin .add (.tmp 11) (.const (.int .i64 1)), none, []⟩,
         ⟨some 11, .mv (.tmp 34), none, []⟩] [34])))))))
  (.seq
   (.region false [⟨some 2, .mv (.const (.bool true)), none, []⟩] [])
  .ret))))
set_option maxRecDepth 100000 in
theorem kspans_axis : IsCode Try.prog 98 35 cspans_axis [.tmp 2] :=
  ⟨Try.f98, _, [33, 12, 8, 0, 11, 10, 9, 4, 3, 2], Try.func98, rfl, by decide, rfl, by kernel_rfl, by kernel_rfl⟩
/-- spans_CheckTable -/
def cspans_CheckTable : ACode :=
  (.seq
   (.region false [⟨some 1, .box (.tmp 0), none, []⟩,
     ⟨some 2, .mv (.const (.int .i64 0)), none, []⟩] [])
  (.seq
   (.region false [⟨some 3, .mem [(.val (.nilFunc))], none, []⟩,
     ⟨none, .store 1 (.tmp 3) (.func 95), none, []⟩] [])
  (.seq
   (.region false [⟨some 5, .mkfn 97 [] [(.tmp 1), (.tmp 3)], none, []⟩,
     ⟨some 4, .mv (.tmp 5), none, []⟩] [5])
  (.seq
   (.seq
    (.region false [⟨some 6, .fad 0 (.tmp 1), none, []⟩,
      ⟨some 7, .load1 (.tmp 6), none, []⟩,
      ⟨some 8, .call (.func 98) [(.tmp 7)], none, []⟩,
      ⟨some 9, .un .not (.tmp 8), none, []⟩,
      ⟨some 10, .mv (.tmp 9), none, []⟩,
      ⟨some 11, .fad 1 (.tmp 1), (some (some 10, false)), []⟩,
      ⟨some 12, .load1 (.tmp 11), (some (some 10, false)), []⟩,
      ⟨some 13, .call (.func 98) [(.tmp 12)], (some (some 10, false)), []⟩,
      ⟨some 14, .un .not (.tmp 13), (some (some 10, false)), []⟩,
      ⟨some 15, .pick (.tmp 10) (.const (.bool true)) (.tmp 14), none, []⟩,
      ⟨some 16, .mv (.tmp 15), none, []⟩,
      ⟨some 17, .fad 2 (.tmp 1), (some (some 16, false)), []⟩,
      ⟨some 18, .load1 (.tmp 17), (some (some 16, false)), []⟩,
      ⟨some 19, .len_ (.tmp 18), (some (some 16, false)), []⟩,
      ⟨some 20, .fad 0 (.tmp 1), (some (some 16, false)), []⟩,
      ⟨some 21, .load1 (.tmp 20), (some (some 16, false)), []⟩,
      ⟨some 22, .len_ (.tmp 21), (some (some 16, false)), []⟩,
      ⟨some 23, .bin .neq (.tmp 19) (.tmp 22), (some (some 16, false)), []⟩,
      ⟨some 24, .pick (.tmp 16) (.const (.bool true)) (.tmp 23), none, []⟩,
      ⟨some 25, .mv (.tmp 24), none, []⟩,
      ⟨some 26, .fad 2 (.tmp 1), (some (some 25, false)), []⟩,
      ⟨some 27, .load1 (.tmp 26), (some (some 25, false)), []⟩,
      ⟨some 28, .mv (.tmp 4), (some (some 25, false)), []⟩,
      ⟨some 29, .call (.func 99) [(.tmp 27), (.tmp 28)], (some (some 25, false)), []⟩,
      ⟨some 30, .pick (.tmp 25) (.const (.bool true)) (.tmp 29), none, []⟩] [6, 7, 8, 9, 10, 11, 12, 13, 14, 15, 16, 17, 18, 19, 20, 21, 22, 23, 24, 25, 26, 27, 28, 29])
   (.cond (.tmp 30)
     (.seq
      (.region false [⟨some 2, .mv (.const (.int .i64 11)), none, []⟩] [])
     .ret)
     .skip))
  (.seq
   (.region false [⟨some 2, .mv (.const (.int .i64 0)), none, []⟩] [])
  .ret)))))
set_option maxRecDepth 100000 in
theorem kspans_CheckTable : IsCode Try.prog 63 31 cspans_CheckTable [.tmp 2] :=
  ⟨Try.f63, _, [30, 0, 1, 3, 4, 2], Try.func63, rfl, by decide, rfl, by kernel_rfl, by kernel_rfl⟩
/-- spans_CheckTable_S1 -/
def cspans_CheckTable_S1 : ACode :=
  (.seq
   (.region false [⟨some 2, .mv (.const (.bool false)), none, []⟩] [])
  (.seq
   (.region false [⟨some 3, .mv (.tmp 0), none, []⟩,
     ⟨some 4, .call (.func 96) [(.tmp 3), (.const (.int .i64 (-1000000))), (.const (.int .i64 1000000))], none, []⟩,
     ⟨some 5, .un .not (.tmp 4), none, []⟩,
     ⟨some 2, .mv (.tmp 5), none, []⟩] [3, 4, 5])
  .ret))
set_option maxRecDepth 100000 in
theorem kspans_CheckTable_S1 : IsCode Try.prog 95 6 cspans_CheckTable_S1 [.tmp 2] :=
  ⟨Try.f95, _, [0, 2], Try.func95, rfl, by decide, rfl, by kernel_rfl, by kernel_rfl⟩
/-- spans_CheckTable_S2 -/
def cspans_CheckTable_S2 : ACode :=
  (.seq
   (.region false [⟨some 4, .mv (.const (.bool false)), none, []⟩] [])
  (.seq
   (.region false [⟨some 5, .mv (.tmp 0), none, []⟩,
     ⟨some 6, .len_ (.tmp 5), none, []⟩,
     ⟨some 7, .fad 1 (.tmp 1), none, []⟩,
     ⟨some 8, .load1 (.tmp 7), none, []⟩,
     ⟨some 9, .len_ (.tmp 8), none, []⟩,
     ⟨some 10, .bin .neq (.tmp 6) (.tmp 9), none, []⟩,
     ⟨some 11, .mv (.tmp 10), none, []⟩,
     ⟨some 12, .mv (.tmp 0), (some (some 11, false)), []⟩,
     ⟨some 13, .load1 (.tmp 2), (some (some 11, false)), []⟩,
     ⟨some 14, .call (.func 51) [(.tmp 12), (.tmp 13)], (some (some 11, false)), []⟩,
     ⟨some 15, .pick (.tmp 11) (.const (.bool true)) (.tmp 14), none, []⟩,
     ⟨some 4, .mv (.tmp 15), none, []⟩] [5, 6, 7, 8, 9, 10, 11, 12, 13, 14, 15])
  .ret))
set_option maxRecDepth 100000 in
theorem kspans_CheckTable_S2 : IsCode Try.prog 97 16 cspans_CheckTable_S2 [.tmp 4] :=
  ⟨Try.f97, _, [0, 1, 2, 4], Try.func97, rfl, by decide, rfl, by kernel_rfl, by kernel_rfl⟩
/-- slices_IndexFunc_L_L_J_L_Jint_K_L_Jint_J -/
def cslices_IndexFunc_L_L_J_L_Jint_K_L_Jint_J : ACode :=
  (.seq
   (.region false [⟨some 4, .mv (.const (.int .i64 0)), none, []⟩] [])
  (.seq
   (.seq
    (.region false [⟨some 6, .mv (.tmp 0), none, []⟩,
      ⟨some 7, .len_ (.tmp 6), none, []⟩,
      ⟨some 8, .mv (.const (.int .i64 0)), none, []⟩] [6])
   (.block 0
     (.loop
       (.seq
        (.region false [⟨some 9, .bin .lss (.tmp 8) (.tmp 7), none, []⟩] [])
       (.seq
        (.cond (.tmp 9)
          .skip
          (.exit 0))
       (.seq
        (.block 1
          (.seq
           (.region false [⟨some 10, .mv (.tmp 8), none, []⟩,
             ⟨some 5, .mv (.tmp 10), none, []⟩] [10])
          (.seq
           (.region false [⟨some 11, .mv (.tmp 1), none, []⟩,
             ⟨some 12, .mv (.tmp 0), none, []⟩,
             ⟨some 13, .mv (.tmp 5), none, []⟩,
             ⟨some 14, .iadS 1 (.tmp 12) (.tmp 13), none, []⟩,
             ⟨some 15, .load1 (.tmp 14), none, []⟩,
             ⟨some 16, .call (.tmp 11) [(.tmp 15)], none, []⟩] [11, 12, 13, 14, 15])
          (.cond (.tmp 16)
            (.seq
             (.region false [⟨some 17, .mv (.tmp 5), none, []⟩,
               ⟨some 4, .mv (.tmp 17), none, []⟩] [17])
            .ret)
            .skip))))
       (.region false [⟨some 18, .bin .add (.tmp 8) (.const (.int .i64 1)), none, []⟩,
         ⟨some 8, .mv (.tmp 18), none, []⟩] [18])))))))
  (.seq
   (.region false [⟨some 4, .mv (.const (.int .i64 (-1))), none, []⟩] [])
  .ret)))
set_option maxRecDepth 100000 in
theorem kslices_IndexFunc_L_L_J_L_Jint_K_L_Jint_J : IsCode Try.prog 111 19 cslices_IndexFunc_L_L_J_L_Jint_K_L_Jint_J [.tmp 4] :=
  ⟨Try.f111, _, [16, 9, 0, 8, 7, 1, 5, 4], Try.func111, rfl, by decide, rfl, by kernel_rfl, by kernel_rfl⟩
/-- slices_ContainsFunc_L_L_J_L_Jint_K_L_Jint_J -/
def cslices_ContainsFunc_L_L_J_L_Jint_K_L_Jint_J : ACode :=
  (.seq
   (.region false [⟨some 4, .mv (.const (.bool false)), none, []⟩] [])
  (.seq
   (.region false [⟨some 5, .mv (.tmp 0), none, []⟩,
     ⟨some 6, .mv (.tmp 1), none, []⟩,
     ⟨some 7, .call (.func 111) [(.tmp 5), (.tmp 6)], none, []⟩,
     ⟨some 8, .bin .geq (.tmp 7) (.const (.int .i64 0)), none, []⟩,
     ⟨some 4, .mv (.tmp 8), none, []⟩] [5, 6, 7, 8])
  .ret))
set_option maxRecDepth 100000 in
theorem kslices_ContainsFunc_L_L_J_L_Jint_K_L_Jint_J : IsCode Try.prog 99 9 cslices_ContainsFunc_L_L_J_L_Jint_K_L_Jint_J [.tmp 4] :=
  ⟨Try.f99, _, [0, 1, 4], Try.func99, rfl, by decide, rfl, by kernel_rfl, by kernel_rfl⟩
end Go.Proofs.Ythohcimmoobaoaa
