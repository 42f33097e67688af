/- Texts of the law RecordEvery, part 14. No conditions. -/
import Derived.Test.YtdcodicoclecnaaPRecordEvery13
import Derived.Test.YtdcodicoclecnaaRows
import Derived.ProofKit
import Derived.OpenShut
import Derived.ChangeOld
import Derived.Below
import Derived.Lib.SmallJoins
/- The law of the events, frame by frame (views last). No conditions. -/
set_option linter.unusedSimpArgs false
set_option linter.unusedVariables false
namespace Go.Proofs.Ytdcodicoclecnaa
open Go Go.RowKit Lift

theorem mkF_set (is : Nat → Bool) (H : Int) (i n k : Nat) (hk : k + 1 ≤ i + 1) : fL n (mkF is H i k) = (fL n (mkF is H i (k + 1))).set k true := by
  have h := fL_set (n := n) (m := k) (F := mkF is H i (k + 1)) (G := mkF is H i k) (fun j hj => by
    unfold mkF
    have : decide (k ≤ j) = decide (k + 1 ≤ j) := decide_eq_decide.2 (by omega)
    rw [this])
  rw [h]
  congr 1
  unfold mkF
  rw [decide_eq_true (Nat.le_refl k), decide_eq_true (by omega : k ≤ i)]
  simp
theorem mkF_end (is : Nat → Bool) (H : Int) (i n : Nat) (h : (runK is (i + 1) : Int) ≥ H) : fL n (mkF is H i (i + 1 - runK is (i + 1))) = fL n (markK is H (i + 1)) := fL_eq fun j _ => by
  have := run_le (is := is) (i + 1)
  show mkF is H i _ j = (markK is H i j || _)
  unfold mkF
  rw [decide_eq_true h, Bool.true_and]
  have : decide (i + 1 - runK is (i + 1) ≤ j) = decide ((i : Int) - runK is (i + 1) < j) := decide_eq_decide.2 (by omega)
  rw [this]
theorem mark_same (is : Nat → Bool) (H : Int) (i n : Nat) (h : ¬ (runK is (i + 1) : Int) ≥ H) : fL n (markK is H i) = fL n (markK is H (i + 1)) := fL_eq fun j _ => by
  show _ = (markK is H i j || _)
  rw [decide_eq_false h, Bool.false_and, Bool.or_false]
theorem fL_mark0 (is : Nat → Bool) (H : Int) (n : Nat) : List.replicate n false = fL n (markK is H 0) := by
  rw [fL_rep]; exact fL_eq fun j _ => rfl
set_option maxRecDepth 100000 in
set_option maxHeartbeats 16000000 in
theorem lawEvery_ac (l : Lay) (frs : List (List Int)) (cs : List Cd) (h : Int) (c : Cd) (hl : LayIn l) (hf : FrIn frs) (hn : cs.length ≤ maxLen) : AC Try.prog 10 [tpD l frs, evD cs h, .agg (cdC c)] [] [] (dB true) := by
  refine klaw12_RecordEvery.ac (n0 := 0) (by simp) ⟨in_tpD _ _ _, in_ev _ _ _, in_cd _ _, trivial⟩ trivial rfl ?_
  unfold claw12_RecordEvery
  have hmax : maxLen = 9223372036854775807 := rfl
  have hfn := hf.n
  have fa := far_ac l frs hl.nf hf.n hf.m
  have fe := farE_ac cs h hn
  have ck := rcheck_ac l hl
  unfold tpD evD cdC at *
  cases hb : farB l frs with
  | true =>
    rw [hb] at fa
    (have hg : (987654321 : Nat) - 987654321 = 0 := rfl; have hr := hg; repeat' (first | refine aw_seq ?_ | (refine aw_skip ?_; repeat' (first | with_reducible refine thenQ_n ?_ | with_reducible refine blockQ_n ?_ | with_reducible refine thenQ_e ?_ | with_reducible refine blockQ_t ?_ | with_reducible refine blockQ_f (by decide) ?_)) | (refine aw_exit ?_; repeat' (first | with_reducible refine thenQ_n ?_ | with_reducible refine blockQ_n ?_ | with_reducible refine thenQ_e ?_ | with_reducible refine blockQ_t ?_ | with_reducible refine blockQ_f (by decide) ?_)) | refine aw_ret ?_ | refine aw_block ?_ | refine aw_condT rfl ?_ | refine aw_condF rfl ?_ | ((first | refine aw_hide fun K hK => aw_region ?_ | refine acall0 (fa) ?_ | refine acall0 (works_ac) ?_ | refine ago_if (by omega) ?_ | skip); simp (config := {maxSteps := 10000000}) (disch := first | exact okYes (by kernel_rfl) | omega) only [List.length, Nat.zero_add, Nat.reduceAdd, Nat.reduceMul, envOf, dI, dB, ARun_none, AOpRun, aexec, D.isBot, FSt.ev, St.F, ↓eget_h, Bool.false_eq_true, Option.isSome, hget_n, or_self, ↓reduceIte, D.cells, AGo_ok, St.app, putO, eput_c, Nat.reduceBEq, eput_n, cond_false, hups, hput_n, List.map, eget_c, hget_c, hput_c, ARun_nil, dropE_c, inL_n, dropE_n, beq_self_eq_true, cond_true, Nat.reduceLeDiff, List.drop, List.take, ARun_some, AG_tf, inL_c, thenQ]) | (subst hK; repeat' (first | with_reducible refine thenQ_n ?_ | with_reducible refine blockQ_n ?_ | with_reducible refine thenQ_e ?_ | with_reducible refine blockQ_t ?_ | with_reducible refine blockQ_f (by decide) ?_))))
    all_goals (refine end_to [] [] (by first | exact .inl rfl | exact .inr rfl) rfl (by kernel_rfl) (by kernel_rfl) (by kernel_rfl) ?_ ?_ <;> repeat' (first | exact trivial | exact vr_val _))
  | false =>
  rw [hb] at fa
  cases q : decide ((cs.length : Int) > 8) with
  | true =>
    rw [q] at fe
    (have hg : (987654321 : Nat) - 987654321 = 0 := rfl; have hr := hg; repeat' (first | refine aw_seq ?_ | (refine aw_skip ?_; repeat' (first | with_reducible refine thenQ_n ?_ | with_reducible refine blockQ_n ?_ | with_reducible refine thenQ_e ?_ | with_reducible refine blockQ_t ?_ | with_reducible refine blockQ_f (by decide) ?_)) | (refine aw_exit ?_; repeat' (first | with_reducible refine thenQ_n ?_ | with_reducible refine blockQ_n ?_ | with_reducible refine thenQ_e ?_ | with_reducible refine blockQ_t ?_ | with_reducible refine blockQ_f (by decide) ?_)) | refine aw_ret ?_ | refine aw_block ?_ | refine aw_condT rfl ?_ | refine aw_condF rfl ?_ | ((first | refine aw_hide fun K hK => aw_region ?_ | refine acall0 (fa) ?_ | refine acall0 (fe) ?_ | refine acall0 (works_ac) ?_ | refine ago_if (by omega) ?_ | skip); simp (config := {maxSteps := 10000000}) (disch := first | exact okYes (by kernel_rfl) | omega) only [List.length, Nat.zero_add, Nat.reduceAdd, Nat.reduceMul, envOf, dI, dB, ARun_none, AOpRun, aexec, D.isBot, FSt.ev, St.F, ↓eget_h, Bool.false_eq_true, Option.isSome, hget_n, or_self, ↓reduceIte, D.cells, AGo_ok, St.app, putO, eput_c, Nat.reduceBEq, eput_n, cond_false, hups, hput_n, List.map, eget_c, hget_c, hput_c, ARun_nil, dropE_c, inL_n, dropE_n, beq_self_eq_true, cond_true, Nat.reduceLeDiff, List.drop, List.take, ARun_some, AG_ff, ↓hget_h, AG_tf, inL_c, thenQ]) | (subst hK; repeat' (first | with_reducible refine thenQ_n ?_ | with_reducible refine blockQ_n ?_ | with_reducible refine thenQ_e ?_ | with_reducible refine blockQ_t ?_ | with_reducible refine blockQ_f (by decide) ?_))))
    all_goals (refine end_to [] [] (by first | exact .inl rfl | exact .inr rfl) rfl (by kernel_rfl) (by kernel_rfl) (by kernel_rfl) ?_ ?_ <;> repeat' (first | exact trivial | exact vr_val _))
  | false =>
  rw [q] at fe
  have n8 := of_decide_eq_false q
  cases q60 : decide ((frs.length : Int) > 60) with
  | true =>
    (have hg : (987654321 : Nat) - 987654321 = 0 := rfl; have hr := hg; repeat' (first | refine aw_seq ?_ | (refine aw_skip ?_; repeat' (first | with_reducible refine thenQ_n ?_ | with_reducible refine blockQ_n ?_ | with_reducible refine thenQ_e ?_ | with_reducible refine blockQ_t ?_ | with_reducible refine blockQ_f (by decide) ?_)) | (refine aw_exit ?_; repeat' (first | with_reducible refine thenQ_n ?_ | with_reducible refine blockQ_n ?_ | with_reducible refine thenQ_e ?_ | with_reducible refine blockQ_t ?_ | with_reducible refine blockQ_f (by decide) ?_)) | refine aw_ret ?_ | refine aw_block ?_ | refine aw_condT rfl ?_ | refine aw_condF rfl ?_ | ((first | refine aw_hide fun K hK => aw_region ?_ | refine acall0 (fa) ?_ | refine acall0 (fe) ?_ | refine acall0 (works_ac) ?_ | refine ago_if (by omega) ?_ | skip); simp (config := {maxSteps := 10000000}) (disch := first | exact okYes (by kernel_rfl) | omega) only [List.length, Nat.zero_add, Nat.reduceAdd, Nat.reduceMul, envOf, dI, dB, ARun_none, AOpRun, aexec, D.isBot, FSt.ev, St.F, ↓eget_h, Bool.false_eq_true, Option.isSome, hget_n, or_self, ↓reduceIte, D.cells, AGo_ok, St.app, putO, eput_c, Nat.reduceBEq, eput_n, cond_false, hups, hput_n, List.map, eget_c, hget_c, hput_c, ARun_nil, dropE_c, inL_n, dropE_n, beq_self_eq_true, cond_true, Nat.reduceLeDiff, List.drop, List.take, ARun_some, AG_ff, ↓hget_h, Option.map, run1, List.getElem?_cons_succ, List.getElem?_cons_zero, rows_len, isSh, abin, q60, AG_tf, inL_c, thenQ]) | (subst hK; repeat' (first | with_reducible refine thenQ_n ?_ | with_reducible refine blockQ_n ?_ | with_reducible refine thenQ_e ?_ | with_reducible refine blockQ_t ?_ | with_reducible refine blockQ_f (by decide) ?_))))
    all_goals (refine end_to [] [] (by first | exact .inl rfl | exact .inr rfl) rfl (by kernel_rfl) (by kernel_rfl) (by kernel_rfl) ?_ ?_ <;> repeat' (first | exact trivial | exact vr_val _))
  | false =>
  have n60 := of_decide_eq_false q60
  obtain ⟨f1, f2, f3⟩ := far_small hb
  by_cases h1 : LayOk l
  case neg =>
    rw [layE_no h1] at ck
    unfold layD layC at ck
    (have hg : (987654321 : Nat) - 987654321 = 0 := rfl; have hr := hg; repeat' (first | refine aw_seq ?_ | (refine aw_skip ?_; repeat' (first | with_reducible refine thenQ_n ?_ | with_reducible refine blockQ_n ?_ | with_reducible refine thenQ_e ?_ | with_reducible refine blockQ_t ?_ | with_reducible refine blockQ_f (by decide) ?_)) | (refine aw_exit ?_; repeat' (first | with_reducible refine thenQ_n ?_ | with_reducible refine blockQ_n ?_ | with_reducible refine thenQ_e ?_ | with_reducible refine blockQ_t ?_ | with_reducible refine blockQ_f (by decide) ?_)) | refine aw_ret ?_ | refine aw_block ?_ | refine aw_condT rfl ?_ | refine aw_condF rfl ?_ | ((first | refine aw_hide fun K hK => aw_region ?_ | refine acall0 (fa) ?_ | refine acall0 (fe) ?_ | refine acall0 (ck) ?_ | refine acall0 (works_ac) ?_ | refine ago_if (by omega) ?_ | skip); simp (config := {maxSteps := 10000000}) (disch := first | exact okYes (by kernel_rfl) | omega) only [List.length, Nat.zero_add, Nat.reduceAdd, Nat.reduceMul, envOf, dI, dB, ARun_none, AOpRun, aexec, D.isBot, FSt.ev, St.F, ↓eget_h, Bool.false_eq_true, Option.isSome, hget_n, or_self, ↓reduceIte, D.cells, AGo_ok, St.app, putO, eput_c, Nat.reduceBEq, eput_n, cond_false, hups, hput_n, List.map, eget_c, hget_c, hput_c, ARun_nil, dropE_c, inL_n, dropE_n, beq_self_eq_true, cond_true, Nat.reduceLeDiff, List.drop, List.take, ARun_some, AG_ff, ↓hget_h, Option.map, run1, List.getElem?_cons_succ, List.getElem?_cons_zero, rows_len, isSh, abin, q60, Int.reduceBNe, AG_tf, inL_c, thenQ]) | (subst hK; repeat' (first | with_reducible refine thenQ_n ?_ | with_reducible refine blockQ_n ?_ | with_reducible refine thenQ_e ?_ | with_reducible refine blockQ_t ?_ | with_reducible refine blockQ_f (by decide) ?_))))
    all_goals (refine end_to [] [] (by first | exact .inl rfl | exact .inr rfl) rfl (by kernel_rfl) (by kernel_rfl) (by kernel_rfl) ?_ ?_ <;> repeat' (first | exact trivial | exact vr_val _))
  rw [layE_ok h1] at ck
  have ce := checkE_ac l cs h hn (by omega)
  cases hv : evB l cs h with
  | false =>
    rw [hv] at ce
    unfold layD layC evD at *
    (have hg : (987654321 : Nat) - 987654321 = 0 := rfl; have hr := hg; repeat' (first | refine aw_seq ?_ | (refine aw_skip ?_; repeat' (first | with_reducible refine thenQ_n ?_ | with_reducible refine blockQ_n ?_ | with_reducible refine thenQ_e ?_ | with_reducible refine blockQ_t ?_ | with_reducible refine blockQ_f (by decide) ?_)) | (refine aw_exit ?_; repeat' (first | with_reducible refine thenQ_n ?_ | with_reducible refine blockQ_n ?_ | with_reducible refine thenQ_e ?_ | with_reducible refine blockQ_t ?_ | with_reducible refine blockQ_f (by decide) ?_)) | refine aw_ret ?_ | refine aw_block ?_ | refine aw_condT rfl ?_ | refine aw_condF rfl ?_ | ((first | refine aw_hide fun K hK => aw_region ?_ | refine acall0 (fa) ?_ | refine acall0 (fe) ?_ | refine acall0 (ck) ?_ | refine acall0 (ce) ?_ | refine acall0 (works_ac) ?_ | refine ago_if (by omega) ?_ | skip); simp (config := {maxSteps := 10000000}) (disch := first | exact okYes (by kernel_rfl) | omega) only [List.length, Nat.zero_add, Nat.reduceAdd, Nat.reduceMul, envOf, dI, dB, ARun_none, AOpRun, aexec, D.isBot, FSt.ev, St.F, ↓eget_h, Bool.false_eq_true, Option.isSome, hget_n, or_self, ↓reduceIte, D.cells, AGo_ok, St.app, putO, eput_c, Nat.reduceBEq, eput_n, cond_false, hups, hput_n, List.map, eget_c, hget_c, hput_c, ARun_nil, dropE_c, inL_n, dropE_n, beq_self_eq_true, cond_true, Nat.reduceLeDiff, List.drop, List.take, ARun_some, AG_ff, ↓hget_h, Option.map, run1, List.getElem?_cons_succ, List.getElem?_cons_zero, rows_len, isSh, abin, q60, bne_self_eq_false, Bool.not_false, inL_c, thenQ]) | (subst hK; repeat' (first | with_reducible refine thenQ_n ?_ | with_reducible refine blockQ_n ?_ | with_reducible refine thenQ_e ?_ | with_reducible refine blockQ_t ?_ | with_reducible refine blockQ_f (by decide) ?_))))
    all_goals (refine end_to [] [] (by first | exact .inl rfl | exact .inr rfl) rfl (by kernel_rfl) (by kernel_rfl) (by kernel_rfl) ?_ ?_ <;> repeat' (first | exact trivial | exact vr_val _))
  | true =>
  rw [hv] at ce
  have hv2 := hv
  unfold evB at hv2
  rw [Bool.and_eq_true, Bool.and_eq_true] at hv2
  obtain ⟨⟨hv3, hv4⟩, hv5⟩ := hv2
  have hh := wI_t hv5
  have hcl := wI_t hv3
  have hv1 : evB l cs 1 = true := by unfold evB; rw [hv3, hv4]; rfl
  have ht0 : tpE l frs = 0 := tpE_ok h1 (by omega)
  have hE : ∀ cs' h', evE l frs cs' h' = if evB l cs' h' = true then 0 else 121 := fun cs' h' => if_pos ht0
  have hR : ∀ cs' h', evE l frs cs' h' = 0 → evR l frs cs' h' = (evK (isJ l frs cs') h' (frs.length + 1)).2 := fun cs' h' he => if_pos he
  have e1 : evE l frs cs h = 0 := by rw [hE, hv, if_pos rfl]
  have e2 : evE l frs cs 1 = 0 := by rw [hE, hv1, if_pos rfl]
  have ow := own_ac l frs (by omega) (by omega) (fun k => by have := f3 k; omega)
  have co := copied_ac cs h (by omega)
  have co2 := copied2_ac cs h (by omega)
  have c1 := events_ac l frs cs h hl hf (by omega)
  have c2 := events_ac l frs cs 1 hl hf (by omega)
  have c3 := events_ac l frs (cs ++ [c]) h hl hf (by simp; omega)
  have c4 := events_ac l frs cs (h + 1) hl hf (by omega)
  have l1 := evR_len l frs cs h
  have l2 := evR_len l frs cs 1
  have l3 := evR_len l frs (cs ++ [c]) h
  have l4 := evR_len l frs cs (h + 1)
  -- what the answers say
  have hend := isJ_end l frs cs
  have hF : ∀ i, ins (evR l frs cs h) (i : Nat) = markK (isJ l frs cs) h frs.length i := fun i => by
    rw [hR cs h e1, Bool.eq_iff_iff, found_iff hend, mark_stretch hh.1]
  have hO : ∀ i : Nat, i < frs.length → ins (evR l frs cs 1) i = isJ l frs cs i := fun i hi => by
    rw [hR cs 1 e2, Bool.eq_iff_iff, found_iff hend, stretch_one i hi]
  have hL3 : evE l frs (cs ++ [c]) h = 0 → ∀ i : Nat, ins (evR l frs (cs ++ [c]) h) i = true → ins (evR l frs cs h) i = true := fun he i hi => by
    rw [hR _ _ he, found_iff (isJ_end l frs (cs ++ [c]))] at hi
    rw [hR cs h e1, found_iff hend]
    exact stretch_less (Int.le_refl _) (fun j hj => isJ_more l frs cs c j hj) hi
  have hL4 : evE l frs cs (h + 1) = 0 → ∀ i : Nat, ins (evR l frs cs (h + 1)) i = true → ins (evR l frs cs h) i = true := fun he i hi => by
    rw [hR _ _ he, found_iff hend] at hi
    rw [hR cs h e1, found_iff hend]
    exact stretch_less (by omega) (fun j hj => hj) hi
  rw [e1] at c1
  rw [e2] at c2
  have hho : ∀ k, k < cs.length → ∀ j, j < frs.length → AC Try.prog 50 [layD l, .list (rows frs), .agg (cdC (cs[k]?.getD cd0)), dI j] [] [] (dB (holdJ l frs (cs[k]?.getD cd0) (fOf l (cs[k]?.getD cd0)) j)) := fun k hk j hj => by
    refine holding_ac l frs _ j h1 (by omega) hf ?_ hj
    rw [List.getElem?_eq_getElem hk]
    exact List.all_eq_true.1 hv4 _ (List.getElem_mem hk)
  have hall : ∀ j, j < frs.length → isJ l frs cs j = allK l frs cs cs.length j := fun j hj => isJ_all hj
  generalize evR l frs cs h = F at *
  generalize evR l frs cs 1 = O at *
  generalize evR l frs (cs ++ [c]) h = L3 at *
  generalize evR l frs cs (h + 1) = L4 at *
  generalize evE l frs (cs ++ [c]) h = E3 at *
  generalize evE l frs cs (h + 1) = E4 at *
  clear hE hR e1 e2 hv3 hv5 hv1 ht0 hv4
  have ic := fun (L : List (Int × Int)) (x : Int) (hL : L.length ≤ 201) => inside_ac L x (by omega)
  have hrep := rep_bc frs.length
  rw [fL_mark0 (isJ l frs cs) h] at hrep
  have m1 : (0 : Int) ≤ (frs.length : Int) := by omega
  have m2 : (frs.length : Int) * 1 ≤ 2 ^ 48 := by omega
  have m3 : (frs.length : Int) < 2 ^ 62 := by omega
  unfold tpD at ow
  unfold evD at co co2 c1 c2 c3 c4 ce
  unfold layD layC at *
  refine aw_seq (aw_region ?_)
  simp (config := {maxSteps := 10000000}) (disch := first | exact okYes (by kernel_rfl) | omega) only [thenQ, List.map, dB, List.length, Nat.zero_add, Nat.reduceAdd, Nat.reduceMul, envOf, dI, ARun_none, AOpRun, aexec, D.isBot, FSt.ev, St.F, ↓eget_h, Bool.false_eq_true, Option.isSome, hget_n, or_self, ↓reduceIte, D.cells, AGo_ok, St.app, putO, eput_c, Nat.reduceBEq, eput_n, cond_false, hups, hput_n, eget_c, hget_c, hput_c, ARun_nil, dropE_c, inL_n, dropE_n]
  refine aw_seq (aw_seq (aw_region ?_))
  simp (config := {maxSteps := 10000000}) (disch := first | exact okYes (by kernel_rfl) | omega) only [thenQ, List.length, Nat.zero_add, Nat.reduceAdd, Nat.reduceMul, ARun_none, AOpRun, aexec, FSt.ev, St.F, eget_c, Nat.reduceBEq, ↓eget_h, cond_false, hget_c, beq_self_eq_true, hget_n, cond_true, Nat.reduceLeDiff, ↓reduceIte, List.drop, List.take, AGo_ok, St.app, putO, eput_c, eput_n, hups, List.map]
  refine acall0 fa ?_
  simp (config := {maxSteps := 10000000}) (disch := first | exact okYes (by kernel_rfl) | omega) only [Nat.reduceAdd, St.app, putO, dB, eput_c, Nat.reduceBEq, eput_n, cond_false, hups, ARun_none, AOpRun, aexec, FSt.ev, St.F, eget_c, ↓eget_h, AGo_ok, List.map, ARun_some, AG_ff, hget_c, ↓hget_h, Nat.zero_add, List.length, Nat.reduceLeDiff, ↓reduceIte, List.drop, List.take]
  refine acall0 fe ?_
  simp (config := {maxSteps := 10000000}) (disch := first | exact okYes (by kernel_rfl) | omega) only [Nat.reduceAdd, St.app, putO, dB, eput_c, Nat.reduceBEq, eput_n, cond_false, hups, ARun_none, AOpRun, aexec, FSt.ev, St.F, eget_c, ↓eget_h, Bool.false_eq_true, ↓reduceIte, AGo_ok, List.map, ARun_some, AG_ff, Nat.zero_add, Option.map, run1, hget_c, beq_self_eq_true, hget_n, cond_true, List.getElem?_cons_succ, List.getElem?_cons_zero, rows_len, isSh, abin, q60, List.length, Nat.reduceLeDiff, List.drop, List.take]
  refine acall0 ck ?_
  simp (config := {maxSteps := 10000000}) (disch := first | exact okYes (by kernel_rfl) | omega) only [Nat.reduceAdd, St.app, putO, dI, eput_c, Nat.reduceBEq, eput_n, cond_false, hups, ARun_some, eget_c, ↓eget_h, AG_ff, AOpRun, aexec, FSt.ev, St.F, isSh, Bool.false_eq_true, ↓reduceIte, Option.map, abin, bne_self_eq_false, AGo_ok, List.map, ARun_none, Nat.zero_add, hget_c, beq_self_eq_true, hget_n, cond_true, List.length, Nat.reduceLeDiff, List.drop, List.take, ↓hget_h]
  refine acall0 ce ?_
  simp (config := {maxSteps := 10000000}) (disch := first | exact okYes (by kernel_rfl) | omega) only [Nat.reduceAdd, St.app, putO, dB, eput_c, Nat.reduceBEq, eput_n, cond_false, hups, ARun_some, eget_c, ↓eget_h, AG_ff, AOpRun, aexec, FSt.ev, St.F, Bool.not_true, AGo_ok, List.map, ARun_none, Bool.false_eq_true, ↓reduceIte, ARun_nil, dropE_c, inL_c, inL_n, beq_self_eq_true, cond_true, dropE_n]
  refine aw_condF rfl (aw_skip ?_)
  refine aw_seq (aw_region ?_)
  simp (config := {maxSteps := 10000000}) (disch := first | exact okYes (by kernel_rfl) | omega) only [thenQ, List.length, Nat.zero_add, Nat.reduceAdd, Nat.reduceMul, ARun_none, AOpRun, aexec, FSt.ev, St.F, eget_c, Nat.reduceBEq, ↓eget_h, cond_false, hget_c, beq_self_eq_true, hget_n, cond_true, Nat.reduceLeDiff, ↓reduceIte, List.drop, List.take, AGo_ok, St.app, putO, eput_c, eput_n, hups, List.map]
  refine acall0 ow ?_
  simp (config := {maxSteps := 10000000}) (disch := first | exact okYes (by kernel_rfl) | omega) only [Nat.reduceAdd, St.app, putO, dI, eput_c, Nat.reduceBEq, eput_n, cond_false, hups, ARun_none, AOpRun, aexec, Option.isSome, Nat.reduceMul, hget_c, hget_n, Bool.false_eq_true, ↓reduceIte, AGo_ok, hput_c, hput_n, List.map, FSt.ev, St.F, eget_c, ↓eget_h, ↓hget_h, D.isBot, D.cells, List.length, Nat.zero_add, Nat.reduceLeDiff, List.all, D.leaf, Bool.and_true, and_self, splice, List.take, List.nil_append, List.drop, List.append_nil, beq_self_eq_true, cond_true, ARun_nil, dropE_c, inL_c, inL_n, dropE_n]
  refine aw_seq (aw_region ?_)
  simp (config := {maxSteps := 10000000}) (disch := first | exact okYes (by kernel_rfl) | omega) only [thenQ, List.length, Nat.zero_add, Nat.reduceAdd, Nat.reduceMul, ARun_none, AOpRun, aexec, FSt.ev, St.F, eget_c, Nat.reduceBEq, ↓eget_h, cond_false, AGo_ok, St.app, putO, eput_c, eput_n, hups, List.map, hget_c, ↓hget_h, Nat.reduceLeDiff, ↓reduceIte, List.drop, List.take, Option.map, run1, List.getElem?_cons_succ, List.getElem?_cons_zero]
  refine acall0 co ?_
  simp (config := {maxSteps := 10000000}) (disch := first | exact okYes (by kernel_rfl) | omega) only [Nat.reduceAdd, St.app, putO, dI, eput_c, Nat.reduceBEq, eput_n, cond_false, hups, ARun_none, AOpRun, FSt.ev, List.map, St.F, eget_c, ↓eget_h]
  refine acall0 c1 ?_
  simp (config := {maxSteps := 10000000}) (disch := first | exact okYes (by kernel_rfl) | omega) only [Nat.reduceAdd, St.app, putO, dI, eput_c, Nat.reduceBEq, eput_n, cond_false, hups, ARun_none, AOpRun, aexec, FSt.ev, St.F, eget_c, ↓eget_h, AGo_ok, List.map, opt1, Option.map, List.getElem?_cons_zero, List.getElem?_cons_succ, ARun_nil, dropE_c, inL_c, inL_n, beq_self_eq_true, cond_true, dropE_n]
  refine aw_seq (aw_region ?_)
  simp (config := {maxSteps := 10000000}) (disch := first | exact okYes (by kernel_rfl) | omega) only [thenQ, List.length, Nat.zero_add, Nat.reduceAdd, Nat.reduceMul, ARun_none, AOpRun, aexec, FSt.ev, St.F, eget_c, Nat.reduceBEq, ↓eget_h, cond_false, hget_c, ↓hget_h, Nat.reduceLeDiff, ↓reduceIte, List.drop, List.take, AGo_ok, St.app, putO, eput_c, eput_n, hups, List.map]
  refine acall0 co ?_
  simp (config := {maxSteps := 10000000}) (disch := first | exact okYes (by kernel_rfl) | omega) only [Nat.reduceAdd, St.app, putO, dI, eput_c, Nat.reduceBEq, eput_n, cond_false, hups, ARun_none, AOpRun, aexec, Option.isSome, Nat.reduceMul, hget_c, hget_n, Bool.false_eq_true, ↓reduceIte, AGo_ok, hput_c, hput_n, List.map, FSt.ev, St.F, eget_c, ↓eget_h, ↓hget_h, D.isBot, D.cells, List.length, Nat.zero_add, Nat.reduceLeDiff, List.all, D.leaf, Bool.and_true, and_self, splice, List.take, List.nil_append, List.drop, List.append_nil, beq_self_eq_true, cond_true, ARun_nil, dropE_c, inL_c, inL_n, dropE_n]
  refine aw_seq (aw_region ?_)
  simp (config := {maxSteps := 10000000}) (disch := first | exact okYes (by kernel_rfl) | omega) only [thenQ, List.length, Nat.zero_add, Nat.reduceAdd, Nat.reduceMul, ARun_none, AOpRun, aexec, FSt.ev, St.F, eget_c, Nat.reduceBEq, ↓eget_h, cond_false, AGo_ok, St.app, putO, eput_c, eput_n, hups, List.map, hget_c, ↓hget_h, D.isBot, D.cells, Nat.reduceLeDiff, List.all, D.leaf, Bool.and_true, and_self, ↓reduceIte, splice, List.take, List.cons_append, List.nil_append, List.drop, List.append_nil, hput_c, beq_self_eq_true, hput_n, cond_true, ARun_nil, dropE_c, inL_c, inL_n, dropE_n]
  refine aw_seq (aw_region ?_)
  simp (config := {maxSteps := 10000000}) (disch := first | exact okYes (by kernel_rfl) | omega) only [thenQ, List.length, Nat.zero_add, Nat.reduceAdd, Nat.reduceMul, ARun_none, AOpRun, aexec, FSt.ev, St.F, eget_c, Nat.reduceBEq, ↓eget_h, cond_false, AGo_ok, St.app, putO, eput_c, eput_n, hups, List.map, hget_c, ↓hget_h, Nat.reduceLeDiff, ↓reduceIte, List.drop, List.take, Option.map, run1, List.getElem?_cons_succ, List.getElem?_cons_zero]
  refine acall0 c2 ?_
  simp (config := {maxSteps := 10000000}) (disch := first | exact okYes (by kernel_rfl) | omega) only [Nat.reduceAdd, St.app, putO, dI, eput_c, Nat.reduceBEq, eput_n, cond_false, hups, ARun_none, AOpRun, aexec, FSt.ev, St.F, eget_c, ↓eget_h, AGo_ok, List.map, opt1, Option.map, List.getElem?_cons_zero, List.getElem?_cons_succ, ARun_nil, dropE_c, inL_c, inL_n, beq_self_eq_true, cond_true, dropE_n]
  refine aw_seq (aw_seq (aw_region ?_))
  simp (config := {maxSteps := 10000000}) (disch := first | exact okYes (by kernel_rfl) | omega) only [thenQ, List.length, Nat.zero_add, Nat.reduceAdd, Nat.reduceMul, ARun_none, AOpRun, aexec, FSt.ev, St.F, eget_c, Nat.reduceBEq, ↓eget_h, cond_false, AGo_ok, St.app, putO, eput_c, eput_n, hups, List.map, isSh, Bool.false_eq_true, ↓reduceIte, Option.map, abin, bne_self_eq_false, ARun_some, AG_ff, ARun_nil, dropE_c, inL_c, inL_n, beq_self_eq_true, cond_true, dropE_n]
  refine aw_condF rfl (aw_skip ?_)
  refine aw_seq (aw_region ?_)
  simp (config := {maxSteps := 10000000}) (disch := first | exact okYes (by kernel_rfl) | omega) only [thenQ, List.length, Nat.zero_add, Nat.reduceMul, Nat.reduceAdd, ARun_none, AOpRun, aexec, FSt.ev, AGo_ok, St.app, putO, eput_c, Nat.reduceBEq, eput_n, cond_false, hups, List.map, ARun_nil, dropE_c, inL_n, dropE_n]
  refine aw_seq (aw_region ?_)
  simp (config := {maxSteps := 10000000}) (disch := first | exact okYes (by kernel_rfl) | omega) only [thenQ, List.length, Nat.zero_add, Nat.reduceAdd, Nat.reduceMul, ARun_none, AOpRun, aexec, FSt.ev, St.F, eget_c, Nat.reduceBEq, ↓eget_h, cond_false, AGo_ok, St.app, putO, eput_c, eput_n, hups, List.map, Option.map, run1, hget_c, beq_self_eq_true, hget_n, cond_true, List.getElem?_cons_succ, List.getElem?_cons_zero, rows_len, m1, cast_lit, m2, m3, Option.isSome, and_self, ↓reduceIte, Int.toNat_natCast, hrep, hput_c, hput_n, ARun_nil, dropE_c, inL_c, inL_n, dropE_n]
  refine aw_wk (s' := ⟨[(3, .ptr 0 0), (4, .ptr 8 0), (5, .ptr 16 0), (7, .ptr 24 0), (8, .list (sps F)), (11, .list (sps O)), (14, .vec 32 frs.length 1), (13, dI 0)], [(0, [dI l.words, dI l.s0, dI l.s1, dI l.s2, dI l.s3, .list (fls l.fl), .list (rows frs)]), (8, [.list (cds cs), dI h]), (16, [dI c.field, dI c.lim, dB c.above]), (24, [dI l.words, dI l.s0, dI l.s1, dI l.s2, dI l.s3, .list (fls l.fl), .list (rows frs)]), (32, bcl (fL frs.length (markK (isJ l frs cs) h 0)))], 700⟩) ?_ ?_
  · unfold dI dB
    refine wk_to [] [(0, 0), (8, 8), (16, 16), (24, 248), (32, 576)] (by kernel_rfl) (by kernel_rfl) (by kernel_rfl) (by kernel_rfl) (by kernel_rfl) ?_ ?_ <;> repeat' (first | exact trivial | exact vr_val _ | exact vr_list _ | exact vr_vec _ _ _ _ rfl | exact vr_ptr _ _ _ rfl | refine And.intro ⟨_, rfl, .inl ⟨_, rfl, by decide, ?_⟩⟩ ?_ | apply And.intro)
    all_goals exact vrl_flat _ (bcl_in _)
  -- frame by frame
  refine aw_cut ⟨[(3, .ptr 0 0), (4, .ptr 8 0), (5, .ptr 16 0), (7, .ptr 24 0), (8, .list (sps F)), (14, .vec 32 frs.length 1)], [(0, [dI l.words, dI l.s0, dI l.s1, dI l.s2, dI l.s3, .list (fls l.fl), .list (rows frs)]), (8, [.list (cds cs), dI h]), (16, [dI c.field, dI c.lim, dB c.above]), (24, [dI l.words, dI l.s0, dI l.s1, dI l.s2, dI l.s3, .list (fls l.fl), .list (rows frs)]), (32, bcl (fL frs.length (markK (isJ l frs cs) h frs.length)))], 3000⟩ ?_ ?_
  · refine aw_seq (aw_region ?_)
    simp (config := {maxSteps := 10000000}) (disch := first | exact okYes (by kernel_rfl) | omega) only [thenQ, dI, dB, List.length, Nat.zero_add, Nat.reduceMul, Nat.reduceAdd, ARun_none, AOpRun, aexec, FSt.ev, AGo_ok, St.app, putO, eput_c, Nat.reduceBEq, eput_n, cond_false, hups, List.map, ARun_nil, dropE_c, inL_n, dropE_n]
    refine aw_block (aw_loop (fun i : Nat => ⟨[(3, .ptr 0 0), (4, .ptr 8 0), (5, .ptr 16 0), (7, .ptr 24 0), (8, .list (sps F)), (11, .list (sps O)), (14, .vec 32 frs.length 1), (13, dI (runK (isJ l frs cs) i)), (15, dI i)], [(0, [dI l.words, dI l.s0, dI l.s1, dI l.s2, dI l.s3, .list (fls l.fl), .list (rows frs)]), (8, [.list (cds cs), dI h]), (16, [dI c.field, dI c.lim, dB c.above]), (24, [dI l.words, dI l.s0, dI l.s1, dI l.s2, dI l.s3, .list (fls l.fl), .list (rows frs)]), (32, bcl (fL frs.length (markK (isJ l frs cs) h i)))], 900⟩) (fun i => i ≤ frs.length) (fun i => frs.length - i) ⟨0, by omega, ?_⟩ ?_)
    · show Wk _ _ ⟨[(3, .ptr 0 0), (4, .ptr 8 0), (5, .ptr 16 0), (7, .ptr 24 0), (8, .list (sps F)), (11, .list (sps O)), (14, .vec 32 frs.length 1), (13, dI 0), (15, dI 0)], [(0, [dI l.words, dI l.s0, dI l.s1, dI l.s2, dI l.s3, .list (fls l.fl), .list (rows frs)]), (8, [.list (cds cs), dI h]), (16, [dI c.field, dI c.lim, dB c.above]), (24, [dI l.words, dI l.s0, dI l.s1, dI l.s2, dI l.s3, .list (fls l.fl), .list (rows frs)]), (32, bcl (fL frs.length (markK (isJ l frs cs) h 0)))], 900⟩
      unfold dI dB
      refine wk_to [] [(0, 0), (8, 8), (16, 16), (24, 24), (32, 32)] (by kernel_rfl) (by kernel_rfl) (by kernel_rfl) (by kernel_rfl) (by kernel_rfl) ?_ ?_ <;> repeat' (first | exact trivial | exact vr_val _ | exact vr_list _ | exact vr_vec _ _ _ _ rfl | exact vr_ptr _ _ _ rfl | refine And.intro ⟨_, rfl, .inl ⟨_, rfl, by decide, ?_⟩⟩ ?_ | apply And.intro)
      all_goals exact vrl_flat _ (bcl_in _)
    intro i hi
    by_cases hi2 : i < frs.length
    case neg =>
      obtain rfl : i = frs.length := by omega
      (have hg : (987654321 : Nat) - 987654321 = 0 := rfl; have hr := hg; repeat' (first | refine aw_seq ?_ | (refine aw_skip ?_; repeat' (first | with_reducible refine thenQ_n ?_ | with_reducible refine blockQ_n ?_ | with_reducible refine thenQ_e ?_ | with_reducible refine blockQ_t ?_ | with_reducible refine blockQ_f (by decide) ?_)) | (refine aw_exit ?_; repeat' (first | with_reducible refine thenQ_n ?_ | with_reducible refine blockQ_n ?_ | with_reducible refine thenQ_e ?_ | with_reducible refine blockQ_t ?_ | with_reducible refine blockQ_f (by decide) ?_)) | refine aw_ret ?_ | refine aw_block ?_ | refine aw_condT rfl ?_ | refine aw_condF rfl ?_ | (refine aw_cond rfl (fun hg => ?_) (fun hg => ?_) <;> (try (have hq := hg; simp only [Bool.not_eq_true', Bool.not_eq_false', Bool.and_eq_true, Bool.and_eq_false_iff, Bool.or_eq_true, Bool.or_eq_false_iff, decide_eq_true_eq, decide_eq_false_iff_not, bne_iff_ne, beq_iff_eq, beq_eq_false_iff_ne, bne_eq_false_iff_eq, ne_eq, Int.not_lt, Int.not_le, Decidable.not_not] at hq)) <;> (try (have hr := hg; simp only [decide_eq_true_eq, decide_eq_false_iff_not] at hr)) <;> (try (exfalso; omega))) | ((first | refine aw_hide fun K hK => aw_region ?_ | refine ago_if (by omega) ?_ | skip); simp (config := {maxSteps := 10000000}) (disch := first | exact okYes (by kernel_rfl) | omega) only [List.length, Nat.zero_add, Nat.reduceAdd, Nat.reduceMul, dI, dB, ARun_none, AOpRun, aexec, FSt.ev, St.F, eget_c, Nat.reduceBEq, ↓eget_h, cond_false, AGo_ok, St.app, putO, eput_c, eput_n, hups, List.map, Option.map, run1, hget_c, beq_self_eq_true, hget_n, cond_true, List.getElem?_cons_succ, List.getElem?_cons_zero, rows_len, isSh, Bool.false_eq_true, ↓reduceIte, abin, ARun_nil, dropE_c, inL_c, inL_n, dropE_n, hr, decide_false]) | (subst hK; repeat' (first | with_reducible refine thenQ_n ?_ | with_reducible refine blockQ_n ?_ | with_reducible refine thenQ_e ?_ | with_reducible refine blockQ_t ?_ | with_reducible refine blockQ_f (by decide) ?_))))
      refine wk_to [] [(0, 0), (8, 8), (16, 16), (24, 24), (32, 32)] (by kernel_rfl) (by kernel_rfl) (by kernel_rfl) (by kernel_rfl) (by kernel_rfl) ?_ ?_ <;> repeat' (first | exact trivial | exact vr_val _ | exact vr_list _ | exact vr_vec _ _ _ _ rfl | exact vr_ptr _ _ _ rfl | refine And.intro ⟨_, rfl, .inl ⟨_, rfl, by decide, ?_⟩⟩ ?_ | apply And.intro)
      all_goals exact vrl_flat _ (bcl_in _)
    have ii : (i : Int) < (frs.length : Int) := by omega
    have hOi := hO i hi2
    have hai := hall i hi2
    have hrl := run_le (is := (isJ l frs cs)) i
    refine aw_seq (aw_seq (aw_region ?_))
    simp (config := {maxSteps := 10000000}) (disch := first | exact okYes (by kernel_rfl) | omega) only [thenQ, dI, dB, List.length, Nat.zero_add, Nat.reduceAdd, Nat.reduceMul, ARun_none, AOpRun, aexec, FSt.ev, St.F, eget_c, Nat.reduceBEq, ↓eget_h, cond_false, AGo_ok, St.app, putO, eput_c, eput_n, hups, List.map, Option.map, run1, hget_c, beq_self_eq_true, hget_n, cond_true, List.getElem?_cons_succ, List.getElem?_cons_zero, rows_len, isSh, Bool.false_eq_true, ↓reduceIte, abin, ii, decide_true, ARun_nil, dropE_c, inL_c, inL_n, dropE_n]
    refine aw_condT rfl (aw_skip ?_)
    refine aw_seq (aw_block (aw_seq (aw_region ?_)))
    simp (config := {maxSteps := 10000000}) (disch := first | exact okYes (by kernel_rfl) | omega) only [thenQ, List.length, Nat.zero_add, Nat.reduceMul, Nat.reduceAdd, ARun_none, AOpRun, aexec, FSt.ev, AGo_ok, St.app, putO, eput_c, Nat.reduceBEq, eput_n, cond_false, hups, List.map, ARun_nil, dropE_c, inL_n, dropE_n]
    -- whether all conditions hold here
    refine aw_cut ⟨[(3, .ptr 0 0), (4, .ptr 8 0), (5, .ptr 16 0), (7, .ptr 24 0), (8, .list (sps F)), (11, .list (sps O)), (14, .vec 32 frs.length 1), (13, dI (runK (isJ l frs cs) i)), (15, dI i), (16, dB (isJ l frs cs i))], [(0, [dI l.words, dI l.s0, dI l.s1, dI l.s2, dI l.s3, .list (fls l.fl), .list (rows frs)]), (8, [.list (cds cs), dI h]), (16, [dI c.field, dI c.lim, dB c.above]), (24, [dI l.words, dI l.s0, dI l.s1, dI l.s2, dI l.s3, .list (fls l.fl), .list (rows frs)]), (32, bcl (fL frs.length (markK (isJ l frs cs) h i)))], 1100⟩ ?_ ?_
    · rw [hai]
      refine aw_seq (aw_region ?_)
      simp (config := {maxSteps := 10000000}) (disch := first | exact okYes (by kernel_rfl) | omega) only [thenQ, dI, dB, List.length, Nat.zero_add, Nat.reduceMul, Nat.reduceAdd, ARun_none, AOpRun, aexec, FSt.ev, AGo_ok, St.app, putO, eput_c, Nat.reduceBEq, eput_n, cond_false, hups, List.map, ARun_nil, dropE_c, inL_n, dropE_n]
      refine aw_block (aw_loop (fun k : Nat => ⟨[(3, .ptr 0 0), (4, .ptr 8 0), (5, .ptr 16 0), (7, .ptr 24 0), (8, .list (sps F)), (11, .list (sps O)), (14, .vec 32 frs.length 1), (13, dI (runK (isJ l frs cs) i)), (15, dI i), (16, dB (allK l frs cs k i)), (17, dI k)], [(0, [dI l.words, dI l.s0, dI l.s1, dI l.s2, dI l.s3, .list (fls l.fl), .list (rows frs)]), (8, [.list (cds cs), dI h]), (16, [dI c.field, dI c.lim, dB c.above]), (24, [dI l.words, dI l.s0, dI l.s1, dI l.s2, dI l.s3, .list (fls l.fl), .list (rows frs)]), (32, bcl (fL frs.length (markK (isJ l frs cs) h i)))], 1000⟩) (fun k => k ≤ cs.length) (fun k => cs.length - k) ⟨0, by omega, ?_⟩ ?_)
      · have e : allK l frs cs 0 i = true := by simp [allK]
        rw [e]
        unfold dI dB
        refine wk_to [] [(0, 0), (8, 8), (16, 16), (24, 24), (32, 32)] (by kernel_rfl) (by kernel_rfl) (by kernel_rfl) (by kernel_rfl) (by kernel_rfl) ?_ ?_ <;> repeat' (first | exact trivial | exact vr_val _ | exact vr_list _ | exact vr_vec _ _ _ _ rfl | exact vr_ptr _ _ _ rfl | refine And.intro ⟨_, rfl, .inl ⟨_, rfl, by decide, ?_⟩⟩ ?_ | apply And.intro)
        all_goals exact vrl_flat _ (bcl_in _)
      intro k hk
      by_cases hk2 : k < cs.length
      case neg =>
        obtain rfl : k = cs.length := by omega
        have q3 : decide ((cs.length : Int) < (cs.length : Int)) = false := decide_eq_false (by omega)
        (have hg : (987654321 : Nat) - 987654321 = 0 := rfl; have hr := hg; repeat' (first | refine aw_seq ?_ | (refine aw_skip ?_; repeat' (first | with_reducible refine thenQ_n ?_ | with_reducible refine blockQ_n ?_ | with_reducible refine thenQ_e ?_ | with_reducible refine blockQ_t ?_ | with_reducible refine blockQ_f (by decide) ?_)) | (refine aw_exit ?_; repeat' (first | with_reducible refine thenQ_n ?_ | with_reducible refine blockQ_n ?_ | with_reducible refine thenQ_e ?_ | with_reducible refine blockQ_t ?_ | with_reducible refine blockQ_f (by decide) ?_)) | refine aw_ret ?_ | refine aw_block ?_ | refine aw_condT rfl ?_ | refine aw_condF rfl ?_ | ((first | refine aw_hide fun K hK => aw_region ?_ | refine ago_if (by omega) ?_ | skip); simp (config := {maxSteps := 10000000}) (disch := first | exact okYes (by kernel_rfl) | omega) only [List.length, Nat.zero_add, Nat.reduceAdd, Nat.reduceMul, dI, dB, ARun_none, AOpRun, aexec, FSt.ev, St.F, eget_c, Nat.reduceBEq, ↓eget_h, cond_false, AGo_ok, St.app, putO, eput_c, eput_n, hups, List.map, Option.map, run1, hget_c, ↓hget_h, List.getElem?_cons_zero, cds_len, isSh, Bool.false_eq_true, ↓reduceIte, abin, q3, ARun_nil, dropE_c, inL_c, inL_n, beq_self_eq_true, cond_true, dropE_n]) | (subst hK; repeat' (first | with_reducible refine thenQ_n ?_ | with_reducible refine blockQ_n ?_ | with_reducible refine thenQ_e ?_ | with_reducible refine blockQ_t ?_ | with_reducible refine blockQ_f (by decide) ?_))))
        refine wk_to [] [(0, 0), (8, 8), (16, 16), (24, 24), (32, 32)] (by kernel_rfl) (by kernel_rfl) (by kernel_rfl) (by kernel_rfl) (by kernel_rfl) ?_ ?_ <;> repeat' (first | exact trivial | exact vr_val _ | exact vr_list _ | exact vr_vec _ _ _ _ rfl | exact vr_ptr _ _ _ rfl | refine And.intro ⟨_, rfl, .inl ⟨_, rfl, by decide, ?_⟩⟩ ?_ | apply And.intro)
        all_goals exact vrl_flat _ (bcl_in _)
      have q3 : decide ((k : Int) < (cs.length : Int)) = true := decide_eq_true (by omega)
      have ki : (k : Int) < (cs.length : Int) := by omega
      have hak := allK_succ (l := l) (frs := frs) hk2 i
      have g1 := cds_gd cs k hk2
      have ht := hho k hk2 i hi2
      unfold cdC at g1 ht
      cases ha : allK l frs cs k i with
      | false =>
        rw [ha, Bool.false_and] at hak
        (have hg : (987654321 : Nat) - 987654321 = 0 := rfl; have hr := hg; repeat' (first | refine aw_seq ?_ | (refine aw_skip ?_; repeat' (first | with_reducible refine thenQ_n ?_ | with_reducible refine blockQ_n ?_ | with_reducible refine thenQ_e ?_ | with_reducible refine blockQ_t ?_ | with_reducible refine blockQ_f (by decide) ?_)) | (refine aw_exit ?_; repeat' (first | with_reducible refine thenQ_n ?_ | with_reducible refine blockQ_n ?_ | with_reducible refine thenQ_e ?_ | with_reducible refine blockQ_t ?_ | with_reducible refine blockQ_f (by decide) ?_)) | refine aw_ret ?_ | refine aw_block ?_ | refine aw_condT rfl ?_ | refine aw_condF rfl ?_ | ((first | refine aw_hide fun K hK => aw_region ?_ | refine ago_if (by omega) ?_ | skip); simp (config := {maxSteps := 10000000}) (disch := first | exact okYes (by kernel_rfl) | omega) only [List.length, Nat.zero_add, Nat.reduceAdd, Nat.reduceMul, dI, dB, ARun_none, AOpRun, aexec, FSt.ev, St.F, eget_c, Nat.reduceBEq, ↓eget_h, cond_false, AGo_ok, St.app, putO, eput_c, eput_n, hups, List.map, Option.map, run1, hget_c, ↓hget_h, List.getElem?_cons_zero, cds_len, isSh, Bool.false_eq_true, ↓reduceIte, abin, ki, decide_true, ARun_nil, dropE_c, inL_c, inL_n, beq_self_eq_true, cond_true, dropE_n, ARun_some, AG_ft, fits]) | (subst hK; repeat' (first | with_reducible refine thenQ_n ?_ | with_reducible refine blockQ_n ?_ | with_reducible refine thenQ_e ?_ | with_reducible refine blockQ_t ?_ | with_reducible refine blockQ_f (by decide) ?_))))
        refine ⟨k + 1, by omega, by omega, ?_⟩
        rw [hak]
        refine wk_to [] [(0, 0), (8, 8), (16, 16), (24, 24), (32, 32)] (by kernel_rfl) (by kernel_rfl) (by kernel_rfl) (by kernel_rfl) (by kernel_rfl) ?_ ?_ <;> repeat' (first | exact trivial | exact vr_val _ | exact vr_list _ | exact vr_vec _ _ _ _ rfl | exact vr_ptr _ _ _ rfl | refine And.intro ⟨_, rfl, .inl ⟨_, rfl, by decide, ?_⟩⟩ ?_ | apply And.intro)
        all_goals exact vrl_flat _ (bcl_in _)
      | true =>
        rw [ha, Bool.true_and] at hak
        rw [← hak] at ht
        (have hg : (987654321 : Nat) - 987654321 = 0 := rfl; have hr := hg; repeat' (first | refine aw_seq ?_ | (refine aw_skip ?_; repeat' (first | with_reducible refine thenQ_n ?_ | with_reducible refine blockQ_n ?_ | with_reducible refine thenQ_e ?_ | with_reducible refine blockQ_t ?_ | with_reducible refine blockQ_f (by decide) ?_)) | (refine aw_exit ?_; repeat' (first | with_reducible refine thenQ_n ?_ | with_reducible refine blockQ_n ?_ | with_reducible refine thenQ_e ?_ | with_reducible refine blockQ_t ?_ | with_reducible refine blockQ_f (by decide) ?_)) | refine aw_ret ?_ | refine aw_block ?_ | refine aw_condT rfl ?_ | refine aw_condF rfl ?_ | ((first | refine aw_hide fun K hK => aw_region ?_ | refine acall0 (ht) ?_ | refine ago_if (by omega) ?_ | skip); simp (config := {maxSteps := 10000000}) (disch := first | exact okYes (by kernel_rfl) | omega) only [List.length, Nat.zero_add, Nat.reduceAdd, Nat.reduceMul, dI, dB, ARun_none, AOpRun, aexec, FSt.ev, St.F, eget_c, Nat.reduceBEq, ↓eget_h, cond_false, AGo_ok, St.app, putO, eput_c, eput_n, hups, List.map, Option.map, run1, hget_c, ↓hget_h, List.getElem?_cons_zero, cds_len, isSh, Bool.false_eq_true, ↓reduceIte, abin, ki, decide_true, ARun_nil, dropE_c, inL_c, inL_n, beq_self_eq_true, cond_true, dropE_n, ARun_some, AG_tt, hget_n, Nat.reduceLeDiff, List.drop, List.take, List.getElem?_cons_succ, Int.natCast_nonneg, cds_all, and_self, opt1, Int.toNat_natCast, g1, fits]) | (subst hK; repeat' (first | with_reducible refine thenQ_n ?_ | with_reducible refine blockQ_n ?_ | with_reducible refine thenQ_e ?_ | with_reducible refine blockQ_t ?_ | with_reducible refine blockQ_f (by decide) ?_))))
        refine ⟨k + 1, by omega, by omega, ?_⟩
        refine wk_to [] [(0, 0), (8, 8), (16, 16), (24, 24), (32, 32)] (by kernel_rfl) (by kernel_rfl) (by kernel_rfl) (by kernel_rfl) (by kernel_rfl) ?_ ?_ <;> repeat' (first | exact trivial | exact vr_val _ | exact vr_list _ | exact vr_vec _ _ _ _ rfl | exact vr_ptr _ _ _ rfl | refine And.intro ⟨_, rfl, .inl ⟨_, rfl, by decide, ?_⟩⟩ ?_ | apply And.intro)
        all_goals exact vrl_flat _ (bcl_in _)
    -- the run so far
    have ico := ic O i l2
    rw [hOi] at ico
    refine aw_seq (aw_seq (aw_region ?_))
    simp (config := {maxSteps := 10000000}) (disch := first | exact okYes (by kernel_rfl) | omega) only [thenQ, List.length, Nat.zero_add, Nat.reduceAdd, Nat.reduceMul, dI, dB, ARun_none, AOpRun, aexec, FSt.ev, St.F, eget_c, Nat.reduceBEq, ↓eget_h, cond_false, AGo_ok, St.app, putO, eput_c, eput_n, hups, List.map]
    refine acall0 ico ?_
    have hne : ((isJ l frs cs i == isJ l frs cs i) != true) = false := by simp
    simp (config := {maxSteps := 10000000}) (disch := first | exact okYes (by kernel_rfl) | omega) only [Nat.reduceAdd, St.app, putO, dB, eput_c, Nat.reduceBEq, eput_n, cond_false, hups, ARun_none, AOpRun, aexec, FSt.ev, St.F, eget_c, ↓eget_h, beq_self_eq_true, bne_self_eq_false, AGo_ok, List.map, ARun_nil, dropE_c, inL_c, inL_n, cond_true, dropE_n]
    refine aw_condF rfl (aw_skip ?_)
    have hw1 : IntKind.i64.wrap (((runK (isJ l frs cs) i : Nat) : Int) + 1) = ((runK (isJ l frs cs) i : Nat) : Int) + 1 := wrap_in (by omega) (by omega)
    have hrs : runK (isJ l frs cs) (i + 1) = if isJ l frs cs i = true then runK (isJ l frs cs) i + 1 else 0 := rfl
    refine aw_seq (aw_region ?_)
    simp (config := {maxSteps := 10000000}) (disch := first | exact okYes (by kernel_rfl) | omega) only [thenQ, List.length, Nat.zero_add, Nat.reduceAdd, Nat.reduceMul, ARun_none, AOpRun, aexec, FSt.ev, St.F, eget_c, Nat.reduceBEq, ↓eget_h, cond_false, AGo_ok, St.app, putO, eput_c, eput_n, hups, List.map, isSh, Bool.false_eq_true, ↓reduceIte, Option.map, abin, hw1, beq_self_eq_true, cond_true, ARun_nil, dropE_c, inL_c, inL_n, dropE_n]
    refine aw_cut ⟨[(3, .ptr 0 0), (4, .ptr 8 0), (5, .ptr 16 0), (7, .ptr 24 0), (8, .list (sps F)), (11, .list (sps O)), (14, .vec 32 frs.length 1), (13, dI (runK (isJ l frs cs) (i + 1))), (15, dI i)], [(0, [dI l.words, dI l.s0, dI l.s1, dI l.s2, dI l.s3, .list (fls l.fl), .list (rows frs)]), (8, [.list (cds cs), dI h]), (16, [dI c.field, dI c.lim, dB c.above]), (24, [dI l.words, dI l.s0, dI l.s1, dI l.s2, dI l.s3, .list (fls l.fl), .list (rows frs)]), (32, bcl (fL frs.length (markK (isJ l frs cs) h i)))], 1500⟩ ?_ ?_
    · cases hji : isJ l frs cs i with
      | true =>
        rw [hji, if_pos rfl] at hrs
        rw [hrs]
        (have hg : (987654321 : Nat) - 987654321 = 0 := rfl; have hr := hg; repeat' (first | refine aw_seq ?_ | (refine aw_skip ?_; repeat' (first | with_reducible refine thenQ_n ?_ | with_reducible refine blockQ_n ?_ | with_reducible refine thenQ_e ?_ | with_reducible refine blockQ_t ?_ | with_reducible refine blockQ_f (by decide) ?_)) | (refine aw_exit ?_; repeat' (first | with_reducible refine thenQ_n ?_ | with_reducible refine blockQ_n ?_ | with_reducible refine thenQ_e ?_ | with_reducible refine blockQ_t ?_ | with_reducible refine blockQ_f (by decide) ?_)) | refine aw_ret ?_ | refine aw_block ?_ | refine aw_condT rfl ?_ | refine aw_condF rfl ?_ | ((first | refine aw_hide fun K hK => aw_region ?_ | refine ago_if (by omega) ?_ | skip); simp (config := {maxSteps := 10000000}) (disch := first | exact okYes (by kernel_rfl) | omega) only [List.length, Nat.zero_add, Nat.reduceAdd, Nat.reduceMul, ARun_none, AOpRun, aexec, FSt.ev, St.F, eget_c, Nat.reduceBEq, ↓eget_h, cond_false, AGo_ok, St.app, putO, eput_c, eput_n, hups, List.map, Bool.not_true, ARun_nil, dropE_c, inL_c, inL_n, beq_self_eq_true, cond_true, dropE_n, dI, dB]) | (subst hK; repeat' (first | with_reducible refine thenQ_n ?_ | with_reducible refine blockQ_n ?_ | with_reducible refine thenQ_e ?_ | with_reducible refine blockQ_t ?_ | with_reducible refine blockQ_f (by decide) ?_))))
        refine wk_to [] [(0, 0), (8, 8), (16, 16), (24, 24), (32, 32)] (by kernel_rfl) (by kernel_rfl) (by kernel_rfl) (by kernel_rfl) (by kernel_rfl) ?_ ?_ <;> repeat' (first | exact trivial | exact vr_val _ | exact vr_list _ | exact vr_vec _ _ _ _ rfl | exact vr_ptr _ _ _ rfl | refine And.intro ⟨_, rfl, .inl ⟨_, rfl, by decide, ?_⟩⟩ ?_ | apply And.intro)
        all_goals exact vrl_flat _ (bcl_in _)
      | false =>
        rw [hji, if_neg (by simp)] at hrs
        rw [hrs]
        (have hg : (987654321 : Nat) - 987654321 = 0 := rfl; have hr := hg; repeat' (first | refine aw_seq ?_ | (refine aw_skip ?_; repeat' (first | with_reducible refine thenQ_n ?_ | with_reducible refine blockQ_n ?_ | with_reducible refine thenQ_e ?_ | with_reducible refine blockQ_t ?_ | with_reducible refine blockQ_f (by decide) ?_)) | (refine aw_exit ?_; repeat' (first | with_reducible refine thenQ_n ?_ | with_reducible refine blockQ_n ?_ | with_reducible refine thenQ_e ?_ | with_reducible refine blockQ_t ?_ | with_reducible refine blockQ_f (by decide) ?_)) | refine aw_ret ?_ | refine aw_block ?_ | refine aw_condT rfl ?_ | refine aw_condF rfl ?_ | ((first | refine aw_hide fun K hK => aw_region ?_ | refine ago_if (by omega) ?_ | skip); simp (config := {maxSteps := 10000000}) (disch := first | exact okYes (by kernel_rfl) | omega) only [List.length, Nat.zero_add, Nat.reduceAdd, Nat.reduceMul, ARun_none, AOpRun, aexec, FSt.ev, St.F, eget_c, Nat.reduceBEq, ↓eget_h, cond_false, AGo_ok, St.app, putO, eput_c, eput_n, hups, List.map, Bool.not_false, ARun_nil, dropE_c, inL_c, inL_n, beq_self_eq_true, cond_true, dropE_n, dI, cast_lit, dB]) | (subst hK; repeat' (first | with_reducible refine thenQ_n ?_ | with_reducible refine blockQ_n ?_ | with_reducible refine thenQ_e ?_ | with_reducible refine blockQ_t ?_ | with_reducible refine blockQ_f (by decide) ?_))))
        refine wk_to [] [(0, 0), (8, 8), (16, 16), (24, 24), (32, 32)] (by kernel_rfl) (by kernel_rfl) (by kernel_rfl) (by kernel_rfl) (by kernel_rfl) ?_ ?_ <;> repeat' (first | exact trivial | exact vr_val _ | exact vr_list _ | exact vr_vec _ _ _ _ rfl | exact vr_ptr _ _ _ rfl | refine And.intro ⟨_, rfl, .inl ⟨_, rfl, by decide, ?_⟩⟩ ?_ | apply And.intro)
        all_goals exact vrl_flat _ (bcl_in _)
    have hrl2 := run_le (is := (isJ l frs cs)) (i + 1)
    have hme := mkF_end (isJ l frs cs) h i frs.length
    have hms := mark_same (isJ l frs cs) h i frs.length
    have hst0 := mkF_start (isJ l frs cs) h i frs.length
    have hset := fun k => mkF_set (isJ l frs cs) h i frs.length k
    rw [← hst0]
    clear hrs hw1 hrl ico hne
    generalize hRd : runK (isJ l frs cs) (i + 1) = R at *
    refine aw_seq (aw_region ?_)
    simp (config := {maxSteps := 10000000}) (disch := first | exact okYes (by kernel_rfl) | omega) only [thenQ, List.length, Nat.zero_add, Nat.reduceAdd, Nat.reduceMul, dI, dB, ARun_none, AOpRun, aexec, FSt.ev, St.F, eget_c, Nat.reduceBEq, ↓eget_h, cond_false, AGo_ok, St.app, putO, eput_c, eput_n, hups, List.map, ARun_nil, dropE_c, inL_c, inL_n, beq_self_eq_true, cond_true, dropE_n]
    refine aw_block (aw_loop (fun p : Nat => ⟨[(3, .ptr 0 0), (4, .ptr 8 0), (5, .ptr 16 0), (7, .ptr 24 0), (8, .list (sps F)), (11, .list (sps O)), (14, .vec 32 frs.length 1), (13, dI R), (15, dI i), (18, dI ((p : Int) - 1))], [(0, [dI l.words, dI l.s0, dI l.s1, dI l.s2, dI l.s3, .list (fls l.fl), .list (rows frs)]), (8, [.list (cds cs), dI h]), (16, [dI c.field, dI c.lim, dB c.above]), (24, [dI l.words, dI l.s0, dI l.s1, dI l.s2, dI l.s3, .list (fls l.fl), .list (rows frs)]), (32, bcl (fL frs.length (mkF (isJ l frs cs) h i p)))], 1800⟩) (fun p => i + 1 - R ≤ p ∧ p ≤ i + 1 ∧ (¬ (R : Int) ≥ h → p = i + 1)) (fun p => p) ⟨i + 1, ⟨by omega, by omega, fun _ => rfl⟩, ?_⟩ ?_)
    · have e : ((i + 1 : Nat) : Int) - 1 = (i : Int) := by omega
      rw [e]
      unfold dI dB
      refine wk_to [] [(0, 0), (8, 8), (16, 16), (24, 24), (32, 32)] (by kernel_rfl) (by kernel_rfl) (by kernel_rfl) (by kernel_rfl) (by kernel_rfl) ?_ ?_ <;> repeat' (first | exact trivial | exact vr_val _ | exact vr_list _ | exact vr_vec _ _ _ _ rfl | exact vr_ptr _ _ _ rfl | refine And.intro ⟨_, rfl, .inl ⟨_, rfl, by decide, ?_⟩⟩ ?_ | apply And.intro)
      all_goals exact vrl_flat _ (bcl_in _)
    rintro p ⟨hp1, hp2, hp3⟩
    have hwr : IntKind.i64.wrap ((i : Int) - (R : Int)) = (i : Int) - (R : Int) := wrap_in (by omega) (by omega)
    by_cases hRh : (R : Int) ≥ h
    case neg =>
      have q5 : decide ((R : Int) ≥ h) = false := decide_eq_false hRh
      obtain rfl := hp3 hRh
      have e := hst0.trans (hms hRh)
      rw [e]
      (have hg : (987654321 : Nat) - 987654321 = 0 := rfl; have hr := hg; repeat' (first | refine aw_seq ?_ | (refine aw_skip ?_; repeat' (first | with_reducible refine thenQ_n ?_ | with_reducible refine blockQ_n ?_ | with_reducible refine thenQ_e ?_ | with_reducible refine blockQ_t ?_ | with_reducible refine blockQ_f (by decide) ?_)) | (refine aw_exit ?_; repeat' (first | with_reducible refine thenQ_n ?_ | with_reducible refine blockQ_n ?_ | with_reducible refine thenQ_e ?_ | with_reducible refine blockQ_t ?_ | with_reducible refine blockQ_f (by decide) ?_)) | refine aw_ret ?_ | refine aw_block ?_ | refine aw_condT rfl ?_ | refine aw_condF rfl ?_ | ((first | refine aw_hide fun K hK => aw_region ?_ | refine ago_if (by omega) ?_ | skip); simp (config := {maxSteps := 10000000}) (disch := first | exact okYes (by kernel_rfl) | omega) only [List.length, Nat.zero_add, Nat.reduceAdd, Nat.reduceMul, dI, dB, ARun_none, AOpRun, aexec, FSt.ev, St.F, eget_c, Nat.reduceBEq, ↓eget_h, cond_false, AGo_ok, St.app, putO, eput_c, eput_n, hups, List.map, Option.map, run1, hget_c, ↓hget_h, List.getElem?_cons_succ, List.getElem?_cons_zero, isSh, Bool.false_eq_true, ↓reduceIte, abin, q5, ARun_some, AG_ft, ARun_nil, dropE_c, inL_c, inL_n, beq_self_eq_true, cond_true, dropE_n, fits]) | (subst hK; repeat' (first | with_reducible refine thenQ_n ?_ | with_reducible refine blockQ_n ?_ | with_reducible refine thenQ_e ?_ | with_reducible refine blockQ_t ?_ | with_reducible refine blockQ_f (by decide) ?_))))
      refine ⟨i + 1, by omega, by omega, ?_⟩
      rw [hRd]
      refine wk_to [] [(0, 0), (8, 8), (16, 16), (24, 24), (32, 32)] (by kernel_rfl) (by kernel_rfl) (by kernel_rfl) (by kernel_rfl) (by kernel_rfl) ?_ ?_ <;> repeat' (first | exact trivial | exact vr_val _ | exact vr_list _ | exact vr_vec _ _ _ _ rfl | exact vr_ptr _ _ _ rfl | refine And.intro ⟨_, rfl, .inl ⟨_, rfl, by decide, ?_⟩⟩ ?_ | apply And.intro)
      all_goals exact vrl_flat _ (bcl_in _)
    have q5 : decide ((R : Int) ≥ h) = true := decide_eq_true hRh
    by_cases hpe : p = i + 1 - R
    · have q6 : decide ((p : Int) - 1 > (i : Int) - (R : Int)) = false := decide_eq_false (by omega)
      have e := hme hRh
      rw [← hpe] at e
      rw [e]
      (have hg : (987654321 : Nat) - 987654321 = 0 := rfl; have hr := hg; repeat' (first | refine aw_seq ?_ | (refine aw_skip ?_; repeat' (first | with_reducible refine thenQ_n ?_ | with_reducible refine blockQ_n ?_ | with_reducible refine thenQ_e ?_ | with_reducible refine blockQ_t ?_ | with_reducible refine blockQ_f (by decide) ?_)) | (refine aw_exit ?_; repeat' (first | with_reducible refine thenQ_n ?_ | with_reducible refine blockQ_n ?_ | with_reducible refine thenQ_e ?_ | with_reducible refine blockQ_t ?_ | with_reducible refine blockQ_f (by decide) ?_)) | refine aw_ret ?_ | refine aw_block ?_ | refine aw_condT rfl ?_ | refine aw_condF rfl ?_ | ((first | refine aw_hide fun K hK => aw_region ?_ | refine ago_if (by omega) ?_ | skip); simp (config := {maxSteps := 10000000}) (disch := first | exact okYes (by kernel_rfl) | omega) only [List.length, Nat.zero_add, Nat.reduceAdd, Nat.reduceMul, dI, dB, ARun_none, AOpRun, aexec, FSt.ev, St.F, eget_c, Nat.reduceBEq, ↓eget_h, cond_false, AGo_ok, St.app, putO, eput_c, eput_n, hups, List.map, Option.map, run1, hget_c, ↓hget_h, List.getElem?_cons_succ, List.getElem?_cons_zero, isSh, Bool.false_eq_true, ↓reduceIte, abin, q5, ARun_some, AG_tt, hwr, q6, ARun_nil, dropE_c, inL_c, inL_n, beq_self_eq_true, cond_true, dropE_n, fits]) | (subst hK; repeat' (first | with_reducible refine thenQ_n ?_ | with_reducible refine blockQ_n ?_ | with_reducible refine thenQ_e ?_ | with_reducible refine blockQ_t ?_ | with_reducible refine blockQ_f (by decide) ?_))))
      refine ⟨i + 1, by omega, by omega, ?_⟩
      rw [hRd]
      refine wk_to [] [(0, 0), (8, 8), (16, 16), (24, 24), (32, 32)] (by kernel_rfl) (by kernel_rfl) (by kernel_rfl) (by kernel_rfl) (by kernel_rfl) ?_ ?_ <;> repeat' (first | exact trivial | exact vr_val _ | exact vr_list _ | exact vr_vec _ _ _ _ rfl | exact vr_ptr _ _ _ rfl | refine And.intro ⟨_, rfl, .inl ⟨_, rfl, by decide, ?_⟩⟩ ?_ | apply And.intro)
      all_goals exact vrl_flat _ (bcl_in _)
    · obtain ⟨k, rfl⟩ : ∃ k, p = k + 1 := ⟨p - 1, by omega⟩
      have ek : ((k + 1 : Nat) : Int) - 1 = (k : Int) := by omega
      rw [ek]
      have q6 : decide ((k : Int) > (i : Int) - (R : Int)) = true := decide_eq_true (by omega)
      have hse := hset k (by omega)
      have hlen := fL_len frs.length (mkF (isJ l frs cs) h i (k + 1))
      generalize fL frs.length (mkF (isJ l frs cs) h i (k + 1)) = L at *
      have htk := bc_t L k true (by omega)
      rw [← hse] at htk
      have hbl := bcl_len L
      rw [hlen] at hbl
      have j0 : (0 : Int) ≤ (k : Int) := by omega
      have j1 : (k : Int) < (frs.length : Int) := by omega
      have j2 : k + 1 ≤ frs.length := by omega
      (have hg : (987654321 : Nat) - 987654321 = 0 := rfl; have hr := hg; repeat' (first | refine aw_seq ?_ | (refine aw_skip ?_; repeat' (first | with_reducible refine thenQ_n ?_ | with_reducible refine blockQ_n ?_ | with_reducible refine thenQ_e ?_ | with_reducible refine blockQ_t ?_ | with_reducible refine blockQ_f (by decide) ?_)) | (refine aw_exit ?_; repeat' (first | with_reducible refine thenQ_n ?_ | with_reducible refine blockQ_n ?_ | with_reducible refine thenQ_e ?_ | with_reducible refine blockQ_t ?_ | with_reducible refine blockQ_f (by decide) ?_)) | refine aw_ret ?_ | refine aw_block ?_ | refine aw_condT rfl ?_ | refine aw_condF rfl ?_ | ((first | refine aw_hide fun K hK => aw_region ?_ | refine ago_if (by omega) ?_ | skip); simp (config := {maxSteps := 10000000}) (disch := first | exact okYes (by kernel_rfl) | omega) only [List.length, Nat.zero_add, Nat.reduceAdd, Nat.reduceMul, dI, dB, ARun_none, AOpRun, aexec, FSt.ev, St.F, eget_c, Nat.reduceBEq, ↓eget_h, cond_false, AGo_ok, St.app, putO, eput_c, eput_n, hups, List.map, Option.map, run1, hget_c, ↓hget_h, Nat.add_zero, List.getElem?_cons_succ, List.getElem?_cons_zero, isSh, Bool.false_eq_true, ↓reduceIte, abin, q5, ARun_some, AG_tt, hwr, q6, ARun_nil, dropE_c, inL_c, inL_n, beq_self_eq_true, cond_true, dropE_n, j0, j1, and_self, Int.toNat_natCast, Nat.mul_one, D.isBot, D.cells, hbl, j2, List.all, D.leaf, Bool.and_true, splice, htk, hput_c, hput_n, fits]) | (subst hK; repeat' (first | with_reducible refine thenQ_n ?_ | with_reducible refine blockQ_n ?_ | with_reducible refine thenQ_e ?_ | with_reducible refine blockQ_t ?_ | with_reducible refine blockQ_f (by decide) ?_))))
      refine ⟨k, ⟨by omega, by omega, fun hn => absurd hRh hn⟩, by omega, ?_⟩
      refine wk_to [] [(0, 0), (8, 8), (16, 16), (24, 24), (32, 32)] (by kernel_rfl) (by kernel_rfl) (by kernel_rfl) (by kernel_rfl) (by kernel_rfl) ?_ ?_ <;> repeat' (first | exact trivial | exact vr_val _ | exact vr_list _ | exact vr_vec _ _ _ _ rfl | exact vr_ptr _ _ _ rfl | refine And.intro ⟨_, rfl, .inl ⟨_, rfl, by decide, ?_⟩⟩ ?_ | apply And.intro)
      all_goals exact vrl_flat _ (bcl_in _)
  -- what is found
  refine aw_cut ⟨[(3, .ptr 0 0), (4, .ptr 8 0), (5, .ptr 16 0), (7, .ptr 24 0), (8, .list (sps F))], [(0, [dI l.words, dI l.s0, dI l.s1, dI l.s2, dI l.s3, .list (fls l.fl), .list (rows frs)]), (8, [.list (cds cs), dI h]), (16, [dI c.field, dI c.lim, dB c.above]), (24, [dI l.words, dI l.s0, dI l.s1, dI l.s2, dI l.s3, .list (fls l.fl), .list (rows frs)])], 88⟩ ?_ ?_
  · refine aw_seq (aw_region ?_)
    simp (config := {maxSteps := 10000000}) (disch := first | exact okYes (by kernel_rfl) | omega) only [thenQ, dI, dB, List.length, Nat.zero_add, Nat.reduceMul, Nat.reduceAdd, ARun_none, AOpRun, aexec, FSt.ev, AGo_ok, St.app, putO, eput_c, Nat.reduceBEq, eput_n, cond_false, hups, List.map, ARun_nil, dropE_c, inL_n, dropE_n]
    refine aw_block (aw_loop (fun i : Nat => ⟨[(3, .ptr 0 0), (4, .ptr 8 0), (5, .ptr 16 0), (7, .ptr 24 0), (8, .list (sps F)), (14, .vec 32 frs.length 1), (19, dI i)], [(0, [dI l.words, dI l.s0, dI l.s1, dI l.s2, dI l.s3, .list (fls l.fl), .list (rows frs)]), (8, [.list (cds cs), dI h]), (16, [dI c.field, dI c.lim, dB c.above]), (24, [dI l.words, dI l.s0, dI l.s1, dI l.s2, dI l.s3, .list (fls l.fl), .list (rows frs)]), (32, bcl (fL frs.length (markK (isJ l frs cs) h frs.length)))], 3300⟩) (fun i => i ≤ frs.length) (fun i => frs.length - i) ⟨0, by omega, ?_⟩ ?_)
    · unfold dI dB
      refine wk_to [] [(0, 0), (8, 8), (16, 16), (24, 24), (32, 32)] (by kernel_rfl) (by kernel_rfl) (by kernel_rfl) (by kernel_rfl) (by kernel_rfl) ?_ ?_ <;> repeat' (first | exact trivial | exact vr_val _ | exact vr_list _ | exact vr_vec _ _ _ _ rfl | exact vr_ptr _ _ _ rfl | refine And.intro ⟨_, rfl, .inl ⟨_, rfl, by decide, ?_⟩⟩ ?_ | apply And.intro)
      all_goals exact vrl_flat _ (bcl_in _)
    intro i hi
    by_cases hi2 : i < frs.length
    case neg =>
      obtain rfl : i = frs.length := by omega
      (have hg : (987654321 : Nat) - 987654321 = 0 := rfl; have hr := hg; repeat' (first | refine aw_seq ?_ | (refine aw_skip ?_; repeat' (first | with_reducible refine thenQ_n ?_ | with_reducible refine blockQ_n ?_ | with_reducible refine thenQ_e ?_ | with_reducible refine blockQ_t ?_ | with_reducible refine blockQ_f (by decide) ?_)) | (refine aw_exit ?_; repeat' (first | with_reducible refine thenQ_n ?_ | with_reducible refine blockQ_n ?_ | with_reducible refine thenQ_e ?_ | with_reducible refine blockQ_t ?_ | with_reducible refine blockQ_f (by decide) ?_)) | refine aw_ret ?_ | refine aw_block ?_ | refine aw_condT rfl ?_ | refine aw_condF rfl ?_ | (refine aw_cond rfl (fun hg => ?_) (fun hg => ?_) <;> (try (have hq := hg; simp only [Bool.not_eq_true', Bool.not_eq_false', Bool.and_eq_true, Bool.and_eq_false_iff, Bool.or_eq_true, Bool.or_eq_false_iff, decide_eq_true_eq, decide_eq_false_iff_not, bne_iff_ne, beq_iff_eq, beq_eq_false_iff_ne, bne_eq_false_iff_eq, ne_eq, Int.not_lt, Int.not_le, Decidable.not_not] at hq)) <;> (try (have hr := hg; simp only [decide_eq_true_eq, decide_eq_false_iff_not] at hr)) <;> (try (exfalso; omega))) | ((first | refine aw_hide fun K hK => aw_region ?_ | refine ago_if (by omega) ?_ | skip); simp (config := {maxSteps := 10000000}) (disch := first | exact okYes (by kernel_rfl) | omega) only [List.length, Nat.zero_add, Nat.reduceAdd, Nat.reduceMul, dI, dB, ARun_none, AOpRun, aexec, FSt.ev, St.F, eget_c, Nat.reduceBEq, ↓eget_h, cond_false, AGo_ok, St.app, putO, eput_c, eput_n, hups, List.map, Option.map, run1, hget_c, beq_self_eq_true, hget_n, cond_true, List.getElem?_cons_succ, List.getElem?_cons_zero, rows_len, isSh, Bool.false_eq_true, ↓reduceIte, abin, ARun_nil, dropE_c, inL_c, inL_n, dropE_n, hr, decide_false]) | (subst hK; repeat' (first | with_reducible refine thenQ_n ?_ | with_reducible refine blockQ_n ?_ | with_reducible refine thenQ_e ?_ | with_reducible refine blockQ_t ?_ | with_reducible refine blockQ_f (by decide) ?_))))
      refine wk_to [] [(0, 0), (8, 8), (16, 16), (24, 24)] (by kernel_rfl) (by kernel_rfl) (by kernel_rfl) (by kernel_rfl) (by kernel_rfl) ?_ ?_ <;> repeat' (first | exact trivial | exact vr_val _ | exact vr_list _ | exact vr_ptr _ _ _ rfl | refine And.intro ⟨_, rfl, .inl ⟨_, rfl, by decide, ?_⟩⟩ ?_ | apply And.intro)
    have ii : (i : Int) < (frs.length : Int) := by omega
    have i0 : (0 : Int) ≤ (i : Int) := by omega
    have icf := ic F i l1
    have hFi := hF i
    have hgi := bc_gd (fL frs.length (markK (isJ l frs cs) h frs.length)) i (by rw [fL_len]; exact hi2)
    rw [fL_get _ hi2, ← hFi] at hgi
    have hne : ((ins F i == ins F i) != true) = false := by simp
    have hbl : (bcl (fL frs.length (markK (isJ l frs cs) h frs.length))).length = frs.length := by rw [bcl_len, fL_len]
    generalize ins F i = b at *
    (have hg : (987654321 : Nat) - 987654321 = 0 := rfl; have hr := hg; repeat' (first | refine aw_seq ?_ | (refine aw_skip ?_; repeat' (first | with_reducible refine thenQ_n ?_ | with_reducible refine blockQ_n ?_ | with_reducible refine thenQ_e ?_ | with_reducible refine blockQ_t ?_ | with_reducible refine blockQ_f (by decide) ?_)) | (refine aw_exit ?_; repeat' (first | with_reducible refine thenQ_n ?_ | with_reducible refine blockQ_n ?_ | with_reducible refine thenQ_e ?_ | with_reducible refine blockQ_t ?_ | with_reducible refine blockQ_f (by decide) ?_)) | refine aw_ret ?_ | refine aw_block ?_ | refine aw_condT rfl ?_ | refine aw_condF rfl ?_ | ((first | refine aw_hide fun K hK => aw_region ?_ | refine acall0 (icf) ?_ | refine ago_if (by omega) ?_ | skip); simp (config := {maxSteps := 10000000}) (disch := first | exact okYes (by kernel_rfl) | omega) only [List.length, Nat.zero_add, Nat.reduceAdd, Nat.reduceMul, dI, dB, ARun_none, AOpRun, aexec, FSt.ev, St.F, eget_c, Nat.reduceBEq, ↓eget_h, cond_false, AGo_ok, St.app, putO, eput_c, eput_n, hups, List.map, Option.map, run1, hget_c, beq_self_eq_true, hget_n, cond_true, Nat.add_zero, List.getElem?_cons_succ, List.getElem?_cons_zero, rows_len, isSh, Bool.false_eq_true, ↓reduceIte, abin, ii, decide_true, ARun_nil, dropE_c, inL_c, inL_n, dropE_n, i0, and_self, Int.toNat_natCast, Nat.mul_one, ↓hget_h, hgi, bne_self_eq_false, fits]) | (subst hK; repeat' (first | with_reducible refine thenQ_n ?_ | with_reducible refine blockQ_n ?_ | with_reducible refine thenQ_e ?_ | with_reducible refine blockQ_t ?_ | with_reducible refine blockQ_f (by decide) ?_))))
    refine ⟨i + 1, by omega, by omega, ?_⟩
    refine wk_to [] [(0, 0), (8, 8), (16, 16), (24, 24), (32, 32)] (by kernel_rfl) (by kernel_rfl) (by kernel_rfl) (by kernel_rfl) (by kernel_rfl) ?_ ?_ <;> repeat' (first | exact trivial | exact vr_val _ | exact vr_list _ | exact vr_vec _ _ _ _ rfl | exact vr_ptr _ _ _ rfl | refine And.intro ⟨_, rfl, .inl ⟨_, rfl, by decide, ?_⟩⟩ ?_ | apply And.intro)
    all_goals exact vrl_flat _ (bcl_in _)
  -- a condition more, a greater hold
  have hcl3 : (cdcells cs).length = cs.length * 3 := cdcells_len cs
  have hct : (cdcells cs).take (cs.length * 3) = cdcells cs := List.take_of_length_le (by omega)
  refine aw_seq (aw_region ?_)
  simp (config := {maxSteps := 10000000}) (disch := first | exact okYes (by kernel_rfl) | omega) only [thenQ, List.length, Nat.zero_add, Nat.reduceAdd, Nat.reduceMul, dI, dB, ARun_none, AOpRun, aexec, FSt.ev, St.F, eget_c, Nat.reduceBEq, ↓eget_h, cond_false, hget_c, ↓hget_h, Nat.reduceLeDiff, ↓reduceIte, List.drop, List.take, AGo_ok, St.app, putO, eput_c, eput_n, hups, List.map]
  refine acallB co2 (by repeat' (first | exact trivial | exact rfl | refine And.intro ?_ ?_)) (by kernel_rfl) (by kernel_rfl) (by kernel_rfl) ?_
  simp (config := {maxSteps := 10000000}) (disch := first | exact okYes (by kernel_rfl) | omega) only [Nat.reduceAdd, St.app, putO, dI, eput_c, Nat.reduceBEq, eput_n, cond_false, hups, hput_c, hput_n, List.map, List.append_nil, ARun_none, AOpRun, aexec, Option.isSome, Nat.reduceMul, hget_c, hget_n, Bool.false_eq_true, ↓reduceIte, AGo_ok, FSt.ev, St.F, eget_c, ↓eget_h, ↓hget_h, D.isBot, D.cells, List.length, Nat.zero_add, Nat.reduceLeDiff, List.all, D.leaf, Bool.and_true, and_self, splice, List.take, List.nil_append, List.drop, beq_self_eq_true, cond_true, ARun_nil, dropE_c, inL_c, inL_n, dropE_n]
  refine aw_seq (aw_region ?_)
  simp (config := {maxSteps := 10000000}) (disch := first | exact okYes (by kernel_rfl) | omega) only [thenQ, List.length, Nat.zero_add, Nat.reduceAdd, Nat.reduceMul, ARun_none, AOpRun, aexec, FSt.ev, St.F, eget_c, Nat.reduceBEq, ↓eget_h, cond_false, AGo_ok, St.app, putO, eput_c, eput_n, hups, List.map, Option.map, run1, hget_c, ↓hget_h, List.getElem?_cons_zero, Nat.le_refl, ↓reduceIte, List.drop, List.take, Option.isSome, hget_n, Bool.false_eq_true, fillD, D.isBot, D.cells, ne_eq, not_true_eq_false, Nat.reduceGT, or_self, splice, List.nil_append, List.append_nil, hput_c, hput_n, base, hcl3, and_self, hct, elems, List.all, D.leaf, Bool.and_true, and_true, ups, List.cons_append]
  refine ago_if (by omega) ?_
  simp (config := {maxSteps := 10000000}) (disch := first | exact okYes (by kernel_rfl) | omega) only [AGo_ok, Nat.reduceAdd, St.app, putO, eput_c, Nat.reduceBEq, eput_n, cond_false, hups, hput_c, hput_n, hdel_c, beq_self_eq_true, hdel_n, cond_true, List.map, ARun_none, AOpRun, aexec, FSt.ev, St.F, eget_c, ↓eget_h, Nat.zero_add, hget_c, ↓hget_h, D.isBot, D.cells, List.length, Nat.reduceLeDiff, List.all, D.leaf, Bool.and_true, and_self, ↓reduceIte, splice, List.take, List.nil_append, List.drop, List.cons_append, ARun_nil, dropE_c, inL_c, inL_n, dropE_n]
  have hsn : cdcells cs ++ [.val (.int .i64 c.field), .val (.int .i64 c.lim), .val (.bool c.above)] = cdcells (cs ++ [c]) := cd_snoc cs c
  rw [hsn]
  have hlc : (cs ++ [c]).length = cs.length + 1 := by simp
  refine aw_wk (s' := ⟨[(3, .ptr 0 0), (4, .ptr 8 0), (5, .ptr 16 0), (7, .ptr 24 0), (8, .list (sps F)), (20, .ptr 40 0)], [(0, [dI l.words, dI l.s0, dI l.s1, dI l.s2, dI l.s3, .list (fls l.fl), .list (rows frs)]), (8, [.list (cds cs), dI h]), (16, [dI c.field, dI c.lim, dB c.above]), (24, [dI l.words, dI l.s0, dI l.s1, dI l.s2, dI l.s3, .list (fls l.fl), .list (rows frs)]), (40, [.list (cds (cs ++ [c])), dI h])], 400⟩) ?_ ?_
  · unfold dI dB
    refine wk_to [152] [(0, 0), (8, 8), (16, 16), (24, 24), (40, 104)] (by kernel_rfl) (by kernel_rfl) (by kernel_rfl) (by kernel_rfl) (by kernel_rfl) ?_ ?_ <;> repeat' (first | exact trivial | exact vr_val _ | exact vr_list _ | exact vr_ptr _ _ _ rfl | refine vr_fl _ _ _ _ _ (by decide) rfl ?_ ?_ ?_ ?_ | refine And.intro ⟨_, rfl, .inl ⟨_, rfl, by decide, ?_⟩⟩ ?_ | apply And.intro)
    all_goals first | exact cds_three _ | exact (cds_len _).trans hlc | exact cds_flat _ | exact vals_in (cc_all _)
  refine aw_seq (aw_region ?_)
  simp (config := {maxSteps := 10000000}) (disch := first | exact okYes (by kernel_rfl) | omega) only [thenQ, List.length, Nat.zero_add, Nat.reduceAdd, Nat.reduceMul, dI, dB, ARun_none, AOpRun, aexec, FSt.ev, St.F, eget_c, Nat.reduceBEq, ↓eget_h, cond_false, hget_c, ↓hget_h, Nat.reduceLeDiff, ↓reduceIte, List.drop, List.take, AGo_ok, St.app, putO, eput_c, eput_n, hups, List.map]
  refine acall0 co ?_
  simp (config := {maxSteps := 10000000}) (disch := first | exact okYes (by kernel_rfl) | omega) only [Nat.reduceAdd, St.app, putO, dI, eput_c, Nat.reduceBEq, eput_n, cond_false, hups, ARun_none, AOpRun, aexec, Option.isSome, Nat.reduceMul, hget_c, hget_n, Bool.false_eq_true, ↓reduceIte, AGo_ok, hput_c, hput_n, List.map, FSt.ev, St.F, eget_c, ↓eget_h, ↓hget_h, D.isBot, D.cells, List.length, Nat.zero_add, Nat.reduceLeDiff, List.all, D.leaf, Bool.and_true, and_self, splice, List.take, List.nil_append, List.drop, List.append_nil, beq_self_eq_true, cond_true, ARun_nil, dropE_c, inL_c, inL_n, dropE_n]
  have hwh : IntKind.i64.wrap (h + 1) = h + 1 := wrap_in (by omega) (by omega)
  refine aw_seq (aw_region ?_)
  simp (config := {maxSteps := 10000000}) (disch := first | exact okYes (by kernel_rfl) | omega) only [thenQ, List.length, Nat.zero_add, Nat.reduceAdd, Nat.reduceMul, ARun_none, AOpRun, aexec, FSt.ev, St.F, eget_c, Nat.reduceBEq, ↓eget_h, cond_false, AGo_ok, St.app, putO, eput_c, eput_n, hups, List.map, Option.map, run1, hget_c, ↓hget_h, List.getElem?_cons_succ, List.getElem?_cons_zero, isSh, Bool.false_eq_true, ↓reduceIte, abin, hwh, D.isBot, D.cells, Nat.reduceLeDiff, List.all, D.leaf, Bool.and_true, and_self, splice, List.take, List.cons_append, List.nil_append, List.drop, List.append_nil, hput_c, beq_self_eq_true, hput_n, cond_true, ARun_nil, dropE_c, inL_c, inL_n, dropE_n]
  refine aw_seq (aw_region ?_)
  simp (config := {maxSteps := 10000000}) (disch := first | exact okYes (by kernel_rfl) | omega) only [thenQ, List.length, Nat.zero_add, Nat.reduceAdd, Nat.reduceMul, ARun_none, AOpRun, aexec, FSt.ev, St.F, eget_c, Nat.reduceBEq, ↓eget_h, cond_false, AGo_ok, St.app, putO, eput_c, eput_n, hups, List.map, hget_c, ↓hget_h, Nat.reduceLeDiff, ↓reduceIte, List.drop, List.take, Option.map, run1, List.getElem?_cons_succ, List.getElem?_cons_zero]
  refine acall0 c3 ?_
  simp (config := {maxSteps := 10000000}) (disch := first | exact okYes (by kernel_rfl) | omega) only [Nat.reduceAdd, St.app, putO, dI, eput_c, Nat.reduceBEq, eput_n, cond_false, hups, ARun_none, AOpRun, aexec, FSt.ev, St.F, eget_c, ↓eget_h, AGo_ok, List.map, opt1, Option.map, List.getElem?_cons_zero, List.getElem?_cons_succ, ARun_nil, dropE_c, inL_c, inL_n, beq_self_eq_true, cond_true, dropE_n]
  refine aw_seq (aw_region ?_)
  simp (config := {maxSteps := 10000000}) (disch := first | exact okYes (by kernel_rfl) | omega) only [thenQ, List.length, Nat.zero_add, Nat.reduceAdd, Nat.reduceMul, ARun_none, AOpRun, aexec, FSt.ev, St.F, eget_c, Nat.reduceBEq, ↓eget_h, cond_false, AGo_ok, St.app, putO, eput_c, eput_n, hups, List.map, hget_c, ↓hget_h, Nat.reduceLeDiff, ↓reduceIte, List.drop, List.take, Option.map, run1, List.getElem?_cons_succ, List.getElem?_cons_zero]
  refine acall0 c4 ?_
  simp (config := {maxSteps := 10000000}) (disch := first | exact okYes (by kernel_rfl) | omega) only [Nat.reduceAdd, St.app, putO, dI, eput_c, Nat.reduceBEq, eput_n, cond_false, hups, ARun_none, AOpRun, aexec, FSt.ev, St.F, eget_c, ↓eget_h, AGo_ok, List.map, opt1, Option.map, List.getElem?_cons_zero, List.getElem?_cons_succ, ARun_nil, dropE_c, inL_c, inL_n, beq_self_eq_true, cond_true, dropE_n]
  refine aw_seq (aw_seq (aw_region ?_))
  simp (config := {maxSteps := 10000000}) (disch := first | exact okYes (by kernel_rfl) | omega) only [thenQ, List.length, Nat.zero_add, Nat.reduceMul, Nat.reduceAdd, ARun_none, AOpRun, aexec, FSt.ev, AGo_ok, St.app, putO, eput_c, Nat.reduceBEq, eput_n, cond_false, hups, List.map, ARun_nil, dropE_c, inL_n, dropE_n]
  refine aw_block (aw_loop (fun i : Nat => ⟨[(3, .ptr 0 0), (8, .list (sps F)), (22, .list (sps L3)), (23, dI E3), (24, .list (sps L4)), (25, dI E4), (26, dI i)], [(0, [dI l.words, dI l.s0, dI l.s1, dI l.s2, dI l.s3, .list (fls l.fl), .list (rows frs)])], 2000⟩) (fun i => i ≤ frs.length) (fun i => frs.length - i) ⟨0, by omega, ?_⟩ ?_)
  · unfold dI
    refine wk_to [] [(0, 0)] (by kernel_rfl) (by kernel_rfl) (by kernel_rfl) (by kernel_rfl) (by kernel_rfl) ?_ ?_ <;> repeat' (first | exact trivial | exact vr_val _ | exact vr_list _ | exact vr_ptr _ _ _ rfl | refine And.intro ⟨_, rfl, .inl ⟨_, rfl, by decide, ?_⟩⟩ ?_ | apply And.intro)
  intro i hi
  by_cases hi2 : i < frs.length
  case neg =>
    obtain rfl : i = frs.length := by omega
    (have hg : (987654321 : Nat) - 987654321 = 0 := rfl; have hr := hg; repeat' (first | refine aw_seq ?_ | (refine aw_skip ?_; repeat' (first | with_reducible refine thenQ_n ?_ | with_reducible refine blockQ_n ?_ | with_reducible refine thenQ_e ?_ | with_reducible refine blockQ_t ?_ | with_reducible refine blockQ_f (by decide) ?_)) | (refine aw_exit ?_; repeat' (first | with_reducible refine thenQ_n ?_ | with_reducible refine blockQ_n ?_ | with_reducible refine thenQ_e ?_ | with_reducible refine blockQ_t ?_ | with_reducible refine blockQ_f (by decide) ?_)) | refine aw_ret ?_ | refine aw_block ?_ | refine aw_condT rfl ?_ | refine aw_condF rfl ?_ | (refine aw_cond rfl (fun hg => ?_) (fun hg => ?_) <;> (try (have hq := hg; simp only [Bool.not_eq_true', Bool.not_eq_false', Bool.and_eq_true, Bool.and_eq_false_iff, Bool.or_eq_true, Bool.or_eq_false_iff, decide_eq_true_eq, decide_eq_false_iff_not, bne_iff_ne, beq_iff_eq, beq_eq_false_iff_ne, bne_eq_false_iff_eq, ne_eq, Int.not_lt, Int.not_le, Decidable.not_not] at hq)) <;> (try (have hr := hg; simp only [decide_eq_true_eq, decide_eq_false_iff_not] at hr)) <;> (try (exfalso; omega))) | ((first | refine aw_hide fun K hK => aw_region ?_ | refine acall0 (works_ac) ?_ | refine ago_if (by omega) ?_ | skip); simp (config := {maxSteps := 10000000}) (disch := first | exact okYes (by kernel_rfl) | omega) only [List.length, Nat.zero_add, Nat.reduceAdd, Nat.reduceMul, dI, ARun_none, AOpRun, aexec, FSt.ev, St.F, eget_c, Nat.reduceBEq, ↓eget_h, cond_false, AGo_ok, St.app, putO, eput_c, eput_n, hups, List.map, Option.map, run1, hget_c, beq_self_eq_true, hget_n, cond_true, List.getElem?_cons_succ, List.getElem?_cons_zero, rows_len, isSh, Bool.false_eq_true, ↓reduceIte, abin, ARun_nil, dropE_c, inL_c, inL_n, dropE_n, hr, decide_false, dB]) | (subst hK; repeat' (first | with_reducible refine thenQ_n ?_ | with_reducible refine blockQ_n ?_ | with_reducible refine thenQ_e ?_ | with_reducible refine blockQ_t ?_ | with_reducible refine blockQ_f (by decide) ?_))))
    all_goals (refine end_to [] [] (by first | exact .inl rfl | exact .inr rfl) rfl (by kernel_rfl) (by kernel_rfl) (by kernel_rfl) ?_ ?_ <;> repeat' (first | exact trivial | exact vr_val _))
  have ii : (i : Int) < (frs.length : Int) := by omega
  have iF := ic F i l1
  have i3 := ic L3 i l3
  have i4 := ic L4 i l4
  have k3 : (E3 == 0) = true → ins L3 i = true → ins F i = true := fun a b => hL3 (by simpa using a) i b
  have k4 : (E4 == 0) = true → ins L4 i = true → ins F i = true := fun a b => hL4 (by simpa using a) i b
  clear hL3 hL4 hF hO hall hho hend fa fe ck ce ow co co2 c1 c2 c3 c4 hrep
  have hgo : ∀ s : St, Wk [] s ⟨[(3, .ptr 0 0), (8, .list (sps F)), (22, .list (sps L3)), (23, dI E3), (24, .list (sps L4)), (25, dI E4), (26, dI ((i + 1 : Nat) : Int))], [(0, [dI l.words, dI l.s0, dI l.s1, dI l.s2, dI l.s3, .list (fls l.fl), .list (rows frs)])], 2000⟩ → ∃ j, j ≤ frs.length ∧ frs.length - j < frs.length - i ∧ Wk [] s ⟨[(3, .ptr 0 0), (8, .list (sps F)), (22, .list (sps L3)), (23, dI E3), (24, .list (sps L4)), (25, dI E4), (26, dI j)], [(0, [dI l.words, dI l.s0, dI l.s1, dI l.s2, dI l.s3, .list (fls l.fl), .list (rows frs)])], 2000⟩ := fun s hs => ⟨i + 1, by omega, by omega, hs⟩
  cases qa : (E3 == 0) <;> cases qx : ins L3 i <;> cases qb : (E4 == 0) <;> cases qy : ins L4 i <;> cases qf : ins F i
  all_goals
    rw [qx] at i3 k3
    rw [qy] at i4 k4
    rw [qf] at iF k3 k4
    rw [qa] at k3
    rw [qb] at k4
  all_goals first
    | exact absurd (k3 rfl rfl) Bool.false_ne_true
    | exact absurd (k4 rfl rfl) Bool.false_ne_true
    | skip
  all_goals
    (have hg : (987654321 : Nat) - 987654321 = 0 := rfl; have hr := hg; repeat' (first | refine aw_seq ?_ | (refine aw_skip ?_; repeat' (first | with_reducible refine thenQ_n ?_ | with_reducible refine blockQ_n ?_ | with_reducible refine thenQ_e ?_ | with_reducible refine blockQ_t ?_ | with_reducible refine blockQ_f (by decide) ?_)) | (refine aw_exit ?_; repeat' (first | with_reducible refine thenQ_n ?_ | with_reducible refine blockQ_n ?_ | with_reducible refine thenQ_e ?_ | with_reducible refine blockQ_t ?_ | with_reducible refine blockQ_f (by decide) ?_)) | refine aw_ret ?_ | refine aw_block ?_ | refine aw_condT rfl ?_ | refine aw_condF rfl ?_ | ((first | refine aw_hide fun K hK => aw_region ?_ | refine acall0 (i3) ?_ | refine acall0 (i4) ?_ | refine acall0 (iF) ?_ | refine ago_if (by omega) ?_ | skip); simp (config := {maxSteps := 10000000}) (disch := first | exact okYes (by kernel_rfl) | omega) only [List.length, Nat.zero_add, Nat.reduceAdd, Nat.reduceMul, dI, ARun_none, AOpRun, aexec, FSt.ev, St.F, eget_c, Nat.reduceBEq, ↓eget_h, cond_false, AGo_ok, St.app, putO, eput_c, eput_n, hups, List.map, Option.map, run1, hget_c, beq_self_eq_true, hget_n, cond_true, List.getElem?_cons_succ, List.getElem?_cons_zero, rows_len, isSh, Bool.false_eq_true, ↓reduceIte, abin, ii, decide_true, ARun_nil, dropE_c, inL_c, inL_n, dropE_n, qa, ARun_some, AG_ft, AG_ff, qb, fits, AG_tt, dB, Bool.not_true]) | (subst hK; repeat' (first | with_reducible refine thenQ_n ?_ | with_reducible refine blockQ_n ?_ | with_reducible refine thenQ_e ?_ | with_reducible refine blockQ_t ?_ | with_reducible refine blockQ_f (by decide) ?_))))
  all_goals
    refine hgo _ ?_
    unfold dI
    refine wk_to [] [(0, 0)] (by kernel_rfl) (by kernel_rfl) (by kernel_rfl) (by kernel_rfl) (by kernel_rfl) ?_ ?_ <;> repeat' (first | exact trivial | exact vr_val _ | exact vr_list _ | exact vr_ptr _ _ _ rfl | refine And.intro ⟨_, rfl, .inl ⟨_, rfl, by decide, ?_⟩⟩ ?_ | apply And.intro)
end Go.Proofs.Ytdcodicoclecnaa
/- Arguments that came in: what their cells are. No conditions. -/
namespace Go.Proofs.Ytdcodicoclecnaa
open Go.RowKit Lift

theorem in_ints {l : List (List D)} (h : ∀ x ∈ l, CfL [.int] x) : ∃ xs, l = ints xs ∧ ∀ x ∈ xs, -9223372036854775808 ≤ x ∧ x ≤ 9223372036854775807 := by
  induction l with
  | nil => exact ⟨[], rfl, by simp⟩
  | cons x l ih =>
    obtain ⟨xs, rfl, hx⟩ := ih fun y hy => h y (List.mem_cons_of_mem _ hy)
    have h0 := h x (List.mem_cons_self ..)
    cases h0 with
    | int n ss ds h1 h2 h3 =>
      cases h3
      exact ⟨n :: xs, rfl, fun y hy => by
        rcases List.mem_cons.1 hy with rfl | hy
        · exact ⟨h1, h2⟩
        · exact hx y hy⟩
theorem in_rows {l : List (List D)} (h : ∀ x ∈ l, CfL [.sl [.int]] x) : ∃ vs, l = rows vs ∧ ∀ r ∈ vs, r.length ≤ maxLen := by
  induction l with
  | nil => exact ⟨[], rfl, by simp⟩
  | cons x l ih =>
    obtain ⟨vs, rfl, hx⟩ := ih fun y hy => h y (List.mem_cons_of_mem _ hy)
    have h0 := h x (List.mem_cons_self ..)
    cases h0 with
    | sl e k ss ds h1 h2 h3 =>
      cases h3
      obtain ⟨xs, rfl, _⟩ := in_ints h2
      exact ⟨xs :: vs, rfl, fun y hy => by
        rcases List.mem_cons.1 hy with rfl | hy
        · simpa [ints] using h1
        · exact hx y hy⟩
end Go.Proofs.Ytdcodicoclecnaa
/- Arguments that came in: layouts, frames, cases. No conditions. -/
namespace Go.Proofs.Ytdcodicoclecnaa
open Go.RowKit Lift

theorem inc_int {ss : List Sh} {ds : List D} (h : CfL (.int :: ss) ds) : ∃ (a : Int) (r : List D), ds = dI a :: r ∧ CfL ss r ∧ -9223372036854775808 ≤ a ∧ a ≤ 9223372036854775807 := by
  cases h with
  | int a ss ds h1 h2 h3 => exact ⟨a, ds, rfl, h3, h1, h2⟩
theorem inc_bool {ss : List Sh} {ds : List D} (h : CfL (.bool :: ss) ds) : ∃ (a : Bool) (r : List D), ds = dB a :: r ∧ CfL ss r := by
  cases h with
  | bool a ss ds h3 => exact ⟨a, ds, rfl, h3⟩
theorem inc_sl {e ss : List Sh} {ds : List D} (h : CfL (.sl e :: ss) ds) : ∃ (l : List (List D)) (r : List D), ds = .list l :: r ∧ CfL ss r ∧ l.length ≤ maxLen ∧ ∀ x ∈ l, CfL e x := by
  cases h with
  | sl e l ss ds h1 h2 h3 => exact ⟨l, ds, rfl, h3, h1, h2⟩
theorem inc_nil {ds : List D} (h : CfL [] ds) : ds = [] := by cases h; rfl
theorem in_fls {l : List (List D)} (h : ∀ x ∈ l, CfL [.int, .int, .int, .bool, .int, .int, .int, .int, .int] x) : ∃ fs : List Fl, l = fls fs ∧ ∀ f ∈ fs, f.size ≤ 9223372036854775807 := by
  induction l with
  | nil => exact ⟨[], rfl, by simp⟩
  | cons x l ih =>
    obtain ⟨fs, rfl, hx⟩ := ih fun y hy => h y (List.mem_cons_of_mem _ hy)
    obtain ⟨a1, _, rfl, e1, _, _⟩ := inc_int (h x (List.mem_cons_self ..))
    obtain ⟨a2, _, rfl, e2, _, _⟩ := inc_int e1
    obtain ⟨a3, _, rfl, e3, _, b3⟩ := inc_int e2
    obtain ⟨a4, _, rfl, e4⟩ := inc_bool e3
    obtain ⟨a5, _, rfl, e5, _, _⟩ := inc_int e4
    obtain ⟨a6, _, rfl, e6, _, _⟩ := inc_int e5
    obtain ⟨a7, _, rfl, e7, _, _⟩ := inc_int e6
    obtain ⟨a8, _, rfl, e8, _, _⟩ := inc_int e7
    obtain ⟨a9, _, rfl, e9, _, _⟩ := inc_int e8
    obtain rfl := inc_nil e9
    exact ⟨⟨a1, a2, a3, a4, a5, a6, a7, a8, a9⟩ :: fs, rfl, fun y hy => by
      rcases List.mem_cons.1 hy with rfl | hy
      · exact b3
      · exact hx y hy⟩
theorem in_lay {ss : List Sh} {ds : List D} (h : CfL (.int :: .int :: .int :: .int :: .int :: .sl [.int, .int, .int, .bool, .int, .int, .int, .int, .int] :: ss) ds) : ∃ (l : Lay) (r : List D), ds = dI l.words :: dI l.s0 :: dI l.s1 :: dI l.s2 :: dI l.s3 :: .list (fls l.fl) :: r ∧ CfL ss r ∧ LayIn l := by
  obtain ⟨w, _, rfl, e1, _, _⟩ := inc_int h
  obtain ⟨s0, _, rfl, e2, _, _⟩ := inc_int e1
  obtain ⟨s1, _, rfl, e3, _, _⟩ := inc_int e2
  obtain ⟨s2, _, rfl, e4, _, _⟩ := inc_int e3
  obtain ⟨s3, _, rfl, e5, _, _⟩ := inc_int e4
  obtain ⟨l, r, rfl, e6, h1, h2⟩ := inc_sl e5
  obtain ⟨fs, rfl, h3⟩ := in_fls h2
  refine ⟨⟨w, s0, s1, s2, s3, fs⟩, r, rfl, e6, ⟨by simpa [fls] using h1, fun k hk => ?_⟩⟩
  have hk' : k < fs.length := hk
  show (fs[k]?.getD fl0).size ≤ _
  rw [List.getElem?_eq_getElem hk']
  exact h3 _ (List.getElem_mem hk')
theorem in_frames {ss : List Sh} {ds : List D} (h : CfL (.sl [.sl [.int]] :: ss) ds) : ∃ (frs : List (List Int)) (r : List D), ds = .list (rows frs) :: r ∧ CfL ss r ∧ FrIn frs := by
  obtain ⟨l, r, rfl, e1, h1, h2⟩ := inc_sl h
  obtain ⟨frs, rfl, h3⟩ := in_rows h2
  refine ⟨frs, r, rfl, e1, ⟨by simpa [rows] using h1, fun k => ?_⟩⟩
  unfold frm
  by_cases hk : k < frs.length
  · rw [List.getElem?_eq_getElem hk]; exact h3 _ (List.getElem_mem hk)
  · rw [List.getElem?_eq_none (by omega)]; simp
theorem in_tape {ds : List D} (h : CfL [.int, .int, .int, .int, .int, .sl [.int, .int, .int, .bool, .int, .int, .int, .int, .int], .sl [.sl [.int]]] ds) : ∃ (l : Lay) (frs : List (List Int)), ds = [dI l.words, dI l.s0, dI l.s1, dI l.s2, dI l.s3, .list (fls l.fl), .list (rows frs)] ∧ LayIn l ∧ FrIn frs := by
  obtain ⟨l, _, rfl, e1, hl⟩ := in_lay h
  obtain ⟨frs, _, rfl, e2, hf⟩ := in_frames e1
  obtain rfl := inc_nil e2
  exact ⟨l, frs, rfl, hl, hf⟩
end Go.Proofs.Ytdcodicoclecnaa
/- Arguments that came in: events. No conditions. -/
namespace Go.Proofs.Ytdcodicoclecnaa
open Go.RowKit Lift

theorem in_cds {l : List (List D)} (h : ∀ x ∈ l, CfL [.int, .int, .bool] x) : ∃ cs : List Cd, l = cds cs := by
  induction l with
  | nil => exact ⟨[], rfl⟩
  | cons x l ih =>
    obtain ⟨cs, rfl⟩ := ih fun y hy => h y (List.mem_cons_of_mem _ hy)
    obtain ⟨a1, _, rfl, e1, _, _⟩ := inc_int (h x (List.mem_cons_self ..))
    obtain ⟨a2, _, rfl, e2, _, _⟩ := inc_int e1
    obtain ⟨a3, _, rfl, e3⟩ := inc_bool e2
    obtain rfl := inc_nil e3
    exact ⟨⟨a1, a2, a3⟩ :: cs, rfl⟩
theorem in_evt {ss : List Sh} {ds : List D} (h : CfL (.sl [.int, .int, .bool] :: .int :: ss) ds) : ∃ (cs : List Cd) (n : Int) (r : List D), ds = .list (cds cs) :: dI n :: r ∧ CfL ss r ∧ cs.length ≤ maxLen := by
  obtain ⟨l, _, rfl, e1, h1, h2⟩ := inc_sl h
  obtain ⟨cs, rfl⟩ := in_cds h2
  obtain ⟨n, r, rfl, e2, _, _⟩ := inc_int e1
  exact ⟨cs, n, r, rfl, e2, by simpa [cds] using h1⟩
theorem in_event {ds : List D} (h : CfL [.sl [.int, .int, .bool], .int] ds) : ∃ (cs : List Cd) (n : Int), ds = [.list (cds cs), dI n] ∧ cs.length ≤ maxLen := by
  obtain ⟨cs, n, _, rfl, e, hn⟩ := in_evt h
  obtain rfl := inc_nil e
  exact ⟨cs, n, rfl, hn⟩
theorem in_cond {ds : List D} (h : CfL [.int, .int, .bool] ds) : ∃ c : Cd, ds = cdC c := by
  obtain ⟨a1, _, rfl, e1, _, _⟩ := inc_int h
  obtain ⟨a2, _, rfl, e2, _, _⟩ := inc_int e1
  obtain ⟨a3, _, rfl, e3⟩ := inc_bool e2
  obtain rfl := inc_nil e3
  exact ⟨⟨a1, a2, a3⟩, rfl⟩
end Go.Proofs.Ytdcodicoclecnaa
/- Arguments opened: what a row needs. No conditions. -/
namespace Go.Proofs.Ytdcodicoclecnaa
open Go.ChangeShapes Go.WideShapes Go.ChangeAt Go.RowKit Go.Joins

theorem Try.own : ownKnob Try.prog.godebug = none := by kernel_rfl
theorem Try.laidOut : laidOutB Try.prog = true := by kernel_rfl
theorem agg_struct {P : Program} {w : World} {r : Reach} {b0 : Nat} {v : Value} {t : TypeId} {fs : Array Field} (ht : P.underlying t = some (.struct fs)) (hv : Value.okWide P w r b0 t v) : ∃ cs, v = .agg cs := by
  cases v <;> first | exact ⟨_, rfl⟩ | (simp [Value.okWide, Cell.okWide, Cell.ok, ht] at hv)
end Go.Proofs.Ytdcodicoclecnaa
