/- Texts of the law RecordProofs, part 9. No conditions. -/
import Derived.Test.YtdcodicoclecnaaPRecordProofs08
/- Holds, Until and Weak, both sides. No conditions. -/
set_option linter.unusedSimpArgs false
set_option linter.unusedVariables false
namespace Go.Proofs.Ytdcodicoclecnaa
open Go Go.RowKit Lift

/-- a set without one -/
def wN (p i : Nat) : Nat := p &&& (2 ^ 64 - (2 ^ i + 1))
theorem wN_lt {p i : Nat} (h : p < 4096) : wN p i < 4096 := Nat.lt_of_le_of_lt Nat.and_le_left h
theorem wN_test {p i : Nat} (hp : p < 4096) (hi : i < 12) (j : Nat) : (wN p i).testBit j = (p.testBit j && !decide (j = i)) := by
  have h2 : 2 ^ i < 2 ^ 64 := Nat.pow_lt_pow_right (by omega) (by omega)
  unfold wN
  rw [Nat.testBit_and, Nat.testBit_two_pow_sub_succ h2, Nat.testBit_two_pow]
  by_cases hj : j < 64
  · simp only [hj, decide_true, Bool.true_and]
    congr 2
    exact decide_eq_decide.2 eq_comm
  · have : p.testBit j = false := Nat.testBit_lt_two_pow (Nat.lt_of_lt_of_le hp (Nat.pow_le_pow_right (n := 2) (i := 12) (by omega) (by omega)))
    rw [this]; simp
theorem wN_val {p i : Nat} (hp : p < 4096) (hi : i < 12) : IntKind.i64.wrap ((BitVec.ofInt IntKind.i64.bits (p : Int) &&& ~~~ BitVec.ofInt IntKind.i64.bits ((2 ^ i : Nat) : Int)).toNat) = ((wN p i : Nat) : Int) := by
  have h2 : 2 ^ i < 2 ^ 12 := Nat.pow_lt_pow_right (by omega) hi
  rw [BitVec.toNat_and, BitVec.toNat_not, bv_nat p (by omega), bv_nat (2 ^ i) (by omega)]
  have e : 2 ^ IntKind.i64.bits - 1 - 2 ^ i = 2 ^ 64 - (2 ^ i + 1) := by
    show 2 ^ 64 - 1 - 2 ^ i = 2 ^ 64 - (2 ^ i + 1)
    omega
  rw [e]
  have := wN_lt (i := i) hp
  unfold wN at *
  generalize p &&& (2 ^ 64 - (2 ^ i + 1)) = z at *
  exact wrap_in (by omega) (by omega)
set_option maxRecDepth 100000 in
set_option maxHeartbeats 1000000 in
theorem pwithout_ac (p i : Nat) (hp : p < 4096) (hi : i < 12) : AC Try.prog 87 [dI p, dI i] [] [] (dI ((wN p i : Nat) : Int)) := by
  refine krecord_proofs_without.ac (n0 := 0) (by simp) ⟨.val _, .val _, trivial⟩ trivial rfl ?_
  unfold crecord_proofs_without
  have e0 : IntKind.i64.bits = 64 := rfl
  have e1 : min i IntKind.i64.bits = i := by rw [e0]; omega
  have a2 := wN_val hp hi
  have h2 : 2 ^ i < 2 ^ 12 := Nat.pow_lt_pow_right (by omega) hi
  have a1 : IntKind.i64.wrap (1 * 2 ^ i) = ((2 ^ i : Nat) : Int) := by
    rw [Int.one_mul, show (2 : Int) ^ i = ((2 ^ i : Nat) : Int) by simp]
    generalize 2 ^ i = z at h2 ⊢
    exact wrap_in (by omega) (by omega)
  (have hg : (987654321 : Nat) - 987654321 = 0 := rfl; have hr := hg; repeat' (first | refine aw_seq ?_ | (refine aw_skip ?_; repeat' (first | with_reducible refine thenQ_n ?_ | with_reducible refine blockQ_n ?_ | with_reducible refine thenQ_e ?_ | with_reducible refine blockQ_t ?_ | with_reducible refine blockQ_f (by decide) ?_)) | (refine aw_exit ?_; repeat' (first | with_reducible refine thenQ_n ?_ | with_reducible refine blockQ_n ?_ | with_reducible refine thenQ_e ?_ | with_reducible refine blockQ_t ?_ | with_reducible refine blockQ_f (by decide) ?_)) | refine aw_ret ?_ | refine aw_block ?_ | refine aw_condT rfl ?_ | refine aw_condF rfl ?_ | ((first | refine aw_hide fun K hK => aw_region ?_ | refine ago_if (by omega) ?_ | skip); simp (config := {maxSteps := 10000000}) (disch := first | exact okYes (by kernel_rfl) | omega) only [List.length, Nat.zero_add, Nat.reduceMul, envOf, dI, ARun_none, AOpRun, aexec, FSt.ev, AGo_ok, St.app, putO, eput_c, Nat.reduceBEq, eput_n, cond_false, hups, List.map, ARun_nil, dropE_c, inL_n, dropE_n, Nat.reduceAdd, St.F, ↓eget_h, eget_c, isSh, ↓reduceIte, Option.map, ash, Int.natCast_nonneg, Int.toNat_natCast, e1, a1, Bool.false_eq_true, abin, a2, beq_self_eq_true, cond_true, inL_c]) | (subst hK; repeat' (first | with_reducible refine thenQ_n ?_ | with_reducible refine blockQ_n ?_ | with_reducible refine thenQ_e ?_ | with_reducible refine blockQ_t ?_ | with_reducible refine blockQ_f (by decide) ?_))))
  all_goals (refine end_to [] [] (by first | exact .inl rfl | exact .inr rfl) rfl (by kernel_rfl) (by kernel_rfl) (by kernel_rfl) ?_ ?_ <;> repeat' (first | exact trivial | exact vr_val _))

set_option maxRecDepth 100000 in
set_option maxHeartbeats 2000000 in
theorem holdsP_ok (c : Cas) (hi : CasIn c) (cl tk : Nat) (h0 : clmE c cl tk 122 1 = 0) : AC Try.prog 35 [casD c, dI cl, dI tk] [] [] (.tup [dB (holdC c cl (cntT c tk)), dI 0]) := by
  refine krecord_Holds.ac (n0 := 0) (by simp) ⟨in_cas _ _, .val _, .val _, trivial⟩ trivial rfl ?_
  obtain ⟨hc, cl', tk', e1, e2, hcl, htk⟩ := clmE_ok h0
  obtain rfl : cl = cl' := by omega
  obtain rfl : tk = tk' := by omega
  clear e1 e2
  have ck := ccheck_ac c hi cl tk
  rw [h0] at ck
  have hh := holds_ac c hc cl hcl (cntN c tk) (cntN_lt hc tk)
  have cc := counting_ac c hc.n2 (tk : Int)
  rw [cntN_fun] at hh
  unfold crecord_Holds
  unfold casD at *
  generalize cntN c tk = p at *
  generalize holdC c cl (cntT c tk) = B at *
  (have hg : (987654321 : Nat) - 987654321 = 0 := rfl; have hr := hg; repeat' (first | refine aw_seq ?_ | (refine aw_skip ?_; repeat' (first | with_reducible refine thenQ_n ?_ | with_reducible refine blockQ_n ?_ | with_reducible refine thenQ_e ?_ | with_reducible refine blockQ_t ?_ | with_reducible refine blockQ_f (by decide) ?_)) | (refine aw_exit ?_; repeat' (first | with_reducible refine thenQ_n ?_ | with_reducible refine blockQ_n ?_ | with_reducible refine thenQ_e ?_ | with_reducible refine blockQ_t ?_ | with_reducible refine blockQ_f (by decide) ?_)) | refine aw_ret ?_ | refine aw_block ?_ | refine aw_condT rfl ?_ | refine aw_condF rfl ?_ | ((first | refine aw_hide fun K hK => aw_region ?_ | refine acall0 (ck) ?_ | refine acall0 (cc) ?_ | refine acall0 (hh) ?_ | refine ago_if (by omega) ?_ | skip); simp (config := {maxSteps := 10000000}) (disch := first | exact okYes (by kernel_rfl) | omega) only [List.length, Nat.zero_add, Nat.reduceAdd, Nat.reduceMul, envOf, dI, ARun_none, AOpRun, aexec, D.isBot, FSt.ev, St.F, ↓eget_h, Bool.false_eq_true, Option.isSome, hget_n, or_self, ↓reduceIte, D.cells, AGo_ok, St.app, putO, eput_c, Nat.reduceBEq, eput_n, cond_false, hups, hput_n, List.map, ARun_nil, dropE_c, inL_n, dropE_n, eget_c, hget_c, beq_self_eq_true, cond_true, Nat.reduceLeDiff, List.drop, List.take, inL_c, isSh, Option.map, abin, bne_self_eq_false, dB]) | (subst hK; repeat' (first | with_reducible refine thenQ_n ?_ | with_reducible refine blockQ_n ?_ | with_reducible refine thenQ_e ?_ | with_reducible refine blockQ_t ?_ | with_reducible refine blockQ_f (by decide) ?_))))
  all_goals (refine end_to [] [] (by first | exact .inl rfl | exact .inr rfl) rfl (by kernel_rfl) (by kernel_rfl) (by kernel_rfl) ?_ ?_ <;> repeat' (first | exact trivial | exact vr_val _ | apply vr_tup | apply And.intro))
end Go.Proofs.Ytdcodicoclecnaa
/- Weak, both sides. No conditions. -/
set_option linter.unusedSimpArgs false
set_option linter.unusedVariables false
namespace Go.Proofs.Ytdcodicoclecnaa
open Go Go.RowKit Lift

def lessF (c : Cas) (tick : Int) (k j : Nat) : Bool := cntT c tick j && !decide (j = k)
def weakB (c : Cas) (cl : Nat) (tick : Int) (k : Nat) : Bool := !holdC c cl (lessF c tick k)
def wkL (c : Cas) (cl : Nat) (tick : Int) (k : Nat) : List Int := ((List.range k).filter (weakB c cl tick)).map fun i : Nat => (i : Int)
theorem wkL_len (c : Cas) (cl : Nat) (tick : Int) (k : Nat) : (wkL c cl tick k).length ≤ k := by
  unfold wkL
  rw [List.length_map]
  exact Nat.le_trans (List.length_filter_le _ _) (by simp)
theorem wkL_t {c : Cas} {cl : Nat} {tick : Int} {k : Nat} (h : weakB c cl tick k = true) : wkL c cl tick (k + 1) = wkL c cl tick k ++ [(k : Int)] := by
  unfold wkL
  rw [List.range_succ, List.filter_append, List.map_append]
  simp [h]
theorem wkL_f {c : Cas} {cl : Nat} {tick : Int} {k : Nat} (h : weakB c cl tick k = false) : wkL c cl tick (k + 1) = wkL c cl tick k := by
  unfold wkL
  rw [List.range_succ, List.filter_append, List.map_append]
  simp [h]
theorem less_w {c : Cas} (hc : CasOk c) (tick : Int) {k : Nat} (hk : k < 12) : (wN (cntN c tick) k).testBit = lessF c tick k := funext fun j => by
  rw [wN_test (cntN_lt hc tick) hk, cntN_test]; rfl
def weakD (c : Cas) (cl : Nat) (tick : Int) : D := if holdC c cl (cntT c tick) = true then .tup [.list (ints (wkL c cl tick c.pf.length)), dI 0] else .tup [.list [], dI 3]
set_option maxRecDepth 100000 in
set_option maxHeartbeats 4000000 in
theorem weakP_ok (c : Cas) (hi : CasIn c) (cl tk : Nat) (h0 : clmE c cl tk 122 1 = 0) : AC Try.prog 39 [casD c, dI cl, dI tk] [] [] (weakD c cl tk) := by
  refine krecord_Weak.ac (n0 := 0) (by simp) ⟨in_cas _ _, .val _, .val _, trivial⟩ trivial rfl ?_
  obtain ⟨hc, cl', tk', e1, e2, hcl, htk⟩ := clmE_ok h0
  obtain rfl : cl = cl' := by omega
  obtain rfl : tk = tk' := by omega
  clear e1 e2
  have ck := ccheck_ac c hi cl tk
  rw [h0] at ck
  have n2 := hc.n2
  have hh := holds_ac c hc cl hcl (cntN c tk) (cntN_lt hc tk)
  have cc := counting_ac c hc.n2 (tk : Int)
  have hw := fun (k : Nat) (hk : k < 12) => holds_ac c hc cl hcl (wN (cntN c tk) k) (wN_lt (cntN_lt hc tk))
  have ho := fun (k : Nat) (hk : k < 12) => pwithout_ac (cntN c tk) k (cntN_lt hc tk) hk
  have hq := fun (k : Nat) (hk : k < 12) => less_w hc (tk : Int) hk
  rw [cntN_fun] at hh
  unfold crecord_Weak
  unfold casD at *
  unfold weakD
  have pfl := sps_len c.pf
  generalize cntN c tk = p at *
  cases hB : holdC c cl (cntT c tk) with
  | false =>
    rw [hB] at hh
    rw [if_neg (by simp)]
    (have hg : (987654321 : Nat) - 987654321 = 0 := rfl; have hr := hg; repeat' (first | refine aw_seq ?_ | (refine aw_skip ?_; repeat' (first | with_reducible refine thenQ_n ?_ | with_reducible refine blockQ_n ?_ | with_reducible refine thenQ_e ?_ | with_reducible refine blockQ_t ?_ | with_reducible refine blockQ_f (by decide) ?_)) | (refine aw_exit ?_; repeat' (first | with_reducible refine thenQ_n ?_ | with_reducible refine blockQ_n ?_ | with_reducible refine thenQ_e ?_ | with_reducible refine blockQ_t ?_ | with_reducible refine blockQ_f (by decide) ?_)) | refine aw_ret ?_ | refine aw_block ?_ | refine aw_condT rfl ?_ | refine aw_condF rfl ?_ | ((first | refine aw_hide fun K hK => aw_region ?_ | refine acall0 (ck) ?_ | refine acall0 (cc) ?_ | refine acall0 (hh) ?_ | refine ago_if (by omega) ?_ | skip); simp (config := {maxSteps := 10000000}) (disch := first | exact okYes (by kernel_rfl) | omega) only [List.length, Nat.zero_add, Nat.reduceAdd, Nat.reduceMul, envOf, dI, ARun_none, AOpRun, aexec, D.isBot, FSt.ev, St.F, ↓eget_h, Bool.false_eq_true, Option.isSome, hget_n, or_self, ↓reduceIte, D.cells, AGo_ok, St.app, putO, eput_c, Nat.reduceBEq, eput_n, cond_false, hups, hput_n, List.map, ARun_nil, dropE_c, inL_n, dropE_n, eget_c, hget_c, beq_self_eq_true, cond_true, Nat.reduceLeDiff, List.drop, List.take, inL_c, isSh, Option.map, abin, bne_self_eq_false, dB, Bool.not_false, thenQ]) | (subst hK; repeat' (first | with_reducible refine thenQ_n ?_ | with_reducible refine blockQ_n ?_ | with_reducible refine thenQ_e ?_ | with_reducible refine blockQ_t ?_ | with_reducible refine blockQ_f (by decide) ?_))))
    all_goals (refine end_to [] [] (by first | exact .inl rfl | exact .inr rfl) rfl (by kernel_rfl) (by kernel_rfl) (by kernel_rfl) ?_ ?_ <;> repeat' (first | exact trivial | exact vr_val _ | exact vr_nil | apply vr_tup | apply And.intro))
  | true =>
  rw [hB] at hh
  rw [if_pos rfl]
  (have hg : (987654321 : Nat) - 987654321 = 0 := rfl; have hr := hg; repeat' (first | refine aw_seq ?_ | (refine aw_skip ?_; repeat' (first | with_reducible refine thenQ_n ?_ | with_reducible refine blockQ_n ?_ | with_reducible refine thenQ_e ?_ | with_reducible refine blockQ_t ?_ | with_reducible refine blockQ_f (by decide) ?_)) | (refine aw_exit ?_; repeat' (first | with_reducible refine thenQ_n ?_ | with_reducible refine blockQ_n ?_ | with_reducible refine thenQ_e ?_ | with_reducible refine blockQ_t ?_ | with_reducible refine blockQ_f (by decide) ?_)) | refine aw_ret ?_ | refine aw_block ?_ | refine aw_condT rfl ?_ | refine aw_condF rfl ?_ | ((first | refine aw_hide fun K hK => aw_region ?_ | refine acall0 (ck) ?_ | refine acall0 (cc) ?_ | refine acall0 (hh) ?_ | refine ago_if (by omega) ?_ | skip); simp (config := {maxSteps := 10000000}) (disch := first | exact okYes (by kernel_rfl) | omega) only [List.length, Nat.zero_add, Nat.reduceAdd, Nat.reduceMul, envOf, dI, ARun_none, AOpRun, aexec, D.isBot, FSt.ev, St.F, ↓eget_h, Bool.false_eq_true, Option.isSome, hget_n, or_self, ↓reduceIte, D.cells, AGo_ok, St.app, putO, eput_c, Nat.reduceBEq, eput_n, cond_false, hups, hput_n, List.map, ARun_nil, dropE_c, inL_n, dropE_n, eget_c, hget_c, beq_self_eq_true, cond_true, Nat.reduceLeDiff, List.drop, List.take, inL_c, isSh, Option.map, abin, bne_self_eq_false, dB, Bool.not_true, run1, List.getElem?_cons_succ, List.getElem?_cons_zero, pfl]) | (subst hK; repeat' (first | with_reducible refine thenQ_n ?_ | with_reducible refine blockQ_n ?_ | with_reducible refine thenQ_e ?_ | with_reducible refine blockQ_t ?_ | with_reducible refine blockQ_f (by decide) ?_))))
  clear hh cc ck
  refine aw_loop (fun k : Nat => ⟨[(1, dI cl), (3, .ptr 0 0), (6, .vec 24 (wkL c cl tk k).length 1), (9, dI p), (28, dI c.pf.length), (29, dI k)], [(0, [.list (cls c.cl), .list (sps c.pf)]), (24, icells (wkL c cl tk k))], 400⟩) (fun k => k ≤ c.pf.length) (fun k => c.pf.length - k) ⟨0, by omega, ?_⟩ ?_
  · show Wk _ _ ⟨[_, _, (6, .vec 24 0 1), _, _, _], [_, (24, [])], _⟩
    unfold dI
    refine wk_to [] [(0, 0), (24, 900)] (by kernel_rfl) (by kernel_rfl) (by kernel_rfl) (by kernel_rfl) (by kernel_rfl) ?_ ?_ <;> repeat' (first | exact trivial | exact vr_val _ | exact vr_list _ | exact vr_ptr _ _ _ rfl | exact vr_nilv _ _ _ rfl | refine And.intro ⟨_, rfl, .inl ⟨_, rfl, by decide, ?_⟩⟩ ?_ | refine And.intro ⟨_, rfl, .inr ⟨rfl, rfl, of_decide_eq_true (by kernel_rfl)⟩⟩ ?_ | apply And.intro)
  intro k hk
  by_cases hk2 : k < c.pf.length
  case neg =>
    obtain rfl : k = c.pf.length := by omega
    generalize wkL c cl tk c.pf.length = W at *
    have hin := icells_in W
    (have hg : (987654321 : Nat) - 987654321 = 0 := rfl; have hr := hg; repeat' (first | refine aw_seq ?_ | (refine aw_skip ?_; repeat' (first | with_reducible refine thenQ_n ?_ | with_reducible refine blockQ_n ?_ | with_reducible refine thenQ_e ?_ | with_reducible refine blockQ_t ?_ | with_reducible refine blockQ_f (by decide) ?_)) | (refine aw_exit ?_; repeat' (first | with_reducible refine thenQ_n ?_ | with_reducible refine blockQ_n ?_ | with_reducible refine thenQ_e ?_ | with_reducible refine blockQ_t ?_ | with_reducible refine blockQ_f (by decide) ?_)) | refine aw_ret ?_ | refine aw_block ?_ | refine aw_condT rfl ?_ | refine aw_condF rfl ?_ | (refine aw_cond rfl (fun hg => ?_) (fun hg => ?_) <;> (try (have hq := hg; simp only [Bool.not_eq_true', Bool.not_eq_false', Bool.and_eq_true, Bool.and_eq_false_iff, Bool.or_eq_true, Bool.or_eq_false_iff, decide_eq_true_eq, decide_eq_false_iff_not, bne_iff_ne, beq_iff_eq, beq_eq_false_iff_ne, bne_eq_false_iff_eq, ne_eq, Int.not_lt, Int.not_le, Decidable.not_not] at hq)) <;> (try (have hr := hg; simp only [decide_eq_true_eq, decide_eq_false_iff_not] at hr)) <;> (try (exfalso; omega))) | ((first | refine aw_hide fun K hK => aw_region ?_ | refine ago_if (by omega) ?_ | skip); simp (config := {maxSteps := 10000000}) (disch := first | exact okYes (by kernel_rfl) | omega) only [List.length, Nat.zero_add, Nat.reduceMul, Nat.reduceAdd, dI, ARun_none, AOpRun, aexec, FSt.ev, St.F, eget_c, Nat.reduceBEq, ↓eget_h, cond_false, isSh, Bool.false_eq_true, ↓reduceIte, Option.map, abin, AGo_ok, St.app, putO, eput_c, eput_n, hups, List.map, ARun_nil, dropE_c, inL_n, dropE_n, hr, decide_false, beq_self_eq_true, cond_true, inL_c]) | (subst hK; repeat' (first | with_reducible refine thenQ_n ?_ | with_reducible refine blockQ_n ?_ | with_reducible refine thenQ_e ?_ | with_reducible refine blockQ_t ?_ | with_reducible refine blockQ_f (by decide) ?_))))
    refine end_to [24] [] (by first | exact .inl rfl | exact .inr rfl) rfl (by kernel_rfl) (by kernel_rfl) (by kernel_rfl) ?_ ?_ <;> repeat' (first | exact trivial | exact vr_val _ | apply vr_tup | refine vr_fl _ _ _ _ _ (by decide) rfl ?_ ?_ ?_ ?_ | apply And.intro)
    all_goals first | exact ints_one _ | exact ints_len _ | exact ints_flat _ | exact icells_in _
  have hk12 : k < 12 := by omega
  have hw := hw k hk12
  have ho := ho k hk12
  rw [hq k hk12] at hw
  have hWl := wkL_len c cl tk k
  have hWb : (wkL c cl tk k).length ≤ 12 := by omega
  have hcl1 : (icells (wkL c cl tk k)).length = (wkL c cl tk k).length := icells_len _
  have hct : (icells (wkL c cl tk k)).take (wkL c cl tk k).length = icells (wkL c cl tk k) := List.take_of_length_le (by omega)
  have hlf := icells_leaf (wkL c cl tk k)
  have hin0 := icells_in (wkL c cl tk k)
  have ki : (k : Int) < (c.pf.length : Int) := by omega
  cases hb : weakB c cl tk k with
  | true =>
    have hs := wkL_t hb
    have hv : holdC c cl (lessF c tk k) = false := by unfold weakB at hb; simpa using hb
    rw [hv] at hw
    have hin : ∀ y ∈ icells (wkL c cl tk k) ++ [.val (.int .i64 (k : Int))], In (fun _ => False) y := by rw [ic_app]; exact icells_in _
    generalize wkL c cl tk k = W at *
    (have hg : (987654321 : Nat) - 987654321 = 0 := rfl; have hr := hg; repeat' (first | refine aw_seq ?_ | (refine aw_skip ?_; repeat' (first | with_reducible refine thenQ_n ?_ | with_reducible refine blockQ_n ?_ | with_reducible refine thenQ_e ?_ | with_reducible refine blockQ_t ?_ | with_reducible refine blockQ_f (by decide) ?_)) | (refine aw_exit ?_; repeat' (first | with_reducible refine thenQ_n ?_ | with_reducible refine blockQ_n ?_ | with_reducible refine thenQ_e ?_ | with_reducible refine blockQ_t ?_ | with_reducible refine blockQ_f (by decide) ?_)) | refine aw_ret ?_ | refine aw_block ?_ | refine aw_condT rfl ?_ | refine aw_condF rfl ?_ | ((first | refine aw_hide fun K hK => aw_region ?_ | refine acall0 (ho) ?_ | refine acall0 (hw) ?_ | refine ago_if (by omega) ?_ | skip); simp (config := {maxSteps := 10000000}) (disch := first | exact okYes (by kernel_rfl) | omega) only [List.length, Nat.zero_add, Nat.mul_one, Nat.reduceAdd, dI, ARun_none, AOpRun, aexec, FSt.ev, St.F, eget_c, Nat.reduceBEq, ↓eget_h, cond_false, isSh, Bool.false_eq_true, ↓reduceIte, Option.map, abin, ki, decide_true, AGo_ok, St.app, putO, eput_c, eput_n, hups, List.map, ARun_nil, dropE_c, inL_n, dropE_n, Nat.reduceMul, inL_c, beq_self_eq_true, cond_true, hget_c, hget_n, Nat.le_refl, List.drop, List.take, dB, Bool.not_false, Option.isSome, fillD, D.isBot, D.cells, ne_eq, not_true_eq_false, Nat.reduceGT, or_self, splice, List.nil_append, List.append_nil, hput_c, hput_n, base, ↓hget_h, hcl1, and_self, hct, elems, List.all, D.leaf, Bool.and_true, and_true, ups, List.cons_append, hdel_c, hdel_n, fits]) | (subst hK; repeat' (first | with_reducible refine thenQ_n ?_ | with_reducible refine blockQ_n ?_ | with_reducible refine thenQ_e ?_ | with_reducible refine blockQ_t ?_ | with_reducible refine blockQ_f (by decide) ?_))))
    refine ⟨k + 1, by omega, by omega, ?_⟩
    rw [hs, List.length_append, ← ic_app, List.length_singleton]
    refine wk_to [] [(0, 0), (24, 504)] (by kernel_rfl) (by kernel_rfl) (by kernel_rfl) (by kernel_rfl) (by kernel_rfl) ?_ ?_ <;> repeat' (first | exact trivial | exact vr_val _ | exact vr_list _ | exact vr_vec _ _ _ _ rfl | exact vr_ptr _ _ _ rfl | refine And.intro ⟨_, rfl, .inl ⟨_, rfl, by decide, ?_⟩⟩ ?_ | apply And.intro | exact vrl_flat _ (by first | exact icells_in _ | exact rcells_in _ | exact scells_in _ | exact bcells_in _ | assumption))
  | false =>
    have hs := wkL_f hb
    have hv : holdC c cl (lessF c tk k) = true := by unfold weakB at hb; simpa using hb
    rw [hv] at hw
    generalize hW : wkL c cl tk k = W at *
    (have hg : (987654321 : Nat) - 987654321 = 0 := rfl; have hr := hg; repeat' (first | refine aw_seq ?_ | (refine aw_skip ?_; repeat' (first | with_reducible refine thenQ_n ?_ | with_reducible refine blockQ_n ?_ | with_reducible refine thenQ_e ?_ | with_reducible refine blockQ_t ?_ | with_reducible refine blockQ_f (by decide) ?_)) | (refine aw_exit ?_; repeat' (first | with_reducible refine thenQ_n ?_ | with_reducible refine blockQ_n ?_ | with_reducible refine thenQ_e ?_ | with_reducible refine blockQ_t ?_ | with_reducible refine blockQ_f (by decide) ?_)) | refine aw_ret ?_ | refine aw_block ?_ | refine aw_condT rfl ?_ | refine aw_condF rfl ?_ | ((first | refine aw_hide fun K hK => aw_region ?_ | refine acall0 (ho) ?_ | refine acall0 (hw) ?_ | refine ago_if (by omega) ?_ | skip); simp (config := {maxSteps := 10000000}) (disch := first | exact okYes (by kernel_rfl) | omega) only [List.length, Nat.zero_add, Nat.mul_one, Nat.reduceAdd, dI, ARun_none, AOpRun, aexec, FSt.ev, St.F, eget_c, Nat.reduceBEq, ↓eget_h, cond_false, isSh, Bool.false_eq_true, ↓reduceIte, Option.map, abin, ki, decide_true, AGo_ok, St.app, putO, eput_c, eput_n, hups, List.map, ARun_nil, dropE_c, inL_n, dropE_n, Nat.reduceMul, inL_c, beq_self_eq_true, cond_true, hget_c, hget_n, Nat.le_refl, List.drop, List.take, dB, Bool.not_true, fits]) | (subst hK; repeat' (first | with_reducible refine thenQ_n ?_ | with_reducible refine blockQ_n ?_ | with_reducible refine thenQ_e ?_ | with_reducible refine blockQ_t ?_ | with_reducible refine blockQ_f (by decide) ?_))))
    refine ⟨k + 1, by omega, by omega, ?_⟩
    rw [hs]
    refine wk_to [] [(0, 0), (24, 24)] (by kernel_rfl) (by kernel_rfl) (by kernel_rfl) (by kernel_rfl) (by kernel_rfl) ?_ ?_ <;> repeat' (first | exact trivial | exact vr_val _ | exact vr_list _ | exact vr_vec _ _ _ _ rfl | exact vr_ptr _ _ _ rfl | refine And.intro ⟨_, rfl, .inl ⟨_, rfl, by decide, ?_⟩⟩ ?_ | apply And.intro | exact vrl_flat _ (by first | exact icells_in _ | exact rcells_in _ | exact scells_in _ | exact bcells_in _ | assumption))
end Go.Proofs.Ytdcodicoclecnaa
/- The fewest proofs to renew: a search by depth, and the least of all sets. In numbers; no conditions. -/
namespace Go.Proofs.Ytdcodicoclecnaa

def maskN : Nat → List Nat → Nat
  | p, [] => p
  | p, i :: l => maskN (p ||| 2 ^ i) l
theorem maskN_test : ∀ (l : List Nat) (p j : Nat), (maskN p l).testBit j = (p.testBit j || l.contains j)
  | [], p, j => by simp [maskN]
  | i :: l, p, j => by
    rw [maskN, maskN_test l, Nat.testBit_or, Nat.testBit_two_pow, List.contains_cons, Bool.or_assoc]
    congr 2
    rw [Bool.eq_iff_iff]
    simp
    exact eq_comm
/-- strictly ascending from some number on, below n, none of those that are set -/
def SeqV (now n : Nat) : Nat → List Nat → Prop
  | _, [] => True
  | f, i :: l => f ≤ i ∧ i < n ∧ now.testBit i = false ∧ SeqV now n (i + 1) l
theorem SeqV.mono {now n : Nat} : ∀ {l : List Nat} {f g : Nat}, g ≤ f → SeqV now n f l → SeqV now n g l
  | [], _, _, _, _ => trivial
  | i :: l, f, g, h, ⟨h1, h2, h3, h4⟩ => ⟨by omega, h2, h3, h4⟩
theorem SeqV.mem {now n : Nat} : ∀ {l : List Nat} {f : Nat}, SeqV now n f l → ∀ i ∈ l, f ≤ i ∧ i < n ∧ now.testBit i = false
  | [], _, _, i, hi => by simp at hi
  | j :: l, f, ⟨h1, h2, h3, h4⟩, i, hi => by
    rcases List.mem_cons.1 hi with rfl | hi
    · exact ⟨h1, h2, h3⟩
    · have := h4.mem i hi
      exact ⟨by omega, this.2⟩
theorem SeqV.len {now n : Nat} : ∀ {l : List Nat} {f : Nat}, SeqV now n f l → f ≤ n → l.length + f ≤ n
  | [], _, _, h => by simpa using h
  | i :: l, f, ⟨h1, h2, h3, h4⟩, _ => by
    have := h4.len (by omega)
    simp only [List.length_cons]
    omega
/-- the first where something is -/
theorem first_some {α : Type} {g : Nat → Option α} {b : α} : ∀ {n i : Nat}, i < n → (∀ j, j < i → g j = none) → g i = some b → (List.range n).findSome? g = some b
  | n + 1, i, hi, h0, h => by
    rw [List.range_succ, List.findSome?_append]
    by_cases e : i = n
    · subst e
      have : (List.range i).findSome? g = none := List.findSome?_eq_none_iff.2 fun j hj => h0 j (by simpa using hj)
      rw [this]
      simp [h]
    · rw [first_some (show i < n by omega) h0 h]
      rfl
theorem first_none {α : Type} {g : Nat → Option α} {n : Nat} (h : ∀ j, j < n → g j = none) : (List.range n).findSome? g = none := List.findSome?_eq_none_iff.2 fun j hj => h j (by simpa using hj)
theorem first_is {α : Type} {g : Nat → Option α} {b : α} : ∀ {n : Nat}, (List.range n).findSome? g = some b → ∃ i, i < n ∧ (∀ j, j < i → g j = none) ∧ g i = some b
  | 0, h => by simp at h
  | n + 1, h => by
    rw [List.range_succ, List.findSome?_append] at h
    cases e : (List.range n).findSome? g with
    | some x =>
      rw [e] at h
      simp at h
      subst h
      obtain ⟨i, h1, h2, h3⟩ := first_is e
      exact ⟨i, by omega, h2, h3⟩
    | none =>
      rw [e] at h
      simp at h
      exact ⟨n, by omega, fun j hj => List.findSome?_eq_none_iff.1 e j (by simpa using hj), h⟩
/-- the search by depth -/
def lookF (H : Nat → Bool) (now n : Nat) : Nat → Nat → Nat → Option (List Nat)
  | 0, p, _ => if H p = true then some [] else none
  | m + 1, p, f => (List.range n).findSome? fun i => if f ≤ i ∧ now.testBit i = false then (lookF H now n m (p ||| 2 ^ i) (i + 1)).map (i :: ·) else none
def lexB : List Nat → List Nat → Bool
  | a :: l, b :: r => decide (a < b) || (decide (a = b) && lexB l r)
  | _, _ => false
def befB (a b : List Nat) : Bool := decide (a.length < b.length) || (decide (a.length = b.length) && lexB a b)
theorem lex_total : ∀ {a b : List Nat}, a.length = b.length → lexB a b = false → lexB b a = false → a = b
  | [], [], _, _, _ => rfl
  | [], _ :: _, h, _, _ => by simp at h
  | _ :: _, [], h, _, _ => by simp at h
  | x :: a, y :: b, h, h1, h2 => by
    simp only [lexB, Bool.or_eq_false_iff, decide_eq_false_iff_not, Bool.and_eq_false_iff] at h1 h2
    obtain rfl : x = y := by omega
    have e1 : lexB a b = false := by
      rcases h1.2 with h | h
      · exact absurd rfl h
      · exact h
    have e2 : lexB b a = false := by
      rcases h2.2 with h | h
      · exact absurd rfl h
      · exact h
    rw [lex_total (by simpa using h) e1 e2]
theorem bef_total {a b : List Nat} (h1 : befB a b = false) (h2 : befB b a = false) : a = b := by
  simp only [befB, Bool.or_eq_false_iff, decide_eq_false_iff_not, Bool.and_eq_false_iff] at h1 h2
  have e : a.length = b.length := by omega
  refine lex_total e ?_ ?_
  · rcases h1.2 with h | h
    · exact absurd e h
    · exact h
  · rcases h2.2 with h | h
    · exact absurd e.symm h
    · exact h
theorem look_none {H : Nat → Bool} {now n : Nat} : ∀ {m p f : Nat}, lookF H now n m p f = none → ∀ l : List Nat, l.length = m → SeqV now n f l → H (maskN p l) = false
  | 0, p, f, h, l, hl, _ => by
    obtain rfl := List.length_eq_zero_iff.1 hl
    unfold lookF at h
    cases e : H p
    · exact e
    · rw [e] at h; simp at h
  | m + 1, p, f, h, [], hl, _ => by simp at hl
  | m + 1, p, f, h, i :: l, hl, ⟨h1, h2, h3, h4⟩ => by
    rw [lookF, List.findSome?_eq_none_iff] at h
    have := h i (by simpa using h2)
    rw [if_pos ⟨h1, h3⟩, Option.map_eq_none_iff] at this
    exact look_none this l (by simpa using hl) h4
theorem look_some {H : Nat → Bool} {now n : Nat} : ∀ {m p f : Nat} {l : List Nat}, lookF H now n m p f = some l →
    l.length = m ∧ SeqV now n f l ∧ H (maskN p l) = true ∧ ∀ r : List Nat, r.length = m → SeqV now n f r → H (maskN p r) = true → lexB r l = false
  | 0, p, f, l, h => by
    unfold lookF at h
    split at h
    · rename_i hp
      cases h
      refine ⟨rfl, trivial, hp, fun r hr _ _ => ?_⟩
      obtain rfl := List.length_eq_zero_iff.1 hr
      rfl
    · cases h
  | m + 1, p, f, l, h => by
    rw [lookF] at h
    obtain ⟨i, hi, h0, h1⟩ := first_is h
    split at h1
    · rename_i hc
      obtain ⟨l0, e, rfl⟩ := Option.map_eq_some_iff.1 h1
      obtain ⟨a1, a2, a3, a4⟩ := look_some e
      refine ⟨by simp [a1], ⟨hc.1, hi, hc.2, a2⟩, a3, fun r hr hs hH => ?_⟩
      cases r with
      | nil => rfl
      | cons j r =>
        obtain ⟨b1, b2, b3, b4⟩ := hs
        have hr' : r.length = m := by simpa using hr
        cases hq : lexB (j :: r) (i :: l0)
        · rfl
        simp only [lexB, Bool.or_eq_true, decide_eq_true_eq, Bool.and_eq_true] at hq
        rcases hq with hq | ⟨rfl, hq⟩
        · have := h0 j hq
          rw [if_pos ⟨b1, b3⟩, Option.map_eq_none_iff] at this
          have := look_none this r hr' b4
          rw [maskN] at hH
          rw [this] at hH; cases hH
        · rw [a4 r hr' b4 hH] at hq; cases hq
    · cases h1
def renF (H : Nat → Bool) (now n : Nat) : Option (List Nat) := (List.range (n + 1)).findSome? fun m => lookF H now n m now 0
/-- a list is the least one with which it holds -/
structure LeastV (H : Nat → Bool) (now n : Nat) (l : List Nat) : Prop where
  seq : SeqV now n 0 l
  yes : H (maskN now l) = true
  least : ∀ r : List Nat, SeqV now n 0 r → H (maskN now r) = true → befB r l = false
theorem LeastV.same {H : Nat → Bool} {now n : Nat} {l r : List Nat} (h1 : LeastV H now n l) (h2 : LeastV H now n r) : l = r := bef_total (h2.least l h1.seq h1.yes) (h1.least r h2.seq h2.yes)
theorem ren_some {H : Nat → Bool} {now n : Nat} {l : List Nat} (h : renF H now n = some l) : LeastV H now n l := by
  obtain ⟨m, hm, h0, h1⟩ := first_is h
  obtain ⟨a1, a2, a3, a4⟩ := look_some h1
  refine ⟨a2, a3, fun r hs hH => ?_⟩
  unfold befB
  rw [Bool.or_eq_false_iff, Bool.and_eq_false_iff, decide_eq_false_iff_not, decide_eq_false_iff_not]
  have hlt : ¬ r.length < l.length := fun hlt => by
    have := look_none (h0 r.length (by omega)) r rfl hs
    rw [this] at hH; cases hH
  refine ⟨hlt, ?_⟩
  by_cases e : r.length = l.length
  · exact .inr (a4 r (by omega) hs hH)
  · exact .inl e
/-- what a set of proofs has besides those that count -/
def moreL (now n s : Nat) : List Nat := (List.range n).filter fun i => s.testBit i && !now.testBit i
theorem filter_seq {now n : Nat} (P : Nat → Bool) (hP : ∀ i, i < n → P i = true → now.testBit i = false) : ∀ (k f : Nat), f + k = n → SeqV now n f ((List.range' f k).filter P)
  | 0, f, _ => trivial
  | k + 1, f, h => by
    rw [List.range'_succ, List.filter_cons]
    have ih := filter_seq P hP k (f + 1) (by omega)
    split
    · rename_i hp
      exact ⟨by omega, by omega, hP f (by omega) hp, ih⟩
    · exact ih.mono (by omega)
theorem more_seq (now n s : Nat) : SeqV now n 0 (moreL now n s) := by
  unfold moreL
  rw [List.range_eq_range']
  refine filter_seq _ (fun i _ h => ?_) n 0 (by omega)
  simp only [Bool.and_eq_true, Bool.not_eq_true'] at h
  exact h.2
end Go.Proofs.Ytdcodicoclecnaa
/- record: the search for proofs to renew. No conditions. -/
namespace Go.Proofs.Ytdcodicoclecnaa
open Go Go.RowKit Lift

/-- the last one that may be taken, below i -/
def lastK (now f : Nat) : Nat → Option Nat
  | 0 => none
  | i + 1 => if f ≤ i ∧ now.testBit i = false then some i else lastK now f i
/-- what is left of a search that found nothing -/
def stl (now n : Nat) : Nat → Nat → List Nat
  | 0, _ => []
  | m + 1, f => match lastK now f n with
    | none => []
    | some j => j :: stl now n m (j + 1)
def lkE (H : Nat → Bool) (now n m p f : Nat) : List Nat := match lookF H now n m p f with
  | some r => r
  | none => stl now n m f
def lkN (H : Nat → Bool) (now n m p f : Nat) : Nat := match lookF H now n m p f with
  | some r => r.length
  | none => 0
def ci (l : List Nat) : List Int := l.map fun i : Nat => (i : Int)
theorem ci_cons (i : Nat) (l : List Nat) : ci (i :: l) = [(i : Int)] ++ ci l := rfl
def hlB (c : Cas) (cl p : Nat) : Bool := holdC c cl p.testBit
theorem last_below {now f : Nat} : ∀ {i j : Nat}, i ≤ f → lastK now f i = some j → False
  | 0, _, _, h => by simp [lastK] at h
  | i + 1, j, hi, h => by
    rw [lastK, if_neg (by omega)] at h
    exact last_below (by omega) h
theorem last_none {now f : Nat} {i : Nat} (hi : i ≤ f) : lastK now f i = none := by
  cases h : lastK now f i with
  | none => rfl
  | some j => exact (last_below hi h).elim

def hpB (c : Cas) (cl now g : Nat) (L J : List Int) : Hp := [(0, [.list (cls c.cl), .list (sps c.pf)]), (8, [dI cl]), (16, [dI now]), (24, [.vec g L.length 1]), (32, [.fn 88 [] [.ptr 0 0, .ptr 8 0, .ptr 16 0, .ptr 24 0, .ptr 32 0]]), (g, icells (L ++ J))]
def upB (c : Cas) (cl now g : Nat) (L J : List Int) : List Nat → Nat → Ups
  | [], _ => [(0, some [.list (cls c.cl), .list (sps c.pf)]), (8, some [dI cl]), (16, some [dI now]), (24, some [.vec g L.length 1]), (32, some [.fn 88 [] [.ptr 0 0, .ptr 8 0, .ptr 16 0, .ptr 24 0, .ptr 32 0]]), (g, some (icells (L ++ J)))]
  | x :: E, e => [(0, some [.list (cls c.cl), .list (sps c.pf)]), (8, some [dI cl]), (16, some [dI now]), (24, some [.vec 296 (L.length + e) 1]), (32, some [.fn 88 [] [.ptr 0 0, .ptr 8 0, .ptr 16 0, .ptr 24 0, .ptr 32 0]]), (g, none), (296, some (icells (L ++ ci (x :: E))))]
def hpA (c : Cas) (cl now : Nat) : Hp := [(0, [.list (cls c.cl), .list (sps c.pf)]), (8, [dI cl]), (16, [dI now]), (24, [.val (.slice none 0 0)]), (32, [.fn 88 [] [.ptr 0 0, .ptr 8 0, .ptr 16 0, .ptr 24 0, .ptr 32 0]])]
def upA (c : Cas) (cl now : Nat) (L : List Int) : List Nat → Nat → Ups
  | [], _ => [(0, some [.list (cls c.cl), .list (sps c.pf)]), (8, some [dI cl]), (16, some [dI now]), (24, some [.val (.slice none 0 0)]), (32, some [.fn 88 [] [.ptr 0 0, .ptr 8 0, .ptr 16 0, .ptr 24 0, .ptr 32 0]])]
  | x :: E, e => [(0, some [.list (cls c.cl), .list (sps c.pf)]), (8, some [dI cl]), (16, some [dI now]), (24, some [.vec 296 (L.length + e) 1]), (32, some [.fn 88 [] [.ptr 0 0, .ptr 8 0, .ptr 16 0, .ptr 24 0, .ptr 32 0]]), (296, some (icells (L ++ ci (x :: E))))]
theorem fn_in : ∀ d ∈ ([.fn 88 [] [.ptr 0 0, .ptr 8 0, .ptr 16 0, .ptr 24 0, .ptr 32 0]] : List D), In (· < 200) d := by
  intro d hd
  simp at hd; subst hd
  exact .fn _ _ _ (by simp) (by intro d hd; simp at hd; rcases hd with rfl | rfl | rfl | rfl | rfl <;> exact .ptr _ _ (by omega))
theorem ca_in (c : Cas) : ∀ d ∈ ([.list (cls c.cl), .list (sps c.pf)] : List D), In (· < 200) d := by
  intro d hd; simp at hd; rcases hd with rfl | rfl <;> exact .list _
theorem one_in (n : Int) : ∀ d ∈ ([dI n] : List D), In (· < 200) d := by
  intro d hd; simp at hd; subst hd; exact .val _
theorem ic_ne {l : List Int} (h : l ≠ []) : (icells l).isEmpty = false := by cases l with
  | nil => exact absurd rfl h
  | cons x l => rfl
theorem look_succ (H : Nat → Bool) (now n m p f : Nat) : lookF H now n (m + 1) p f = (List.range n).findSome? fun i => if f ≤ i ∧ now.testBit i = false then (lookF H now n m (p ||| 2 ^ i) (i + 1)).map (i :: ·) else none := rfl
theorem or_lt {p i : Nat} (hp : p < 4096) (hi : i < 12) : p ||| 2 ^ i < 4096 := Nat.or_lt_two_pow (n := 12) hp (Nat.pow_lt_pow_right (by omega) hi)
end Go.Proofs.Ytdcodicoclecnaa
/- The document's Renew: which list comes before, and its parts. No conditions. -/
set_option linter.unusedSimpArgs false
set_option linter.unusedVariables false
namespace Go.Proofs.Ytdcodicoclecnaa
open Go Go.RowKit Lift

theorem ci_len (l : List Nat) : (ci l).length = l.length := by unfold ci; rw [List.length_map]
theorem ci_gd (l : List Nat) (k : Nat) (h : k < l.length) : (ints (ci l))[k]? = some [dI ((l[k]'h : Nat) : Int)] := by
  rw [ints_gd _ _ (by rw [ci_len]; exact h)]
  unfold ci
  simp [h, dI]
/-- the proofs that count, and some more of a set -/
def cnS (c : Cas) (tick : Int) (s k : Nat) : List Bool := (List.range c.pf.length).map fun j => cntT c tick j || (decide (j < k) && s.testBit j)
theorem cnS_at (c : Cas) (tick : Int) (s k j : Nat) (h : j < c.pf.length) : (cnS c tick s k)[j]?.getD false = (cntT c tick j || (decide (j < k) && s.testBit j)) := by
  unfold cnS; simp [h]
def moK (now s k : Nat) : List Nat := (List.range k).filter fun i => s.testBit i && !now.testBit i
theorem moK_t {now s k : Nat} (h : (s.testBit k && !now.testBit k) = true) : moK now s (k + 1) = moK now s k ++ [k] := by
  unfold moK
  rw [List.range_succ, List.filter_append, List.filter_cons, if_pos h]; rfl
theorem moK_f {now s k : Nat} (h : (s.testBit k && !now.testBit k) = false) : moK now s (k + 1) = moK now s k := by
  unfold moK
  rw [List.range_succ, List.filter_append, List.filter_cons, if_neg (by rw [h]; simp)]
  simp
theorem mo_holds {c : Cas} (hc : CasOk c) {cl : Nat} (hcl : cl < c.cl.length) (tick : Int) (s : Nat) : holdC c cl (fun j : Nat => (cnS c tick s c.pf.length)[j]?.getD false) = hlB c cl (maskN (cntN c tick) (moreL (cntN c tick) c.pf.length s)) := by
  unfold hlB
  refine holdC_same hc (fun j hj => ?_) hcl
  rw [cnS_at c tick s _ j hj, maskN_test, cntN_test, decide_eq_true hj, Bool.true_and]
  unfold moreL
  cases hb : cntT c tick j with
  | true => simp
  | false =>
    rw [Bool.false_or, Bool.false_or, Bool.eq_iff_iff, List.contains_iff_mem, List.mem_filter]
    simp [hj, cntN_test, hb]
end Go.Proofs.Ytdcodicoclecnaa
/- record: the search for proofs to renew, walked. No conditions. -/
set_option linter.unusedSimpArgs false
set_option linter.unusedVariables false
namespace Go.Proofs.Ytdcodicoclecnaa
open Go Go.RowKit Lift

set_option maxRecDepth 100000 in
set_option maxHeartbeats 8000000 in
theorem lookB_zero (c : Cas) (hc : CasOk c) (cl : Nat) (hcl : cl < c.cl.length) (now : Nat) (hnow : now < 4096) (p f : Nat) (L J : List Int) (hp : p < 4096) (hLm : L.length + (0) ≤ 1000) (hne : L ++ J ≠ []) : AC Try.prog 88 [dI p, dI f, dI 0, .ptr 0 0, .ptr 8 0, .ptr 16 0, .ptr 24 0, .ptr 32 0] (hpB c cl now 40 L J) (upB c cl now 40 L J (lkE (hlB c cl) now c.pf.length 0 p f) (lkN (hlB c cl) now c.pf.length 0 p f)) (dB (lookF (hlB c cl) now c.pf.length 0 p f).isSome) := by
  have hE : lkE (hlB c cl) now c.pf.length 0 p f = [] := by
    unfold lkE lookF
    cases h : hlB c cl p <;> simp [stl]
  have hS : (lookF (hlB c cl) now c.pf.length 0 p f).isSome = hlB c cl p := by
    unfold lookF
    cases h : hlB c cl p <;> simp
  rw [hE, hS]
  have hh := holds_ac c hc cl hcl p hp
  unfold hpB upB hlB
  have hie := ic_ne hne
  generalize holdC c cl p.testBit = V at *
  unfold casD at *
  have hcin := icells_in (L ++ J)
  refine krecord_Renew_S1.ac (n0 := 200) (by simp) ⟨.val _, .val _, .val _, .ptr _ _ (by omega), .ptr _ _ (by omega), .ptr _ _ (by omega), .ptr _ _ (by omega), .ptr _ _ (by omega), trivial⟩ ⟨⟨by omega, ca_in c⟩, ⟨by omega, one_in _⟩, ⟨by omega, one_in _⟩, ⟨by omega, by intro d hd; simp at hd; subst hd; exact .vec _ _ _ (by omega)⟩, ⟨by omega, fn_in⟩, ⟨by omega, fun d h => (icells_in _ d h).mono fun _ h => h.elim⟩, trivial⟩ (by simp [okUp, hie]) ?_
  unfold crecord_Renew_S1
  (have hg : (987654321 : Nat) - 987654321 = 0 := rfl; have hr := hg; repeat' (first | refine aw_seq ?_ | (refine aw_skip ?_; repeat' (first | with_reducible refine thenQ_n ?_ | with_reducible refine blockQ_n ?_ | with_reducible refine thenQ_e ?_ | with_reducible refine blockQ_t ?_ | with_reducible refine blockQ_f (by decide) ?_)) | (refine aw_exit ?_; repeat' (first | with_reducible refine thenQ_n ?_ | with_reducible refine blockQ_n ?_ | with_reducible refine thenQ_e ?_ | with_reducible refine blockQ_t ?_ | with_reducible refine blockQ_f (by decide) ?_)) | refine aw_ret ?_ | refine aw_block ?_ | refine aw_condT rfl ?_ | refine aw_condF rfl ?_ | ((first | refine aw_hide fun K hK => aw_region ?_ | refine acall0 (hh) ?_ | refine ago_if (by omega) ?_ | skip); simp (config := {maxSteps := 10000000}) (disch := first | exact okYes (by kernel_rfl) | omega) only [List.length, Nat.zero_add, Nat.reduceMul, Nat.reduceAdd, envOf, dI, ARun_none, AOpRun, aexec, FSt.ev, AGo_ok, St.app, putO, eput_c, Nat.reduceBEq, eput_n, cond_false, hups, List.map, ARun_nil, dropE_c, inL_n, dropE_n, St.F, eget_c, ↓eget_h, isSh, Bool.false_eq_true, ↓reduceIte, Option.map, abin, beq_self_eq_true, inL_c, cond_true, hget_c, hget_n, Nat.reduceLeDiff, List.drop, List.take, run1, ↓hget_h, List.getElem?_cons_zero, dB, thenQ]) | (subst hK; repeat' (first | with_reducible refine thenQ_n ?_ | with_reducible refine blockQ_n ?_ | with_reducible refine thenQ_e ?_ | with_reducible refine blockQ_t ?_ | with_reducible refine blockQ_f (by decide) ?_))))
  refine end_to [] [(0, 0), (8, 8), (16, 16), (24, 24), (32, 32), (40, 40)] (by first | exact .inl rfl | exact .inr rfl) rfl (by kernel_rfl) (by kernel_rfl) (by kernel_rfl) ?_ ?_ <;> repeat' (first | exact trivial | exact vr_val _ | exact vr_list _ | exact vr_vec _ _ _ _ rfl | exact vr_ptr _ _ _ rfl | apply vr_fn | refine And.intro ⟨_, rfl, _, rfl, by decide, ?_⟩ ?_ | apply And.intro | exact vrl_flat _ (by first | exact icells_in _ | exact rcells_in _ | exact scells_in _ | exact bcells_in _ | assumption))
set_option maxRecDepth 100000 in
set_option maxHeartbeats 8000000 in
theorem lookC_zero (c : Cas) (hc : CasOk c) (cl : Nat) (hcl : cl < c.cl.length) (now : Nat) (hnow : now < 4096) (p f : Nat) (L J : List Int) (hp : p < 4096) (hLm : L.length + (0) ≤ 1000) (hne : L ++ J ≠ []) : AC Try.prog 88 [dI p, dI f, dI 0, .ptr 0 0, .ptr 8 0, .ptr 16 0, .ptr 24 0, .ptr 32 0] (hpB c cl now 48 L J) (upB c cl now 48 L J (lkE (hlB c cl) now c.pf.length 0 p f) (lkN (hlB c cl) now c.pf.length 0 p f)) (dB (lookF (hlB c cl) now c.pf.length 0 p f).isSome) := by
  have hE : lkE (hlB c cl) now c.pf.length 0 p f = [] := by
    unfold lkE lookF
    cases h : hlB c cl p <;> simp [stl]
  have hS : (lookF (hlB c cl) now c.pf.length 0 p f).isSome = hlB c cl p := by
    unfold lookF
    cases h : hlB c cl p <;> simp
  rw [hE, hS]
  have hh := holds_ac c hc cl hcl p hp
  unfold hpB upB hlB
  have hie := ic_ne hne
  generalize holdC c cl p.testBit = V at *
  unfold casD at *
  have hcin := icells_in (L ++ J)
  refine krecord_Renew_S1.ac (n0 := 200) (by simp) ⟨.val _, .val _, .val _, .ptr _ _ (by omega), .ptr _ _ (by omega), .ptr _ _ (by omega), .ptr _ _ (by omega), .ptr _ _ (by omega), trivial⟩ ⟨⟨by omega, ca_in c⟩, ⟨by omega, one_in _⟩, ⟨by omega, one_in _⟩, ⟨by omega, by intro d hd; simp at hd; subst hd; exact .vec _ _ _ (by omega)⟩, ⟨by omega, fn_in⟩, ⟨by omega, fun d h => (icells_in _ d h).mono fun _ h => h.elim⟩, trivial⟩ (by simp [okUp, hie]) ?_
  unfold crecord_Renew_S1
  (have hg : (987654321 : Nat) - 987654321 = 0 := rfl; have hr := hg; repeat' (first | refine aw_seq ?_ | (refine aw_skip ?_; repeat' (first | with_reducible refine thenQ_n ?_ | with_reducible refine blockQ_n ?_ | with_reducible refine thenQ_e ?_ | with_reducible refine blockQ_t ?_ | with_reducible refine blockQ_f (by decide) ?_)) | (refine aw_exit ?_; repeat' (first | with_reducible refine thenQ_n ?_ | with_reducible refine blockQ_n ?_ | with_reducible refine thenQ_e ?_ | with_reducible refine blockQ_t ?_ | with_reducible refine blockQ_f (by decide) ?_)) | refine aw_ret ?_ | refine aw_block ?_ | refine aw_condT rfl ?_ | refine aw_condF rfl ?_ | ((first | refine aw_hide fun K hK => aw_region ?_ | refine acall0 (hh) ?_ | refine ago_if (by omega) ?_ | skip); simp (config := {maxSteps := 10000000}) (disch := first | exact okYes (by kernel_rfl) | omega) only [List.length, Nat.zero_add, Nat.reduceMul, Nat.reduceAdd, envOf, dI, ARun_none, AOpRun, aexec, FSt.ev, AGo_ok, St.app, putO, eput_c, Nat.reduceBEq, eput_n, cond_false, hups, List.map, ARun_nil, dropE_c, inL_n, dropE_n, St.F, eget_c, ↓eget_h, isSh, Bool.false_eq_true, ↓reduceIte, Option.map, abin, beq_self_eq_true, inL_c, cond_true, hget_c, hget_n, Nat.reduceLeDiff, List.drop, List.take, run1, ↓hget_h, List.getElem?_cons_zero, dB, thenQ]) | (subst hK; repeat' (first | with_reducible refine thenQ_n ?_ | with_reducible refine blockQ_n ?_ | with_reducible refine thenQ_e ?_ | with_reducible refine blockQ_t ?_ | with_reducible refine blockQ_f (by decide) ?_))))
  refine end_to [] [(0, 0), (8, 8), (16, 16), (24, 24), (32, 32), (48, 48)] (by first | exact .inl rfl | exact .inr rfl) rfl (by kernel_rfl) (by kernel_rfl) (by kernel_rfl) ?_ ?_ <;> repeat' (first | exact trivial | exact vr_val _ | exact vr_list _ | exact vr_vec _ _ _ _ rfl | exact vr_ptr _ _ _ rfl | apply vr_fn | refine And.intro ⟨_, rfl, _, rfl, by decide, ?_⟩ ?_ | apply And.intro | exact vrl_flat _ (by first | exact icells_in _ | exact rcells_in _ | exact scells_in _ | exact bcells_in _ | assumption))
set_option maxRecDepth 100000 in
set_option maxHeartbeats 8000000 in
theorem lookA_zero (c : Cas) (hc : CasOk c) (cl : Nat) (hcl : cl < c.cl.length) (now : Nat) (hnow : now < 4096) (p f : Nat) (L : List Int) (hL : L = []) (hp : p < 4096) (hLm : L.length + (0) ≤ 1000) : AC Try.prog 88 [dI p, dI f, dI 0, .ptr 0 0, .ptr 8 0, .ptr 16 0, .ptr 24 0, .ptr 32 0] (hpA c cl now) (upA c cl now L (lkE (hlB c cl) now c.pf.length 0 p f) (lkN (hlB c cl) now c.pf.length 0 p f)) (dB (lookF (hlB c cl) now c.pf.length 0 p f).isSome) := by
  have hE : lkE (hlB c cl) now c.pf.length 0 p f = [] := by
    unfold lkE lookF
    cases h : hlB c cl p <;> simp [stl]
  have hS : (lookF (hlB c cl) now c.pf.length 0 p f).isSome = hlB c cl p := by
    unfold lookF
    cases h : hlB c cl p <;> simp
  rw [hE, hS]
  have hh := holds_ac c hc cl hcl p hp
  unfold hpA upA hlB
  generalize holdC c cl p.testBit = V at *
  unfold casD at *
  refine krecord_Renew_S1.ac (n0 := 200) (by simp) ⟨.val _, .val _, .val _, .ptr _ _ (by omega), .ptr _ _ (by omega), .ptr _ _ (by omega), .ptr _ _ (by omega), .ptr _ _ (by omega), trivial⟩ ⟨⟨by omega, ca_in c⟩, ⟨by omega, one_in _⟩, ⟨by omega, one_in _⟩, ⟨by omega, by intro d hd; simp at hd; subst hd; exact .val _⟩, ⟨by omega, fn_in⟩, trivial⟩ (by simp [okUp]) ?_
  unfold crecord_Renew_S1
  (have hg : (987654321 : Nat) - 987654321 = 0 := rfl; have hr := hg; repeat' (first | refine aw_seq ?_ | (refine aw_skip ?_; repeat' (first | with_reducible refine thenQ_n ?_ | with_reducible refine blockQ_n ?_ | with_reducible refine thenQ_e ?_ | with_reducible refine blockQ_t ?_ | with_reducible refine blockQ_f (by decide) ?_)) | (refine aw_exit ?_; repeat' (first | with_reducible refine thenQ_n ?_ | with_reducible refine blockQ_n ?_ | with_reducible refine thenQ_e ?_ | with_reducible refine blockQ_t ?_ | with_reducible refine blockQ_f (by decide) ?_)) | refine aw_ret ?_ | refine aw_block ?_ | refine aw_condT rfl ?_ | refine aw_condF rfl ?_ | ((first | refine aw_hide fun K hK => aw_region ?_ | refine acall0 (hh) ?_ | refine ago_if (by omega) ?_ | skip); simp (config := {maxSteps := 10000000}) (disch := first | exact okYes (by kernel_rfl) | omega) only [List.length, Nat.zero_add, Nat.reduceMul, Nat.reduceAdd, envOf, dI, ARun_none, AOpRun, aexec, FSt.ev, AGo_ok, St.app, putO, eput_c, Nat.reduceBEq, eput_n, cond_false, hups, List.map, ARun_nil, dropE_c, inL_n, dropE_n, St.F, eget_c, ↓eget_h, isSh, Bool.false_eq_true, ↓reduceIte, Option.map, abin, beq_self_eq_true, inL_c, cond_true, hget_c, hget_n, Nat.reduceLeDiff, List.drop, List.take, run1, ↓hget_h, List.getElem?_cons_zero, dB, thenQ]) | (subst hK; repeat' (first | with_reducible refine thenQ_n ?_ | with_reducible refine blockQ_n ?_ | with_reducible refine thenQ_e ?_ | with_reducible refine blockQ_t ?_ | with_reducible refine blockQ_f (by decide) ?_))))
  refine end_to [] [(0, 0), (8, 8), (16, 16), (24, 24), (32, 32)] (by first | exact .inl rfl | exact .inr rfl) rfl (by kernel_rfl) (by kernel_rfl) (by kernel_rfl) ?_ ?_ <;> repeat' (first | exact trivial | exact vr_val _ | exact vr_list _ | exact vr_ptr _ _ _ rfl | apply vr_fn | refine And.intro ⟨_, rfl, _, rfl, by decide, ?_⟩ ?_ | apply And.intro)
end Go.Proofs.Ytdcodicoclecnaa
/- record: a round of the search for proofs to renew, walked. No conditions. -/
set_option linter.unusedSimpArgs false
set_option linter.unusedVariables false
namespace Go.Proofs.Ytdcodicoclecnaa
open Go Go.RowKit Lift

set_option maxRecDepth 100000 in
set_option maxHeartbeats 8000000 in
theorem lookA_succ (c : Cas) (hc : CasOk c) (cl : Nat) (hcl : cl < c.cl.length) (now : Nat) (hnow : now < 4096) (m : Nat) (ih : ∀ (p f : Nat) (L J : List Int), p < 4096 → L.length + m ≤ 1000 → L ++ J ≠ [] → AC Try.prog 88 [dI p, dI f, dI m, .ptr 0 0, .ptr 8 0, .ptr 16 0, .ptr 24 0, .ptr 32 0] (hpB c cl now 40 L J) (upB c cl now 40 L J (lkE (hlB c cl) now c.pf.length m p f) (lkN (hlB c cl) now c.pf.length m p f)) (dB (lookF (hlB c cl) now c.pf.length m p f).isSome)) (p f : Nat) (L : List Int) (hL : L = []) (hp : p < 4096) (hLm : L.length + (m + 1) ≤ 1000) : AC Try.prog 88 [dI p, dI f, dI ((m + 1 : Nat) : Int), .ptr 0 0, .ptr 8 0, .ptr 16 0, .ptr 24 0, .ptr 32 0] (hpA c cl now) (upA c cl now L (lkE (hlB c cl) now c.pf.length (m + 1) p f) (lkN (hlB c cl) now c.pf.length (m + 1) p f)) (dB (lookF (hlB c cl) now c.pf.length (m + 1) p f).isSome) := by
  have n2 := hc.n2
  have pfl := sps_len c.pf
  have hlk := look_succ (hlB c cl) now c.pf.length m p f
  generalize hG : (fun i : Nat => if f ≤ i ∧ now.testBit i = false then (lookF (hlB c cl) now c.pf.length m (p ||| 2 ^ i) (i + 1)).map (i :: ·) else none) = G at hlk
  have hGi : ∀ i : Nat, G i = if f ≤ i ∧ now.testBit i = false then (lookF (hlB c cl) now c.pf.length m (p ||| 2 ^ i) (i + 1)).map (i :: ·) else none := fun i => by rw [← hG]
  clear hG
  have hG0 : ∀ j, j < f → G j = none := fun j hj => by rw [hGi, if_neg (by omega)]
  have hokU : ∀ E e, okUp (hpA c cl now) (upA c cl now L E e) = true := by
    intro E e
    skip
    cases E <;> simp [okUp, hpA, upA]
  have hup : ∀ r, lookF (hlB c cl) now c.pf.length (m + 1) p f = some r → lkE (hlB c cl) now c.pf.length (m + 1) p f = r ∧ lkN (hlB c cl) now c.pf.length (m + 1) p f = r.length := fun r hr => by unfold lkE lkN; rw [hr]; exact ⟨rfl, rfl⟩
  have hun : lookF (hlB c cl) now c.pf.length (m + 1) p f = none → lkE (hlB c cl) now c.pf.length (m + 1) p f = stl now c.pf.length (m + 1) f ∧ lkN (hlB c cl) now c.pf.length (m + 1) p f = 0 := fun hr => by unfold lkE lkN; rw [hr]; exact ⟨rfl, rfl⟩
  generalize hEE : lkE (hlB c cl) now c.pf.length (m + 1) p f = EE at *
  generalize hNN : lkN (hlB c cl) now c.pf.length (m + 1) p f = NN at *
  generalize hLL : lookF (hlB c cl) now c.pf.length (m + 1) p f = LL at *
  have em : ((m + 1 : Nat) : Int) - 1 = (m : Int) := by omega
  have hm0 : (((m + 1 : Nat) : Int) == 0) = false := by simp only [beq_eq_false_iff_ne]; omega
  refine krecord_Renew_S1.ac (n0 := 200) (by simp) ⟨.val _, .val _, .val _, .ptr _ _ (by omega), .ptr _ _ (by omega), .ptr _ _ (by omega), .ptr _ _ (by omega), .ptr _ _ (by omega), trivial⟩ ⟨⟨by omega, ca_in c⟩, ⟨by omega, one_in _⟩, ⟨by omega, one_in _⟩, ⟨by omega, by intro d hd; simp at hd; subst hd; exact .val _⟩, ⟨by omega, fn_in⟩, trivial⟩ (hokU EE NN) ?_
  clear hokU
  unfold crecord_Renew_S1 hpA
  (have hg : (987654321 : Nat) - 987654321 = 0 := rfl; have hr := hg; repeat' (first | refine aw_seq ?_ | (refine aw_skip ?_; repeat' (first | with_reducible refine thenQ_n ?_ | with_reducible refine blockQ_n ?_ | with_reducible refine thenQ_e ?_ | with_reducible refine blockQ_t ?_ | with_reducible refine blockQ_f (by decide) ?_)) | (refine aw_exit ?_; repeat' (first | with_reducible refine thenQ_n ?_ | with_reducible refine blockQ_n ?_ | with_reducible refine thenQ_e ?_ | with_reducible refine blockQ_t ?_ | with_reducible refine blockQ_f (by decide) ?_)) | refine aw_ret ?_ | refine aw_block ?_ | refine aw_condT rfl ?_ | refine aw_condF rfl ?_ | ((first | refine aw_hide fun K hK => aw_region ?_ | refine ago_if (by omega) ?_ | skip); simp (config := {maxSteps := 10000000}) (disch := first | exact okYes (by kernel_rfl) | omega) only [List.length, Nat.zero_add, Nat.reduceMul, Nat.reduceAdd, envOf, dI, ARun_none, AOpRun, aexec, FSt.ev, AGo_ok, St.app, putO, eput_c, Nat.reduceBEq, eput_n, cond_false, hups, List.map, ARun_nil, dropE_c, inL_n, dropE_n, St.F, eget_c, ↓eget_h, isSh, Bool.false_eq_true, ↓reduceIte, Option.map, abin, hm0, inL_c, beq_self_eq_true, cond_true, dB, Option.isSome]) | (subst hK; repeat' (first | with_reducible refine thenQ_n ?_ | with_reducible refine blockQ_n ?_ | with_reducible refine thenQ_e ?_ | with_reducible refine blockQ_t ?_ | with_reducible refine blockQ_f (by decide) ?_))))
  refine aw_loop (fun i : Nat => match lastK now f i with
    | none => ⟨[(0, dI p), (2, dI ((m + 1 : Nat) : Int)), (3, .ptr 0 0), (4, .ptr 8 0), (5, .ptr 16 0), (6, .ptr 24 0), (7, .ptr 32 0), (12, dI i)], [(0, [.list (cls c.cl), .list (sps c.pf)]), (8, [dI cl]), (16, [dI now]), (24, [.val (.slice none 0 0)]), (32, [.fn 88 [] [.ptr 0 0, .ptr 8 0, .ptr 16 0, .ptr 24 0, .ptr 32 0]])], 600⟩
    | some j => ⟨[(0, dI p), (2, dI ((m + 1 : Nat) : Int)), (3, .ptr 0 0), (4, .ptr 8 0), (5, .ptr 16 0), (6, .ptr 24 0), (7, .ptr 32 0), (12, dI i)], [(0, [.list (cls c.cl), .list (sps c.pf)]), (8, [dI cl]), (16, [dI now]), (24, [.vec 500 L.length 1]), (32, [.fn 88 [] [.ptr 0 0, .ptr 8 0, .ptr 16 0, .ptr 24 0, .ptr 32 0]]), (500, icells (L ++ ci (j :: stl now c.pf.length m (j + 1))))], 600⟩) (fun i => f ≤ i ∧ (i ≤ c.pf.length ∨ i = f) ∧ ∀ j, j < i → G j = none) (fun i => c.pf.length - i) ⟨f, ⟨Nat.le_refl _, .inr rfl, hG0⟩, ?_⟩ ?_
  · show Wk _ _ (match lastK now f f with
    | none => _
    | some j => _)
    rw [last_none (Nat.le_refl f)]
    unfold dI
    refine wk_to [] [(0, 0), (8, 8), (16, 16), (24, 24), (32, 32)] (by kernel_rfl) (by kernel_rfl) (by kernel_rfl) (by kernel_rfl) (by kernel_rfl) ?_ ?_ <;> repeat' (first | exact trivial | exact vr_val _ | exact vr_list _ | exact vr_ptr _ _ _ rfl | apply vr_fn | refine And.intro ⟨_, rfl, .inl ⟨_, rfl, by decide, ?_⟩⟩ ?_ | apply And.intro)
  rintro i ⟨hfi, hif, hin⟩
  by_cases hi2 : i < c.pf.length
  case neg =>
    have hl : lastK now f i = lastK now f c.pf.length := by
      rcases (by omega : i = c.pf.length ∨ (i = f ∧ c.pf.length ≤ f)) with rfl | ⟨rfl, h⟩
      · rfl
      · rw [last_none (Nat.le_refl _), last_none h]
    rw [hl]
    have hgn : LL = none := by rw [hlk]; exact first_none fun j hj => hin j (by omega)
    obtain ⟨e1, e2⟩ := hun hgn
    rw [e1, e2, hgn]
    clear e1 e2 hgn hEE hNN hLL hup hun hlk hGi hG0 hin ih
    have ki : decide ((i : Int) < (c.pf.length : Int)) = false := decide_eq_false (by omega)
    cases hk : lastK now f c.pf.length with
    | none =>
      have hs : stl now c.pf.length (m + 1) f = [] := by rw [stl, hk]
      rw [hs]
      dsimp only [upA, Option.isSome_none]
      (have hg : (987654321 : Nat) - 987654321 = 0 := rfl; have hr := hg; repeat' (first | refine aw_seq ?_ | (refine aw_skip ?_; repeat' (first | with_reducible refine thenQ_n ?_ | with_reducible refine blockQ_n ?_ | with_reducible refine thenQ_e ?_ | with_reducible refine blockQ_t ?_ | with_reducible refine blockQ_f (by decide) ?_)) | (refine aw_exit ?_; repeat' (first | with_reducible refine thenQ_n ?_ | with_reducible refine blockQ_n ?_ | with_reducible refine thenQ_e ?_ | with_reducible refine blockQ_t ?_ | with_reducible refine blockQ_f (by decide) ?_)) | refine aw_ret ?_ | refine aw_block ?_ | refine aw_condT rfl ?_ | refine aw_condF rfl ?_ | ((first | refine aw_hide fun K hK => aw_region ?_ | refine ago_if (by omega) ?_ | skip); simp (config := {maxSteps := 10000000}) (disch := first | exact okYes (by kernel_rfl) | omega) only [List.length, Nat.zero_add, Nat.reduceAdd, Nat.reduceMul, dI, ARun_none, AOpRun, aexec, FSt.ev, St.F, eget_c, Nat.reduceBEq, ↓eget_h, cond_false, AGo_ok, St.app, putO, eput_c, eput_n, hups, List.map, Option.map, run1, hget_c, beq_self_eq_true, hget_n, cond_true, List.getElem?_cons_succ, List.getElem?_cons_zero, pfl, isSh, Bool.false_eq_true, ↓reduceIte, abin, ki, ARun_nil, dropE_c, inL_c, inL_n, dropE_n]) | (subst hK; repeat' (first | with_reducible refine thenQ_n ?_ | with_reducible refine blockQ_n ?_ | with_reducible refine thenQ_e ?_ | with_reducible refine blockQ_t ?_ | with_reducible refine blockQ_f (by decide) ?_))))
      refine end_to [] [(0, 0), (8, 8), (16, 16), (24, 24), (32, 32)] (by first | exact .inl rfl | exact .inr rfl) rfl (by kernel_rfl) (by kernel_rfl) (by kernel_rfl) ?_ ?_ <;> repeat' (first | exact trivial | exact vr_val _ | exact vr_list _ | exact vr_ptr _ _ _ rfl | apply vr_fn | refine And.intro ⟨_, rfl, _, rfl, by decide, ?_⟩ ?_ | apply And.intro)
    | some j =>
      have hs : stl now c.pf.length (m + 1) f = j :: stl now c.pf.length m (j + 1) := by rw [stl, hk]
      rw [hs]
      dsimp only [upA, Option.isSome_none]
      rw [Nat.add_zero]
      generalize stl now c.pf.length m (j + 1) = Z at *
      have hcin := icells_in (L ++ ci (j :: Z))
      (have hg : (987654321 : Nat) - 987654321 = 0 := rfl; have hr := hg; repeat' (first | refine aw_seq ?_ | (refine aw_skip ?_; repeat' (first | with_reducible refine thenQ_n ?_ | with_reducible refine blockQ_n ?_ | with_reducible refine thenQ_e ?_ | with_reducible refine blockQ_t ?_ | with_reducible refine blockQ_f (by decide) ?_)) | (refine aw_exit ?_; repeat' (first | with_reducible refine thenQ_n ?_ | with_reducible refine blockQ_n ?_ | with_reducible refine thenQ_e ?_ | with_reducible refine blockQ_t ?_ | with_reducible refine blockQ_f (by decide) ?_)) | refine aw_ret ?_ | refine aw_block ?_ | refine aw_condT rfl ?_ | refine aw_condF rfl ?_ | ((first | refine aw_hide fun K hK => aw_region ?_ | refine ago_if (by omega) ?_ | skip); simp (config := {maxSteps := 10000000}) (disch := first | exact okYes (by kernel_rfl) | omega) only [List.length, Nat.zero_add, Nat.reduceAdd, Nat.reduceMul, dI, ARun_none, AOpRun, aexec, FSt.ev, St.F, eget_c, Nat.reduceBEq, ↓eget_h, cond_false, AGo_ok, St.app, putO, eput_c, eput_n, hups, List.map, Option.map, run1, hget_c, beq_self_eq_true, hget_n, cond_true, List.getElem?_cons_succ, List.getElem?_cons_zero, pfl, isSh, Bool.false_eq_true, ↓reduceIte, abin, ki, ARun_nil, dropE_c, inL_c, inL_n, dropE_n]) | (subst hK; repeat' (first | with_reducible refine thenQ_n ?_ | with_reducible refine blockQ_n ?_ | with_reducible refine thenQ_e ?_ | with_reducible refine blockQ_t ?_ | with_reducible refine blockQ_f (by decide) ?_))))
      refine end_to [] [(0, 0), (8, 8), (16, 16), (24, 24), (32, 32), (296, 500)] (by first | exact .inl rfl | exact .inr rfl) rfl (by kernel_rfl) (by kernel_rfl) (by kernel_rfl) ?_ ?_ <;> repeat' (first | exact trivial | exact vr_val _ | exact vr_list _ | exact vr_vec _ _ _ _ rfl | exact vr_ptr _ _ _ rfl | apply vr_fn | refine And.intro ⟨_, rfl, _, rfl, by decide, ?_⟩ ?_ | apply And.intro | exact vrl_flat _ (by first | exact icells_in _ | exact rcells_in _ | exact scells_in _ | exact bcells_in _ | assumption))
  have hno : now.testBit i = true → G i = none := fun h => by rw [hGi, if_neg (by simp [h])]
  have hin1 : G i = none → ∀ j, j < i + 1 → G j = none := fun h j hj => by
    rcases (by omega : j < i ∨ j = i) with h1 | rfl
    · exact hin j h1
    · exact h
  have ki : (i : Int) < (c.pf.length : Int) := by omega
  have w := phas_ac now i hnow (by omega)
  have w2 := pwith_ac p i hp (by omega)
  cases hb : now.testBit i with
  | true =>
    rw [hb] at w
    have hl1 : lastK now f (i + 1) = lastK now f i := by
      show (if _ then _ else _) = _
      rw [if_neg (by simp [hb])]
    have hnx := hin1 (hno hb)
    clear hEE hNN hLL hup hun hlk hGi hG0 hin ih
    cases hk : lastK now f i with
    | none =>
      dsimp only
      (have hg : (987654321 : Nat) - 987654321 = 0 := rfl; have hr := hg; repeat' (first | refine aw_seq ?_ | (refine aw_skip ?_; repeat' (first | with_reducible refine thenQ_n ?_ | with_reducible refine blockQ_n ?_ | with_reducible refine thenQ_e ?_ | with_reducible refine blockQ_t ?_ | with_reducible refine blockQ_f (by decide) ?_)) | (refine aw_exit ?_; repeat' (first | with_reducible refine thenQ_n ?_ | with_reducible refine blockQ_n ?_ | with_reducible refine thenQ_e ?_ | with_reducible refine blockQ_t ?_ | with_reducible refine blockQ_f (by decide) ?_)) | refine aw_ret ?_ | refine aw_block ?_ | refine aw_condT rfl ?_ | refine aw_condF rfl ?_ | ((first | refine aw_hide fun K hK => aw_region ?_ | refine acall0 (w) ?_ | refine ago_if (by omega) ?_ | skip); simp (config := {maxSteps := 10000000}) (disch := first | exact okYes (by kernel_rfl) | omega) only [List.length, Nat.zero_add, Nat.reduceAdd, Nat.reduceMul, dI, ARun_none, AOpRun, aexec, FSt.ev, St.F, eget_c, Nat.reduceBEq, ↓eget_h, cond_false, AGo_ok, St.app, putO, eput_c, eput_n, hups, List.map, Option.map, run1, hget_c, beq_self_eq_true, hget_n, cond_true, List.getElem?_cons_succ, List.getElem?_cons_zero, pfl, isSh, Bool.false_eq_true, ↓reduceIte, abin, ki, decide_true, ARun_nil, dropE_c, inL_c, inL_n, dropE_n, ↓hget_h, dB, fits]) | (subst hK; repeat' (first | with_reducible refine thenQ_n ?_ | with_reducible refine blockQ_n ?_ | with_reducible refine thenQ_e ?_ | with_reducible refine blockQ_t ?_ | with_reducible refine blockQ_f (by decide) ?_))))
      refine ⟨i + 1, ⟨by omega, .inl (by omega), hnx⟩, by omega, ?_⟩
      rw [hl1, hk]
      refine wk_to [] [(0, 0), (8, 8), (16, 16), (24, 24), (32, 32)] (by kernel_rfl) (by kernel_rfl) (by kernel_rfl) (by kernel_rfl) (by kernel_rfl) ?_ ?_ <;> repeat' (first | exact trivial | exact vr_val _ | exact vr_list _ | exact vr_ptr _ _ _ rfl | apply vr_fn | refine And.intro ⟨_, rfl, .inl ⟨_, rfl, by decide, ?_⟩⟩ ?_ | apply And.intro)
    | some j =>
      dsimp only
      generalize hC : L ++ ci (j :: stl now c.pf.length m (j + 1)) = C at *
      have hcin := icells_in C
      (have hg : (987654321 : Nat) - 987654321 = 0 := rfl; have hr := hg; repeat' (first | refine aw_seq ?_ | (refine aw_skip ?_; repeat' (first | with_reducible refine thenQ_n ?_ | with_reducible refine blockQ_n ?_ | with_reducible refine thenQ_e ?_ | with_reducible refine blockQ_t ?_ | with_reducible refine blockQ_f (by decide) ?_)) | (refine aw_exit ?_; repeat' (first | with_reducible refine thenQ_n ?_ | with_reducible refine blockQ_n ?_ | with_reducible refine thenQ_e ?_ | with_reducible refine blockQ_t ?_ | with_reducible refine blockQ_f (by decide) ?_)) | refine aw_ret ?_ | refine aw_block ?_ | refine aw_condT rfl ?_ | refine aw_condF rfl ?_ | ((first | refine aw_hide fun K hK => aw_region ?_ | refine acall0 (w) ?_ | refine ago_if (by omega) ?_ | skip); simp (config := {maxSteps := 10000000}) (disch := first | exact okYes (by kernel_rfl) | omega) only [List.length, Nat.zero_add, Nat.reduceAdd, Nat.reduceMul, dI, ARun_none, AOpRun, aexec, FSt.ev, St.F, eget_c, Nat.reduceBEq, ↓eget_h, cond_false, AGo_ok, St.app, putO, eput_c, eput_n, hups, List.map, Option.map, run1, hget_c, beq_self_eq_true, hget_n, cond_true, List.getElem?_cons_succ, List.getElem?_cons_zero, pfl, isSh, Bool.false_eq_true, ↓reduceIte, abin, ki, decide_true, ARun_nil, dropE_c, inL_c, inL_n, dropE_n, ↓hget_h, dB, fits]) | (subst hK; repeat' (first | with_reducible refine thenQ_n ?_ | with_reducible refine blockQ_n ?_ | with_reducible refine thenQ_e ?_ | with_reducible refine blockQ_t ?_ | with_reducible refine blockQ_f (by decide) ?_))))
      refine ⟨i + 1, ⟨by omega, .inl (by omega), hnx⟩, by omega, ?_⟩
      rw [hl1, hk]
      dsimp only
      rw [hC]
      refine wk_to [] [(0, 0), (8, 8), (16, 16), (24, 24), (32, 32), (500, 500)] (by kernel_rfl) (by kernel_rfl) (by kernel_rfl) (by kernel_rfl) (by kernel_rfl) ?_ ?_ <;> repeat' (first | exact trivial | exact vr_val _ | exact vr_list _ | exact vr_vec _ _ _ _ rfl | exact vr_ptr _ _ _ rfl | apply vr_fn | refine And.intro ⟨_, rfl, .inl ⟨_, rfl, by decide, ?_⟩⟩ ?_ | apply And.intro | exact vrl_flat _ (by first | exact icells_in _ | exact rcells_in _ | exact scells_in _ | exact bcells_in _ | assumption))
  | false =>
  rw [hb] at w
  have hl1 : lastK now f (i + 1) = some i := by
    show (if _ then _ else _) = _
    rw [if_pos ⟨hfi, hb⟩]
  have hGp : G i = (lookF (hlB c cl) now c.pf.length m (p ||| 2 ^ i) (i + 1)).map (i :: ·) := by rw [hGi, if_pos ⟨hfi, hb⟩]
  have ihx := ih (p ||| 2 ^ i) (i + 1) (L ++ [(i : Int)]) [] (or_lt hp (by omega)) (by rw [List.length_append, List.length_singleton]; omega) (by simp)
  unfold hpB at ihx
  rw [List.append_nil, ← ic_app, show ((i + 1 : Nat) : Int) = (i : Int) + 1 by omega] at ihx
  rw [show (L ++ [(i : Int)]).length = L.length + 1 by simp] at ihx
  have hct : ∀ K : List Int, (icells (L ++ K)).take L.length = icells L := fun K => by
    unfold icells
    rw [List.map_append, List.take_append_of_le_length (by simp), List.take_of_length_le (by simp)]
  have hle : ∀ K : List Int, L.length ≤ (icells (L ++ K)).length := fun K => by rw [icells_len, List.length_append]; omega
  have hlf : (icells L).all D.leaf = true := icells_leaf L
  have hin2 : ∀ y ∈ icells L ++ [.val (.int .i64 (i : Int))], In (fun _ => False) y := by rw [ic_app]; exact icells_in _
  clear hGi hG0 hno ih
  cases hk : lastK now f i
  all_goals dsimp only
  case' some j =>
    have hct := hct (ci (j :: stl now c.pf.length m (j + 1)))
    have hle := hle (ci (j :: stl now c.pf.length m (j + 1)))
    have hcin := icells_in (L ++ ci (j :: stl now c.pf.length m (j + 1)))
    generalize icells (L ++ ci (j :: stl now c.pf.length m (j + 1))) = CK at *
  all_goals
    clear hk
    refine aw_seq (aw_seq (aw_region ?_))
    simp (config := {maxSteps := 10000000}) (disch := first | exact okYes (by kernel_rfl) | omega) only [thenQ, dI, List.length, Nat.zero_add, Nat.reduceAdd, Nat.reduceMul, ARun_none, AOpRun, aexec, FSt.ev, St.F, eget_c, Nat.reduceBEq, ↓eget_h, cond_false, AGo_ok, St.app, putO, eput_c, eput_n, hups, List.map, Option.map, run1, hget_c, beq_self_eq_true, hget_n, cond_true, List.getElem?_cons_succ, List.getElem?_cons_zero, pfl, isSh, Bool.false_eq_true, ↓reduceIte, abin, ki, decide_true, ARun_nil, dropE_c, inL_c, inL_n, dropE_n]
    refine aw_condT rfl (aw_skip ?_)
    refine aw_seq (aw_block (aw_seq (aw_seq (aw_region ?_))))
    simp (config := {maxSteps := 10000000}) (disch := first | exact okYes (by kernel_rfl) | omega) only [thenQ, List.length, Nat.zero_add, Nat.reduceAdd, Nat.reduceMul, ARun_none, AOpRun, aexec, Option.map, run1, FSt.ev, St.F, eget_c, Nat.reduceBEq, ↓eget_h, cond_false, hget_c, ↓hget_h, List.getElem?_cons_zero, AGo_ok, St.app, putO, eput_c, eput_n, hups, List.map]
    refine acall0 w ?_
    simp (config := {maxSteps := 10000000}) (disch := first | exact okYes (by kernel_rfl) | omega) only [Nat.reduceAdd, St.app, putO, dB, eput_c, Nat.reduceBEq, eput_n, cond_false, hups, ARun_nil, dropE_c, inL_c, inL_n, beq_self_eq_true, cond_true, dropE_n]
    refine aw_condF rfl (aw_skip ?_)
    refine aw_seq (aw_region ?_)
    simp (config := {maxSteps := 10000000}) (disch := first | exact okYes (by kernel_rfl) | omega) only [thenQ, List.length, Nat.zero_add, Nat.reduceAdd, Nat.reduceMul, ARun_none, AOpRun, aexec, Option.map, run1, FSt.ev, St.F, eget_c, Nat.reduceBEq, ↓eget_h, cond_false, hget_c, ↓hget_h, List.getElem?_cons_zero, AGo_ok, St.app, putO, eput_c, eput_n, hups, List.map, Option.isSome, hget_n, Bool.false_eq_true, ↓reduceIte, fillD, D.isBot, D.cells, ne_eq, not_true_eq_false, Nat.reduceGT, or_self, splice, List.take, List.nil_append, List.drop, List.append_nil, hput_c, hput_n, base, Nat.mul_one, hle, and_self, hct, elems, Nat.reduceLeDiff, List.all, D.leaf, Bool.and_true, and_true, ups, List.cons_append]
    refine ago_if (by omega) ?_
    simp (config := {maxSteps := 10000000}) (disch := first | exact okYes (by kernel_rfl) | omega) only [AGo_ok, Nat.reduceAdd, St.app, putO, eput_c, Nat.reduceBEq, eput_n, cond_false, hups, hput_c, hput_n, hdel_c, beq_self_eq_true, hdel_n, cond_true, List.map, ARun_none, AOpRun, aexec, FSt.ev, St.F, eget_c, ↓eget_h, hget_c, ↓hget_h, D.isBot, D.cells, List.length, Nat.zero_add, Nat.reduceLeDiff, List.all, D.leaf, Bool.and_true, and_self, ↓reduceIte, splice, List.take, List.nil_append, List.drop, List.append_nil, ARun_nil, dropE_c, inL_c, inL_n, dropE_n]
  all_goals
    refine aw_wk (s' := ⟨[(0, dI p), (2, dI ((m + 1 : Nat) : Int)), (3, .ptr 0 0), (4, .ptr 8 0), (5, .ptr 16 0), (6, .ptr 24 0), (7, .ptr 32 0), (12, dI i)], [(0, [.list (cls c.cl), .list (sps c.pf)]), (8, [dI cl]), (16, [dI now]), (24, [.vec 40 (L.length + 1) 1]), (32, [.fn 88 [] [.ptr 0 0, .ptr 8 0, .ptr 16 0, .ptr 24 0, .ptr 32 0]]), (40, icells L ++ [.val (.int .i64 (i : Int))])], 232⟩) ?_ ?_
    · subst hL
      unfold dI
      refine wk_to [] [(0, 0), (8, 8), (16, 16), (24, 24), (32, 32), (40, 688)] (by kernel_rfl) (by kernel_rfl) (by kernel_rfl) (by kernel_rfl) (by kernel_rfl) ?_ ?_ <;> repeat' (first | exact trivial | exact vr_val _ | exact vr_list _ | exact vr_vec _ _ _ _ rfl | exact vr_ptr _ _ _ rfl | apply vr_fn | refine And.intro ⟨_, rfl, .inl ⟨_, rfl, by decide, ?_⟩⟩ ?_ | apply And.intro)
  all_goals
    have hlen : (L ++ [(i : Int)]).length = L.length + 1 := by simp
    clear hif
    cases hr : lookF (hlB c cl) now c.pf.length m (p ||| 2 ^ i) (i + 1) with
    | some r =>
      have hLs : LL = some (i :: r) := by rw [hlk]; exact first_some hi2 hin (by rw [hGp, hr]; rfl)
      obtain ⟨e1, e2⟩ := hup _ hLs
      have x1 : lkE (hlB c cl) now c.pf.length m (p ||| 2 ^ i) (i + 1) = r := by unfold lkE; rw [hr]
      have x2 : lkN (hlB c cl) now c.pf.length m (p ||| 2 ^ i) (i + 1) = r.length := by unfold lkN; rw [hr]
      rw [hr, x1, x2] at ihx
      rw [e1, e2, hLs]
      clear e1 e2 hLs x1 x2 hr hup hun hlk hEE hNN hLL hGp hin1 hin w
      cases r with
      | nil =>
        dsimp only [upB, upA, Option.isSome_some] at ihx ⊢
        rw [hlen, List.append_nil, ← ic_app] at ihx
        have hc1 : icells (L ++ ci [i]) = icells L ++ [.val (.int .i64 (i : Int))] := by rw [ic_app]; rfl
        rw [hc1]
        (have hg : (987654321 : Nat) - 987654321 = 0 := rfl; have hr := hg; repeat' (first | refine aw_seq ?_ | (refine aw_skip ?_; repeat' (first | with_reducible refine thenQ_n ?_ | with_reducible refine blockQ_n ?_ | with_reducible refine thenQ_e ?_ | with_reducible refine blockQ_t ?_ | with_reducible refine blockQ_f (by decide) ?_)) | (refine aw_exit ?_; repeat' (first | with_reducible refine thenQ_n ?_ | with_reducible refine blockQ_n ?_ | with_reducible refine thenQ_e ?_ | with_reducible refine blockQ_t ?_ | with_reducible refine blockQ_f (by decide) ?_)) | refine aw_ret ?_ | refine aw_block ?_ | refine aw_condT rfl ?_ | refine aw_condF rfl ?_ | ((first | refine aw_hide fun K hK => aw_region ?_ | refine acall0 (w2) ?_ | refine acallB (ihx) (by repeat' (first | exact trivial | exact rfl | refine And.intro ?_ ?_)) (by kernel_rfl) (by kernel_rfl) (by kernel_rfl) ?_ | refine ago_if (by omega) ?_ | skip); simp (config := {maxSteps := 10000000}) (disch := first | exact okYes (by kernel_rfl) | omega) only [List.length, Nat.zero_add, Nat.reduceAdd, Nat.reduceMul, dI, ARun_none, AOpRun, aexec, Option.map, run1, FSt.ev, St.F, eget_c, Nat.reduceBEq, ↓eget_h, cond_false, hget_c, ↓hget_h, List.getElem?_cons_zero, AGo_ok, St.app, putO, eput_c, eput_n, hups, List.map, isSh, Bool.false_eq_true, ↓reduceIte, abin, fits, em, dB, hput_c, beq_self_eq_true, hput_n, cond_true, List.append_nil, ARun_nil, dropE_c, inL_c, inL_n, dropE_n, thenQ, blockQ]) | (subst hK; repeat' (first | with_reducible refine thenQ_n ?_ | with_reducible refine blockQ_n ?_ | with_reducible refine thenQ_e ?_ | with_reducible refine blockQ_t ?_ | with_reducible refine blockQ_f (by decide) ?_))))
        refine end_to [] [(0, 0), (8, 8), (16, 16), (24, 24), (32, 32), (296, 40)] (by first | exact .inl rfl | exact .inr rfl) rfl (by kernel_rfl) (by kernel_rfl) (by kernel_rfl) ?_ ?_ <;> repeat' (first | exact trivial | exact vr_val _ | exact vr_list _ | exact vr_vec _ _ _ _ rfl | exact vr_ptr _ _ _ rfl | apply vr_fn | refine And.intro ⟨_, rfl, _, rfl, by decide, ?_⟩ ?_ | apply And.intro | exact vrl_flat _ (by first | exact icells_in _ | exact rcells_in _ | exact scells_in _ | exact bcells_in _ | assumption))
      | cons x xs =>
        dsimp only [upB, upA, Option.isSome_some] at ihx ⊢
        rw [hlen] at ihx
        have hc1 : icells (L ++ ci (i :: x :: xs)) = icells (L ++ [(i : Int)] ++ ci (x :: xs)) := by rw [ci_cons i, List.append_assoc]
        have hc2 : L.length + (i :: x :: xs).length = L.length + 1 + (x :: xs).length := by simp only [List.length_cons]; omega
        rw [hc1, hc2]
        have hcin3 := icells_in (L ++ [(i : Int)] ++ ci (x :: xs))
        generalize icells (L ++ [(i : Int)] ++ ci (x :: xs)) = CX at *
        generalize (x :: xs).length = N at *
        (have hg : (987654321 : Nat) - 987654321 = 0 := rfl; have hr := hg; repeat' (first | refine aw_seq ?_ | (refine aw_skip ?_; repeat' (first | with_reducible refine thenQ_n ?_ | with_reducible refine blockQ_n ?_ | with_reducible refine thenQ_e ?_ | with_reducible refine blockQ_t ?_ | with_reducible refine blockQ_f (by decide) ?_)) | (refine aw_exit ?_; repeat' (first | with_reducible refine thenQ_n ?_ | with_reducible refine blockQ_n ?_ | with_reducible refine thenQ_e ?_ | with_reducible refine blockQ_t ?_ | with_reducible refine blockQ_f (by decide) ?_)) | refine aw_ret ?_ | refine aw_block ?_ | refine aw_condT rfl ?_ | refine aw_condF rfl ?_ | ((first | refine aw_hide fun K hK => aw_region ?_ | refine acall0 (w2) ?_ | refine acallB (ihx) (by repeat' (first | exact trivial | exact rfl | refine And.intro ?_ ?_)) (by kernel_rfl) (by kernel_rfl) (by kernel_rfl) ?_ | refine ago_if (by omega) ?_ | skip); simp (config := {maxSteps := 10000000}) (disch := first | exact okYes (by kernel_rfl) | omega) only [List.length, Nat.zero_add, Nat.reduceAdd, Nat.reduceMul, dI, ARun_none, AOpRun, aexec, Option.map, run1, FSt.ev, St.F, eget_c, Nat.reduceBEq, ↓eget_h, cond_false, hget_c, ↓hget_h, List.getElem?_cons_zero, AGo_ok, St.app, putO, eput_c, eput_n, hups, List.map, isSh, Bool.false_eq_true, ↓reduceIte, abin, fits, em, dB, hput_c, hput_n, hdel_c, beq_self_eq_true, hdel_n, cond_true, List.append_nil, ARun_nil, dropE_c, inL_c, inL_n, dropE_n, thenQ, blockQ]) | (subst hK; repeat' (first | with_reducible refine thenQ_n ?_ | with_reducible refine blockQ_n ?_ | with_reducible refine thenQ_e ?_ | with_reducible refine blockQ_t ?_ | with_reducible refine blockQ_f (by decide) ?_))))
        refine end_to [] [(0, 0), (8, 8), (16, 16), (24, 24), (32, 32), (296, 296)] (by first | exact .inl rfl | exact .inr rfl) rfl (by kernel_rfl) (by kernel_rfl) (by kernel_rfl) ?_ ?_ <;> repeat' (first | exact trivial | exact vr_val _ | exact vr_list _ | exact vr_vec _ _ _ _ rfl | exact vr_ptr _ _ _ rfl | apply vr_fn | refine And.intro ⟨_, rfl, _, rfl, by decide, ?_⟩ ?_ | apply And.intro | exact vrl_flat _ (by first | exact icells_in _ | exact rcells_in _ | exact scells_in _ | exact bcells_in _ | assumption))
    | none =>
      have hnx := hin1 (by rw [hGp, hr]; rfl)
      have x1 : lkE (hlB c cl) now c.pf.length m (p ||| 2 ^ i) (i + 1) = stl now c.pf.length m (i + 1) := by unfold lkE; rw [hr]
      have x2 : lkN (hlB c cl) now c.pf.length m (p ||| 2 ^ i) (i + 1) = 0 := by unfold lkN; rw [hr]
      rw [hr, x1, x2] at ihx
      clear x1 x2 hr hup hun hlk hEE hNN hLL hGp hin1 hin w
      have s1 : (((L.length + 1 : Nat) : Int) - 1).toNat = L.length := by omega
      have s2 : (0 : Int) ≤ ((L.length + 1 : Nat) : Int) - 1 := by omega
      have s3 : ((L.length + 1 : Nat) : Int) - 1 ≤ ((L.length + 1 : Nat) : Int) := by omega
      cases hs : stl now c.pf.length m (i + 1) with
      | nil =>
        rw [hs] at ihx
        dsimp only [upB, Option.isSome_none] at ihx
        rw [hlen, List.append_nil, ← ic_app] at ihx
        have hc1 : icells (L ++ ci [i]) = icells L ++ [.val (.int .i64 (i : Int))] := by rw [ic_app]; rfl
        (have hg : (987654321 : Nat) - 987654321 = 0 := rfl; have hr := hg; repeat' (first | refine aw_seq ?_ | (refine aw_skip ?_; repeat' (first | with_reducible refine thenQ_n ?_ | with_reducible refine blockQ_n ?_ | with_reducible refine thenQ_e ?_ | with_reducible refine blockQ_t ?_ | with_reducible refine blockQ_f (by decide) ?_)) | (refine aw_exit ?_; repeat' (first | with_reducible refine thenQ_n ?_ | with_reducible refine blockQ_n ?_ | with_reducible refine thenQ_e ?_ | with_reducible refine blockQ_t ?_ | with_reducible refine blockQ_f (by decide) ?_)) | refine aw_ret ?_ | refine aw_block ?_ | refine aw_condT rfl ?_ | refine aw_condF rfl ?_ | ((first | refine aw_hide fun K hK => aw_region ?_ | refine acall0 (w2) ?_ | refine acallB (ihx) (by repeat' (first | exact trivial | exact rfl | refine And.intro ?_ ?_)) (by kernel_rfl) (by kernel_rfl) (by kernel_rfl) ?_ | refine ago_if (by omega) ?_ | skip); simp (config := {maxSteps := 10000000}) (disch := first | exact okYes (by kernel_rfl) | omega) only [List.length, Nat.zero_add, Nat.reduceAdd, Nat.reduceMul, dI, ARun_none, AOpRun, aexec, Option.map, run1, FSt.ev, St.F, eget_c, Nat.reduceBEq, ↓eget_h, cond_false, hget_c, ↓hget_h, List.getElem?_cons_zero, AGo_ok, St.app, putO, eput_c, eput_n, hups, List.map, isSh, Bool.false_eq_true, ↓reduceIte, abin, fits, em, dB, hput_c, beq_self_eq_true, hput_n, cond_true, List.append_nil, ARun_nil, dropE_c, inL_c, inL_n, dropE_n, asI, Int.le_refl, s2, s3, true_or, and_self, s1, D.isBot, D.cells, Nat.reduceLeDiff, List.all, D.leaf, Bool.and_true, splice, List.take, List.nil_append, List.drop]) | (subst hK; repeat' (first | with_reducible refine thenQ_n ?_ | with_reducible refine blockQ_n ?_ | with_reducible refine thenQ_e ?_ | with_reducible refine blockQ_t ?_ | with_reducible refine blockQ_f (by decide) ?_))))
        refine ⟨i + 1, ⟨by omega, .inl (by omega), hnx⟩, by omega, ?_⟩
        rw [hl1]
        dsimp only
        rw [hs, hc1]
        refine wk_to [] [(0, 0), (8, 8), (16, 16), (24, 24), (32, 32), (500, 40)] (by kernel_rfl) (by kernel_rfl) (by kernel_rfl) (by kernel_rfl) (by kernel_rfl) ?_ ?_ <;> repeat' (first | exact trivial | exact vr_val _ | exact vr_list _ | exact vr_vec _ _ _ _ rfl | exact vr_ptr _ _ _ rfl | apply vr_fn | refine And.intro ⟨_, rfl, .inl ⟨_, rfl, by decide, ?_⟩⟩ ?_ | apply And.intro | exact vrl_flat _ (by first | exact icells_in _ | exact rcells_in _ | exact scells_in _ | exact bcells_in _ | assumption))
      | cons x xs =>
        rw [hs] at ihx
        dsimp only [upB, Option.isSome_none] at ihx
        rw [Nat.add_zero, hlen] at ihx
        have hc1 : icells (L ++ ci (i :: x :: xs)) = icells (L ++ [(i : Int)] ++ ci (x :: xs)) := by rw [ci_cons i, List.append_assoc]
        have hcin3 := icells_in (L ++ [(i : Int)] ++ ci (x :: xs))
        generalize icells (L ++ [(i : Int)] ++ ci (x :: xs)) = CX at *
        (have hg : (987654321 : Nat) - 987654321 = 0 := rfl; have hr := hg; repeat' (first | refine aw_seq ?_ | (refine aw_skip ?_; repeat' (first | with_reducible refine thenQ_n ?_ | with_reducible refine blockQ_n ?_ | with_reducible refine thenQ_e ?_ | with_reducible refine blockQ_t ?_ | with_reducible refine blockQ_f (by decide) ?_)) | (refine aw_exit ?_; repeat' (first | with_reducible refine thenQ_n ?_ | with_reducible refine blockQ_n ?_ | with_reducible refine thenQ_e ?_ | with_reducible refine blockQ_t ?_ | with_reducible refine blockQ_f (by decide) ?_)) | refine aw_ret ?_ | refine aw_block ?_ | refine aw_condT rfl ?_ | refine aw_condF rfl ?_ | ((first | refine aw_hide fun K hK => aw_region ?_ | refine acall0 (w2) ?_ | refine acallB (ihx) (by repeat' (first | exact trivial | exact rfl | refine And.intro ?_ ?_)) (by kernel_rfl) (by kernel_rfl) (by kernel_rfl) ?_ | refine ago_if (by omega) ?_ | skip); simp (config := {maxSteps := 10000000}) (disch := first | exact okYes (by kernel_rfl) | omega) only [List.length, Nat.zero_add, Nat.reduceAdd, Nat.reduceMul, dI, ARun_none, AOpRun, aexec, Option.map, run1, FSt.ev, St.F, eget_c, Nat.reduceBEq, ↓eget_h, cond_false, hget_c, ↓hget_h, List.getElem?_cons_zero, AGo_ok, St.app, putO, eput_c, eput_n, hups, List.map, isSh, Bool.false_eq_true, ↓reduceIte, abin, fits, em, dB, hput_c, hput_n, hdel_c, beq_self_eq_true, hdel_n, cond_true, List.append_nil, ARun_nil, dropE_c, inL_c, inL_n, dropE_n, asI, Int.le_refl, s2, s3, true_or, and_self, s1, D.isBot, D.cells, Nat.reduceLeDiff, List.all, D.leaf, Bool.and_true, splice, List.take, List.nil_append, List.drop]) | (subst hK; repeat' (first | with_reducible refine thenQ_n ?_ | with_reducible refine blockQ_n ?_ | with_reducible refine thenQ_e ?_ | with_reducible refine blockQ_t ?_ | with_reducible refine blockQ_f (by decide) ?_))))
        refine ⟨i + 1, ⟨by omega, .inl (by omega), hnx⟩, by omega, ?_⟩
        rw [hl1]
        dsimp only
        rw [hs, hc1]
        refine wk_to [] [(0, 0), (8, 8), (16, 16), (24, 24), (32, 32), (500, 296)] (by kernel_rfl) (by kernel_rfl) (by kernel_rfl) (by kernel_rfl) (by kernel_rfl) ?_ ?_ <;> repeat' (first | exact trivial | exact vr_val _ | exact vr_list _ | exact vr_vec _ _ _ _ rfl | exact vr_ptr _ _ _ rfl | apply vr_fn | refine And.intro ⟨_, rfl, .inl ⟨_, rfl, by decide, ?_⟩⟩ ?_ | apply And.intro | exact vrl_flat _ (by first | exact icells_in _ | exact rcells_in _ | exact scells_in _ | exact bcells_in _ | assumption))
end Go.Proofs.Ytdcodicoclecnaa
