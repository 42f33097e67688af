/- Texts of the law SpansCovered, part 10. No conditions. -/
import Derived.Test.YtfaiogajaaclcaaPSpansCovered09
/- Count of both sides. No conditions. -/
set_option linter.unusedSimpArgs false
set_option linter.unusedVariables false
namespace Go.Proofs.Ytfaiogajaaclcaa
open Go.RowKit Lift

def capM (c : Int) : Int := if 1000000000000000000 < c then 1000000000000000000 else c
theorem capM_add {c p : Int} (hp : 0 ≤ p) : (if 1000000000000000000 < capM c + p then 1000000000000000000 else capM c + p) = capM (c + p) := by
  unfold capM
  repeat' split
  all_goals omega
theorem capM_le (c : Int) : capM c ≤ 1000000000000000000 := by unfold capM; split <;> omega
theorem capM_nn {c : Int} (h : 0 ≤ c) : 0 ≤ capM c := by unfold capM; split <;> omega
def cntE (l : List Bx) : Int := if l.length > 20 then 2 else chk (l[0]?.getD []).length l
def cntV (l : List Bx) : Int := if cntE l = 0 then capM (cnt l l.length) else 0
theorem bxs_take (l : List Bx) (i : Nat) : (bxs l).take i = bxs (l.take i) := by simp [bxs]
theorem restP_rst (l : List Bx) (b : Bx) : restP l b = rst l b := rfl
theorem pow6' : ∀ k, k ≤ 7 → 6 ^ k ≤ 279936 := by
  intro k hk
  exact Nat.le_trans (Nat.pow_le_pow_right (by omega) hk) (by decide)
set_option maxRecDepth 100000 in
set_option maxHeartbeats 4000000 in
theorem scount_ac (l : List Bx) (hl : l.length ≤ 8 ∨ 20 < l.length) (hl2 : l.length ≤ 1000) : AC Try.prog 56 [.list (bxs l)] [] [] (.tup [dI (cntV l), dI (cntE l)]) := by
  refine kspans_Count.ac (n0 := 0) (by simp) ⟨.list _, trivial⟩ trivial rfl ?_
  unfold cspans_Count
  refine aw_seq (aw_region ?_)
  simp (config := {maxSteps := 10000000}) (disch := first | exact okYes (by kernel_rfl) | omega) only [thenQ, List.map, List.length, Nat.zero_add, Nat.reduceAdd, Nat.reduceMul, envOf, ARun_none, AOpRun, aexec, FSt.ev, AGo_ok, St.app, putO, eput_c, Nat.reduceBEq, eput_n, cond_false, hups, ARun_nil, dropE_c, inL_n, dropE_n]
  refine aw_seq (aw_seq (aw_region ?_))
  simp (config := {maxSteps := 10000000}) (disch := first | exact okYes (by kernel_rfl) | omega) only [thenQ, List.length, Nat.zero_add, Nat.reduceAdd, Nat.reduceMul, ARun_none, AOpRun, aexec, FSt.ev, St.F, ↓eget_h, AGo_ok, St.app, putO, eput_c, Nat.reduceBEq, eput_n, cond_false, hups, List.map, eget_c, bxs_len, isSh, Bool.false_eq_true, ↓reduceIte, Option.map, abin, ARun_nil, dropE_c, inL_c, inL_n, beq_self_eq_true, cond_true, dropE_n]
  refine aw_cond rfl (fun hc => ?_) (fun hc => ?_)
  · have h20 : l.length > 20 := by have := of_decide_eq_true hc; omega
    have e1 : cntE l = 2 := if_pos h20
    have e2 : cntV l = 0 := by unfold cntV; rw [if_neg (by omega)]
    refine aw_seq (aw_region ?_)
    simp (config := {maxSteps := 10000000}) (disch := first | exact okYes (by kernel_rfl) | omega) only [thenQ, List.length, Nat.zero_add, Nat.reduceAdd, Nat.reduceMul, ARun_none, AOpRun, aexec, FSt.ev, AGo_ok, St.app, putO, eput_c, Nat.reduceBEq, beq_self_eq_true, eput_n, cond_false, cond_true, hups, List.map, ARun_nil, dropE_c, inL_n, dropE_n]
    refine aw_ret ?_
    rw [e1, e2]
    refine end_to [] [] (by first | exact .inl rfl | exact .inr rfl) rfl (by kernel_rfl) (by kernel_rfl) (by kernel_rfl) ?_ ?_ <;> repeat' (first | exact trivial | exact vr_val _ | exact vr_list _ | exact vr_at _ | exact vr_nil | exact vr_cap0 | exact vr_vec _ _ _ _ rfl | exact vr_own _ _ _ _ _ rfl | exact vr_ptr _ _ _ rfl | exact vr_nilv _ _ _ rfl | exact vr_bot _ | exact vr_cap0v _ _ _ rfl | exact vr_cap0l | apply vr_agg | apply vr_tup | apply vr_fn | refine vr_yld _ _ _ rfl ?_ | exact Ren.bot _ | exact Ren.val _ | exact Ren.list _ | exact Ren.at_ _ | exact Ren.ptr _ _ _ rfl | refine Ren.yld _ _ _ _ _ rfl rfl (RenL.get ?_).2 (fun _ _ _ h => h) | refine vr_fl _ _ _ _ _ (by decide) rfl ?_ ?_ ?_ ?_ | refine And.intro ⟨_, rfl, .inl ⟨_, rfl, by decide, ?_⟩⟩ ?_ | refine And.intro ⟨_, rfl, _, rfl, by decide, ?_⟩ ?_ | refine And.intro ⟨_, rfl, .inr ⟨rfl, rfl, of_decide_eq_true (by kernel_rfl)⟩⟩ ?_ | apply And.intro | exact vrl_flat _ (by first | exact icells_in _ | exact rcells_in _ | exact scells_in _ | exact bcells_in _ | assumption))
  have h20 : ¬ l.length > 20 := by have := of_decide_eq_false hc; omega
  have e0 : cntE l = chk (l[0]?.getD []).length l := if_neg h20
  refine aw_skip (aw_seq (aw_seq (aw_region ?_)))
  simp (config := {maxSteps := 10000000}) (disch := first | exact okYes (by kernel_rfl) | omega) only [thenQ, List.length, Nat.zero_add, Nat.reduceAdd, Nat.reduceMul, ARun_none, AOpRun, aexec, FSt.ev, St.F, ↓eget_h, AGo_ok, St.app, putO, eput_c, Nat.reduceBEq, eput_n, cond_false, hups, List.map, eget_c]
  refine acall0 (lcheck_ac l hl2) ?_
  rw [← e0]
  simp (config := {maxSteps := 10000000}) (disch := first | exact okYes (by kernel_rfl) | omega) only [dI, Nat.reduceAdd, St.app, putO, eput_c, Nat.reduceBEq, eput_n, cond_false, hups, ARun_none, AOpRun, aexec, FSt.ev, St.F, eget_c, ↓eget_h, AGo_ok, List.map, ARun_nil, dropE_c, inL_c, inL_n, beq_self_eq_true, cond_true, dropE_n]
  refine aw_seq (aw_region ?_)
  simp (config := {maxSteps := 10000000}) (disch := first | exact okYes (by kernel_rfl) | omega) only [thenQ, List.length, Nat.zero_add, Nat.reduceAdd, Nat.reduceMul, ARun_none, AOpRun, aexec, FSt.ev, St.F, eget_c, Nat.reduceBEq, ↓eget_h, cond_false, AGo_ok, St.app, putO, eput_c, eput_n, hups, List.map, isSh, Bool.false_eq_true, ↓reduceIte, Option.map, abin, ARun_nil, dropE_c, inL_c, inL_n, beq_self_eq_true, cond_true, dropE_n]
  refine aw_cond rfl (fun hc => ?_) (fun hc => ?_)
  · have hne : cntE l ≠ 0 := by simpa using hc
    have e2 : cntV l = 0 := by unfold cntV; rw [if_neg hne]
    refine aw_seq (aw_region ?_)
    simp (config := {maxSteps := 10000000}) (disch := first | exact okYes (by kernel_rfl) | omega) only [thenQ, List.length, Nat.zero_add, Nat.reduceAdd, Nat.reduceMul, ARun_none, AOpRun, aexec, FSt.ev, St.F, eget_c, Nat.reduceBEq, ↓eget_h, cond_false, AGo_ok, St.app, putO, eput_c, eput_n, hups, List.map, beq_self_eq_true, cond_true, ARun_nil, dropE_c, inL_c, inL_n, dropE_n]
    refine aw_ret ?_
    rw [e2]
    refine end_to [] [] (by first | exact .inl rfl | exact .inr rfl) rfl (by kernel_rfl) (by kernel_rfl) (by kernel_rfl) ?_ ?_ <;> repeat' (first | exact trivial | exact vr_val _ | exact vr_list _ | exact vr_at _ | exact vr_nil | exact vr_cap0 | exact vr_vec _ _ _ _ rfl | exact vr_own _ _ _ _ _ rfl | exact vr_ptr _ _ _ rfl | exact vr_nilv _ _ _ rfl | exact vr_bot _ | exact vr_cap0v _ _ _ rfl | exact vr_cap0l | apply vr_agg | apply vr_tup | apply vr_fn | refine vr_yld _ _ _ rfl ?_ | exact Ren.bot _ | exact Ren.val _ | exact Ren.list _ | exact Ren.at_ _ | exact Ren.ptr _ _ _ rfl | refine Ren.yld _ _ _ _ _ rfl rfl (RenL.get ?_).2 (fun _ _ _ h => h) | refine vr_fl _ _ _ _ _ (by decide) rfl ?_ ?_ ?_ ?_ | refine And.intro ⟨_, rfl, .inl ⟨_, rfl, by decide, ?_⟩⟩ ?_ | refine And.intro ⟨_, rfl, _, rfl, by decide, ?_⟩ ?_ | refine And.intro ⟨_, rfl, .inr ⟨rfl, rfl, of_decide_eq_true (by kernel_rfl)⟩⟩ ?_ | apply And.intro | exact vrl_flat _ (by first | exact icells_in _ | exact rcells_in _ | exact scells_in _ | exact bcells_in _ | assumption))
  have hz : cntE l = 0 := by simpa using hc
  have hv : cntV l = capM (cnt l l.length) := by unfold cntV; rw [if_pos hz]
  have hok := chk_zero (e0.symm.trans hz)
  have hl8 : l.length ≤ 8 := by omega
  rw [hz, hv]
  refine aw_skip (aw_seq (aw_seq (aw_region ?_)))
  simp (config := {maxSteps := 10000000}) (disch := first | exact okYes (by kernel_rfl) | omega) only [thenQ, List.length, Nat.zero_add, Nat.reduceAdd, Nat.reduceMul, bne_self_eq_false, ARun_none, AOpRun, aexec, FSt.ev, St.F, ↓eget_h, AGo_ok, St.app, putO, eput_c, Nat.reduceBEq, eput_n, cond_false, hups, List.map, eget_c, bxs_len, ARun_nil, dropE_c, inL_n, dropE_n]
  refine aw_block (aw_loop (fun i : Nat => ⟨[(0, .list (bxs l)), (2, .val (.int .i64 (capM (cnt l i)))), (23, .list (bxs l)), (24, .val (.int .i64 l.length)), (25, .val (.int .i64 i))], [], 200⟩) (fun i => i ≤ l.length) (fun i => l.length - i) ⟨0, by omega, ?_⟩ ?_)
  · refine wk_to [] [] (by kernel_rfl) (by kernel_rfl) (by kernel_rfl) (by kernel_rfl) (by kernel_rfl) ?_ ?_ <;> repeat' (first | exact trivial | exact vr_val _ | exact vr_list _ | exact vr_at _ | exact vr_nil | exact vr_cap0 | exact vr_vec _ _ _ _ rfl | exact vr_own _ _ _ _ _ rfl | exact vr_ptr _ _ _ rfl | exact vr_nilv _ _ _ rfl | exact vr_bot _ | exact vr_cap0v _ _ _ rfl | exact vr_cap0l | apply vr_agg | apply vr_tup | apply vr_fn | refine vr_yld _ _ _ rfl ?_ | exact Ren.bot _ | exact Ren.val _ | exact Ren.list _ | exact Ren.at_ _ | exact Ren.ptr _ _ _ rfl | refine Ren.yld _ _ _ _ _ rfl rfl (RenL.get ?_).2 (fun _ _ _ h => h) | refine vr_fl _ _ _ _ _ (by decide) rfl ?_ ?_ ?_ ?_ | refine And.intro ⟨_, rfl, .inl ⟨_, rfl, by decide, ?_⟩⟩ ?_ | refine And.intro ⟨_, rfl, _, rfl, by decide, ?_⟩ ?_ | refine And.intro ⟨_, rfl, .inr ⟨rfl, rfl, of_decide_eq_true (by kernel_rfl)⟩⟩ ?_ | apply And.intro | exact vrl_flat _ (by first | exact icells_in _ | exact rcells_in _ | exact scells_in _ | exact bcells_in _ | assumption))
  · intro i hi
    refine aw_seq (aw_region ?_)
    simp (config := {maxSteps := 10000000}) (disch := first | exact okYes (by kernel_rfl) | omega) only [thenQ, List.length, Nat.zero_add, Nat.reduceMul, Nat.reduceAdd, ARun_none, AOpRun, aexec, FSt.ev, St.F, eget_c, Nat.reduceBEq, ↓eget_h, cond_false, isSh, Bool.false_eq_true, ↓reduceIte, Option.map, abin, AGo_ok, St.app, putO, eput_c, eput_n, hups, List.map, ARun_nil, dropE_c, inL_n, dropE_n]
    refine aw_seq (aw_cond rfl (fun hc => ?_) (fun hc => ?_))
    · have hi' : i < l.length := by have := of_decide_eq_true hc; omega
      have hbo := hok (l[i]?.getD []) (by simp [hi'])
      have hcs : cnt l (i + 1) = cnt l i + sumW (leftR (l.take i).reverse (l[i]?.getD [])) := rfl
      have hcn := cnt_nn l i
      have hbg := bxs_gd l i hi'
      generalize l[i]?.getD [] = b at *
      generalize cnt l i = ci at *
      refine aw_skip (aw_seq (aw_block (aw_seq (aw_region ?_))))
      simp (config := {maxSteps := 10000000}) (disch := first | exact okYes (by kernel_rfl) | omega) only [thenQ, List.length, Nat.zero_add, Nat.reduceAdd, Nat.reduceMul, ARun_none, AOpRun, aexec, FSt.ev, St.F, eget_c, Nat.reduceBEq, ↓eget_h, cond_false, AGo_ok, St.app, putO, eput_c, eput_n, hups, List.map, Int.natCast_nonneg, bxs_all, and_self, ↓reduceIte, opt1, Option.map, Int.toNat_natCast, hbg, run1, List.getElem?_cons_zero, ARun_nil, dropE_c, inL_c, inL_n, beq_self_eq_true, cond_true, dropE_n]
      refine aw_cut ⟨[(0, .list (bxs l)), (2, .val (.int .i64 (capM ci))), (5, .val (.int .i64 i)), (7, .list (bxs [b])), (23, .list (bxs l)), (24, .val (.int .i64 l.length)), (25, .val (.int .i64 i))], [], 300⟩ ?_ ?_
      · refine aw_region ?_
        simp (config := {maxSteps := 10000000}) (disch := first | exact okYes (by kernel_rfl) | omega) only [thenQ, List.length, Nat.zero_add, Nat.reduceAdd, Nat.reduceMul, ARun_none, AOpRun, aexec, FSt.ev, St.F, eget_c, Nat.reduceBEq, ↓eget_h, cond_false, AGo_ok, St.app, putO, eput_c, eput_n, hups, List.map, Option.isSome, hget_n, Bool.false_eq_true, ↓reduceIte, Option.map, fillD, D.isBot, D.cells, ne_eq, not_true_eq_false, Nat.reduceGT, or_self, splice, List.take, List.nil_append, List.drop, List.append_nil, hput_n, ARun_nil, dropE_c, inL_c, inL_n, beq_self_eq_true, cond_true, dropE_n]
        have hcin : ∀ y ∈ ([.list (sps b)] : List D), In (fun _ => False) y := by intro y hy; simp at hy; subst hy; exact .list _
        refine wk_to [256] [] (by kernel_rfl) (by kernel_rfl) (by kernel_rfl) (by kernel_rfl) (by kernel_rfl) ?_ ?_ <;> repeat' (first | exact trivial | exact vr_val _ | exact vr_list _ | exact vr_at _ | exact vr_nil | exact vr_cap0 | exact vr_vec _ _ _ _ rfl | exact vr_own _ _ _ _ _ rfl | exact vr_ptr _ _ _ rfl | exact vr_nilv _ _ _ rfl | exact vr_bot _ | exact vr_cap0v _ _ _ rfl | exact vr_cap0l | apply vr_agg | apply vr_tup | apply vr_fn | refine vr_yld _ _ _ rfl ?_ | exact Ren.bot _ | exact Ren.val _ | exact Ren.list _ | exact Ren.at_ _ | exact Ren.ptr _ _ _ rfl | refine Ren.yld _ _ _ _ _ rfl rfl (RenL.get ?_).2 (fun _ _ _ h => h) | refine vr_fl _ _ _ _ _ (by decide) rfl ?_ ?_ ?_ ?_ | refine And.intro ⟨_, rfl, .inl ⟨_, rfl, by decide, ?_⟩⟩ ?_ | refine And.intro ⟨_, rfl, _, rfl, by decide, ?_⟩ ?_ | refine And.intro ⟨_, rfl, .inr ⟨rfl, rfl, of_decide_eq_true (by kernel_rfl)⟩⟩ ?_ | apply And.intro | exact vrl_flat _ (by first | exact icells_in _ | exact rcells_in _ | exact scells_in _ | exact bcells_in _ | assumption))
        all_goals first | exact bxs_one _ | rfl | exact hcin
      have hti : (l.take i).length = i := by simp; omega
      have hiI : (i : Int) ≤ (l.length : Int) := by omega
      refine aw_seq (aw_seq (aw_region ?_))
      simp (config := {maxSteps := 10000000}) (disch := first | exact okYes (by kernel_rfl) | omega) only [thenQ, List.length, Nat.zero_add, Nat.reduceAdd, Nat.reduceMul, ARun_none, AOpRun, aexec, FSt.ev, St.F, ↓eget_h, AGo_ok, St.app, putO, eput_c, Nat.reduceBEq, eput_n, cond_false, hups, List.map, eget_c, asI, Option.map, bxs_len, Int.le_refl, Int.natCast_nonneg, hiI, bxs_all, and_self, ↓reduceIte, Int.sub_zero, Int.toNat_natCast, Int.toNat_zero, List.drop_zero, bxs_take, hti, ARun_nil, dropE_c, inL_c, inL_n, beq_self_eq_true, cond_true, dropE_n]
      refine aw_block (aw_loop (fun j : Nat => ⟨[(0, .list (bxs l)), (2, .val (.int .i64 (capM ci))), (7, .list (bxs (leftR ((l.take i).take j).reverse b))), (23, .list (bxs l)), (24, .val (.int .i64 l.length)), (25, .val (.int .i64 i)), (34, .list (bxs (l.take i))), (35, .val (.int .i64 i)), (36, .val (.int .i64 j))], [], 400⟩) (fun j => j ≤ i) (fun j => i - j) ⟨0, by omega, ?_⟩ ?_)
      · refine wk_to [] [] (by kernel_rfl) (by kernel_rfl) (by kernel_rfl) (by kernel_rfl) (by kernel_rfl) ?_ ?_ <;> repeat' (first | exact trivial | exact vr_val _ | exact vr_list _ | exact vr_at _ | exact vr_nil | exact vr_cap0 | exact vr_vec _ _ _ _ rfl | exact vr_own _ _ _ _ _ rfl | exact vr_ptr _ _ _ rfl | exact vr_nilv _ _ _ rfl | exact vr_bot _ | exact vr_cap0v _ _ _ rfl | exact vr_cap0l | apply vr_agg | apply vr_tup | apply vr_fn | refine vr_yld _ _ _ rfl ?_ | exact Ren.bot _ | exact Ren.val _ | exact Ren.list _ | exact Ren.at_ _ | exact Ren.ptr _ _ _ rfl | refine Ren.yld _ _ _ _ _ rfl rfl (RenL.get ?_).2 (fun _ _ _ h => h) | refine vr_fl _ _ _ _ _ (by decide) rfl ?_ ?_ ?_ ?_ | refine And.intro ⟨_, rfl, .inl ⟨_, rfl, by decide, ?_⟩⟩ ?_ | refine And.intro ⟨_, rfl, _, rfl, by decide, ?_⟩ ?_ | refine And.intro ⟨_, rfl, .inr ⟨rfl, rfl, of_decide_eq_true (by kernel_rfl)⟩⟩ ?_ | apply And.intro | exact vrl_flat _ (by first | exact icells_in _ | exact rcells_in _ | exact scells_in _ | exact bcells_in _ | assumption))
      · intro j hj
        refine aw_seq (aw_region ?_)
        simp (config := {maxSteps := 10000000}) (disch := first | exact okYes (by kernel_rfl) | omega) only [thenQ, List.length, Nat.zero_add, Nat.reduceMul, Nat.reduceAdd, ARun_none, AOpRun, aexec, FSt.ev, St.F, eget_c, Nat.reduceBEq, ↓eget_h, cond_false, isSh, Bool.false_eq_true, ↓reduceIte, Option.map, abin, AGo_ok, St.app, putO, eput_c, eput_n, hups, List.map, ARun_nil, dropE_c, inL_n, dropE_n]
        refine aw_seq (aw_cond rfl (fun hc => ?_) (fun hc => ?_))
        · have hj' : j < i := by have := of_decide_eq_true hc; omega
          have hj2 : j < (l.take i).length := by omega
          have hmem : (l.take i)[j]?.getD [] ∈ l.take i := by simp only [List.getElem?_eq_getElem hj2, Option.getD_some]; exact List.getElem_mem hj2
          have hbj := hok _ (List.mem_of_mem_take hmem)
          have hsucc := left_succ (l.take i) b j hj2
          have hcnt := leftR_cnt hbo.1.len ((l.take i).take j).reverse b rfl
          have hcnt2 := pow6' ((l.take i).take j).reverse.length (by simp; omega)
          have hlo := leftR_ok ((l.take i).take j).reverse b hbo.1
          have hln := leftR_len ((l.take i).take j).reverse b rfl
          have hbg2 := bxs_gd (l.take i) j hj2
          generalize (l.take i)[j]?.getD [] = bj at *
          generalize leftR ((l.take i).take j).reverse b = now at *
          have hr := rest_ac now bj (by omega) hbj.1 (fun a ha => ⟨hlo a ha, by rw [hln a ha]; omega⟩)
          rw [restP_rst, ← hsucc] at hr
          refine aw_skip (aw_seq (aw_block (aw_seq (aw_region ?_))))
          simp (config := {maxSteps := 10000000}) (disch := first | exact okYes (by kernel_rfl) | omega) only [thenQ, List.length, Nat.zero_add, Nat.reduceAdd, Nat.reduceMul, ARun_none, AOpRun, aexec, FSt.ev, St.F, eget_c, Nat.reduceBEq, ↓eget_h, cond_false, Int.natCast_nonneg, bxs_all, and_self, ↓reduceIte, opt1, Option.map, Int.toNat_natCast, hbg2, AGo_ok, St.app, putO, eput_c, eput_n, hups, List.map, run1, List.getElem?_cons_zero, ARun_nil, dropE_c, inL_c, inL_n, beq_self_eq_true, cond_true, dropE_n]
          refine aw_region ?_
          simp (config := {maxSteps := 10000000}) (disch := first | exact okYes (by kernel_rfl) | omega) only [blockQ, thenQ, List.length, Nat.zero_add, Nat.reduceAdd, Nat.reduceMul, ARun_none, AOpRun, aexec, FSt.ev, St.F, eget_c, Nat.reduceBEq, ↓eget_h, cond_false, AGo_ok, St.app, putO, eput_c, eput_n, hups, List.map]
          refine acall0 hr ?_
          simp (config := {maxSteps := 10000000}) (disch := first | exact okYes (by kernel_rfl) | omega) only [Nat.reduceAdd, St.app, putO, eput_c, Nat.reduceBEq, eput_n, cond_false, hups, ARun_none, AOpRun, aexec, FSt.ev, St.F, eget_c, ↓eget_h, AGo_ok, beq_self_eq_true, cond_true, List.map, ARun_nil, dropE_c, inL_c, inL_n, dropE_n]
          refine aw_region ?_
          simp (config := {maxSteps := 10000000}) (disch := first | exact okYes (by kernel_rfl) | omega) only [thenQ, List.length, Nat.zero_add, Nat.reduceAdd, Nat.reduceMul, ARun_none, AOpRun, aexec, FSt.ev, St.F, eget_c, Nat.reduceBEq, ↓eget_h, cond_false, isSh, Bool.false_eq_true, ↓reduceIte, Option.map, abin, fits, AGo_ok, St.app, putO, eput_c, eput_n, hups, List.map, beq_self_eq_true, cond_true, ARun_nil, dropE_c, inL_c, inL_n, dropE_n]
          refine ⟨j + 1, hj', by omega, ?_⟩
          refine wk_to [] [] (by kernel_rfl) (by kernel_rfl) (by kernel_rfl) (by kernel_rfl) (by kernel_rfl) ?_ ?_ <;> repeat' (first | exact trivial | exact vr_val _ | exact vr_list _ | exact vr_at _ | exact vr_nil | exact vr_cap0 | exact vr_vec _ _ _ _ rfl | exact vr_own _ _ _ _ _ rfl | exact vr_ptr _ _ _ rfl | exact vr_nilv _ _ _ rfl | exact vr_bot _ | exact vr_cap0v _ _ _ rfl | exact vr_cap0l | apply vr_agg | apply vr_tup | apply vr_fn | refine vr_yld _ _ _ rfl ?_ | exact Ren.bot _ | exact Ren.val _ | exact Ren.list _ | exact Ren.at_ _ | exact Ren.ptr _ _ _ rfl | refine Ren.yld _ _ _ _ _ rfl rfl (RenL.get ?_).2 (fun _ _ _ h => h) | refine vr_fl _ _ _ _ _ (by decide) rfl ?_ ?_ ?_ ?_ | refine And.intro ⟨_, rfl, .inl ⟨_, rfl, by decide, ?_⟩⟩ ?_ | refine And.intro ⟨_, rfl, _, rfl, by decide, ?_⟩ ?_ | refine And.intro ⟨_, rfl, .inr ⟨rfl, rfl, of_decide_eq_true (by kernel_rfl)⟩⟩ ?_ | apply And.intro | exact vrl_flat _ (by first | exact icells_in _ | exact rcells_in _ | exact scells_in _ | exact bcells_in _ | assumption))
        · have hj' : j = i := by have := of_decide_eq_false hc; omega
          subst hj'
          have htt : (l.take j).take j = l.take j := by rw [List.take_take, Nat.min_self]
          rw [htt]
          have hlo := leftR_ok (l.take j).reverse b hbo.1
          have hcnt := leftR_cnt hbo.1.len (l.take j).reverse b rfl
          have hcnt2 := pow6' (l.take j).reverse.length (by simp; omega)
          generalize leftR (l.take j).reverse b = now at *
          have hnow : now.length ≤ 1000000 := by omega
          refine aw_exit ?_
          simp only [thenQ, blockQ, if_true]
          refine aw_seq (aw_region ?_)
          simp (config := {maxSteps := 10000000}) (disch := first | exact okYes (by kernel_rfl) | omega) only [thenQ, List.length, Nat.zero_add, Nat.reduceAdd, Nat.reduceMul, ARun_none, AOpRun, aexec, FSt.ev, St.F, eget_c, Nat.reduceBEq, ↓eget_h, cond_false, AGo_ok, St.app, putO, eput_c, eput_n, hups, List.map, bxs_len, ARun_nil, dropE_c, inL_n, dropE_n]
          refine aw_block (aw_loop (fun k : Nat => ⟨[(0, .list (bxs l)), (2, .val (.int .i64 (capM (ci + sumW (now.take k))))), (23, .list (bxs l)), (24, .val (.int .i64 l.length)), (25, .val (.int .i64 j)), (44, .list (bxs now)), (45, .val (.int .i64 now.length)), (46, .val (.int .i64 k))], [], 600⟩) (fun k => k ≤ now.length) (fun k => now.length - k) ⟨0, by omega, ?_⟩ ?_)
          · have hs0 : ci + sumW (now.take 0) = ci := by simp [sumW]
            rw [hs0]
            refine wk_to [] [] (by kernel_rfl) (by kernel_rfl) (by kernel_rfl) (by kernel_rfl) (by kernel_rfl) ?_ ?_ <;> repeat' (first | exact trivial | exact vr_val _ | exact vr_list _ | exact vr_at _ | exact vr_nil | exact vr_cap0 | exact vr_vec _ _ _ _ rfl | exact vr_own _ _ _ _ _ rfl | exact vr_ptr _ _ _ rfl | exact vr_nilv _ _ _ rfl | exact vr_bot _ | exact vr_cap0v _ _ _ rfl | exact vr_cap0l | apply vr_agg | apply vr_tup | apply vr_fn | refine vr_yld _ _ _ rfl ?_ | exact Ren.bot _ | exact Ren.val _ | exact Ren.list _ | exact Ren.at_ _ | exact Ren.ptr _ _ _ rfl | refine Ren.yld _ _ _ _ _ rfl rfl (RenL.get ?_).2 (fun _ _ _ h => h) | refine vr_fl _ _ _ _ _ (by decide) rfl ?_ ?_ ?_ ?_ | refine And.intro ⟨_, rfl, .inl ⟨_, rfl, by decide, ?_⟩⟩ ?_ | refine And.intro ⟨_, rfl, _, rfl, by decide, ?_⟩ ?_ | refine And.intro ⟨_, rfl, .inr ⟨rfl, rfl, of_decide_eq_true (by kernel_rfl)⟩⟩ ?_ | apply And.intro | exact vrl_flat _ (by first | exact icells_in _ | exact rcells_in _ | exact scells_in _ | exact bcells_in _ | assumption))
          · intro k hk
            refine aw_seq (aw_region ?_)
            simp (config := {maxSteps := 10000000}) (disch := first | exact okYes (by kernel_rfl) | omega) only [thenQ, List.length, Nat.zero_add, Nat.reduceMul, Nat.reduceAdd, ARun_none, AOpRun, aexec, FSt.ev, St.F, eget_c, Nat.reduceBEq, ↓eget_h, cond_false, isSh, Bool.false_eq_true, ↓reduceIte, Option.map, abin, AGo_ok, St.app, putO, eput_c, eput_n, hups, List.map, ARun_nil, dropE_c, inL_n, dropE_n]
            refine aw_seq (aw_cond rfl (fun hc => ?_) (fun hc => ?_))
            · have hk' : k < now.length := by have := of_decide_eq_true hc; omega
              have hm : now[k]?.getD [] ∈ now := by simp [hk']
              have hy := hlo _ hm
              have hst := sumW_take_succ now k hk'
              have hyg := bxs_gd now k hk'
              generalize now[k]?.getD [] = y at *
              have hvy := vol_small hy y.length (Nat.le_refl _)
              rw [List.take_length] at hvy
              have hyl := hy.len
              have hc1 := capM_le (ci + sumW (now.take k))
              have hc2 : 0 ≤ capM (ci + sumW (now.take k)) := capM_nn (by have := sumW_nn (now.take k); omega)
              have hca := capM_add (c := ci + sumW (now.take k)) hvy.1
              rw [show ci + sumW (now.take k) + vol y = ci + sumW (now.take (k + 1)) by rw [hst]; omega] at hca
              generalize capM (ci + sumW (now.take k)) = s0 at *
              refine aw_skip (aw_seq (aw_block (aw_seq (aw_region ?_))))
              simp (config := {maxSteps := 10000000}) (disch := first | exact okYes (by kernel_rfl) | omega) only [thenQ, List.length, Nat.zero_add, Nat.reduceAdd, Nat.reduceMul, ARun_none, AOpRun, aexec, FSt.ev, St.F, eget_c, Nat.reduceBEq, ↓eget_h, cond_false, Int.natCast_nonneg, bxs_all, and_self, ↓reduceIte, opt1, Option.map, Int.toNat_natCast, hyg, AGo_ok, St.app, putO, eput_c, eput_n, hups, List.map, run1, List.getElem?_cons_zero, ARun_nil, dropE_c, inL_c, inL_n, beq_self_eq_true, cond_true, dropE_n]
              refine aw_seq (aw_region ?_)
              simp (config := {maxSteps := 10000000}) (disch := first | exact okYes (by kernel_rfl) | omega) only [thenQ, List.length, Nat.zero_add, Nat.reduceMul, Nat.reduceAdd, ARun_none, AOpRun, aexec, FSt.ev, AGo_ok, St.app, putO, eput_c, Nat.reduceBEq, eput_n, cond_false, hups, List.map, ARun_nil, dropE_c, inL_n, dropE_n]
              refine aw_seq (aw_seq (aw_region ?_))
              simp (config := {maxSteps := 10000000}) (disch := first | exact okYes (by kernel_rfl) | omega) only [thenQ, List.length, Nat.zero_add, Nat.reduceAdd, Nat.reduceMul, ARun_none, AOpRun, aexec, FSt.ev, St.F, eget_c, Nat.reduceBEq, ↓eget_h, cond_false, AGo_ok, St.app, putO, eput_c, eput_n, hups, List.map, sps_len, ARun_nil, dropE_c, inL_n, dropE_n]
              refine aw_block (aw_loop (fun t : Nat => ⟨[(0, .list (bxs l)), (2, .val (.int .i64 s0)), (12, .val (.int .i64 (vol (y.take t)))), (23, .list (bxs l)), (24, .val (.int .i64 l.length)), (25, .val (.int .i64 j)), (44, .list (bxs now)), (45, .val (.int .i64 now.length)), (46, .val (.int .i64 k)), (50, .list (sps y)), (51, .val (.int .i64 y.length)), (52, .val (.int .i64 t))], [], 800⟩) (fun t => t ≤ y.length) (fun t => y.length - t) ⟨0, by omega, ?_⟩ ?_)
              · refine wk_to [] [] (by kernel_rfl) (by kernel_rfl) (by kernel_rfl) (by kernel_rfl) (by kernel_rfl) ?_ ?_ <;> repeat' (first | exact trivial | exact vr_val _ | exact vr_list _ | exact vr_at _ | exact vr_nil | exact vr_cap0 | exact vr_vec _ _ _ _ rfl | exact vr_own _ _ _ _ _ rfl | exact vr_ptr _ _ _ rfl | exact vr_nilv _ _ _ rfl | exact vr_bot _ | exact vr_cap0v _ _ _ rfl | exact vr_cap0l | apply vr_agg | apply vr_tup | apply vr_fn | refine vr_yld _ _ _ rfl ?_ | exact Ren.bot _ | exact Ren.val _ | exact Ren.list _ | exact Ren.at_ _ | exact Ren.ptr _ _ _ rfl | refine Ren.yld _ _ _ _ _ rfl rfl (RenL.get ?_).2 (fun _ _ _ h => h) | refine vr_fl _ _ _ _ _ (by decide) rfl ?_ ?_ ?_ ?_ | refine And.intro ⟨_, rfl, .inl ⟨_, rfl, by decide, ?_⟩⟩ ?_ | refine And.intro ⟨_, rfl, _, rfl, by decide, ?_⟩ ?_ | refine And.intro ⟨_, rfl, .inr ⟨rfl, rfl, of_decide_eq_true (by kernel_rfl)⟩⟩ ?_ | apply And.intro | exact vrl_flat _ (by first | exact icells_in _ | exact rcells_in _ | exact scells_in _ | exact bcells_in _ | assumption))
              · intro t ht
                refine aw_seq (aw_region ?_)
                simp (config := {maxSteps := 10000000}) (disch := first | exact okYes (by kernel_rfl) | omega) only [thenQ, List.length, Nat.zero_add, Nat.reduceMul, Nat.reduceAdd, ARun_none, AOpRun, aexec, FSt.ev, St.F, eget_c, Nat.reduceBEq, ↓eget_h, cond_false, isSh, Bool.false_eq_true, ↓reduceIte, Option.map, abin, AGo_ok, St.app, putO, eput_c, eput_n, hups, List.map, ARun_nil, dropE_c, inL_n, dropE_n]
                refine aw_seq (aw_cond rfl (fun hc => ?_) (fun hc => ?_))
                · have ht' : t < y.length := by have := of_decide_eq_true hc; omega
                  have h1 := hy.low t ht'
                  have h2 := hy.le t ht'
                  have h3 := hy.high t ht'
                  have hv := vol_take y t ht'
                  rw [(wid_ok hy ht').1] at hv
                  have hs := vol_small hy (t + 1) ht'
                  rw [hv] at hs
                  refine aw_skip (aw_seq (aw_block (aw_seq (aw_region ?_))))
                  simp (config := {maxSteps := 10000000}) (disch := first | exact okYes (by kernel_rfl) | omega) only [thenQ, List.length, Nat.zero_add, Nat.reduceAdd, Nat.reduceMul, ARun_none, AOpRun, aexec, FSt.ev, St.F, eget_c, Nat.reduceBEq, ↓eget_h, cond_false, Int.natCast_nonneg, sps_all, and_self, ↓reduceIte, opt1, Option.map, Int.toNat_natCast, sps_gd y t ht', AGo_ok, St.app, putO, eput_c, eput_n, hups, List.map, Nat.reduceLeDiff, List.take, Option.isSome, hget_n, Bool.false_eq_true, hput_n, hget_c, beq_self_eq_true, cond_true, D.isBot, D.cells, List.all, D.leaf, Bool.and_true, splice, List.nil_append, List.drop, List.append_nil, hput_c, ARun_nil, dropE_c, inL_c, inL_n, dropE_n]
                  refine aw_region ?_
                  simp (config := {maxSteps := 10000000}) (disch := first | exact okYes (by kernel_rfl) | omega) only [blockQ, thenQ, List.length, Nat.zero_add, Nat.reduceAdd, Nat.reduceMul, ARun_none, AOpRun, aexec, FSt.ev, St.F, eget_c, Nat.reduceBEq, ↓eget_h, cond_false, AGo_ok, St.app, putO, eput_c, eput_n, hups, List.map, Option.map, run1, hget_c, beq_self_eq_true, hget_n, cond_true, List.getElem?_cons_succ, List.getElem?_cons_zero, isSh, Bool.false_eq_true, ↓reduceIte, abin, fits, ARun_nil, dropE_c, inL_c, inL_n, dropE_n]
                  refine aw_region ?_
                  simp (config := {maxSteps := 10000000}) (disch := first | exact okYes (by kernel_rfl) | omega) only [thenQ, List.length, Nat.zero_add, Nat.reduceAdd, Nat.reduceMul, ARun_none, AOpRun, aexec, FSt.ev, St.F, eget_c, Nat.reduceBEq, ↓eget_h, cond_false, isSh, Bool.false_eq_true, ↓reduceIte, Option.map, abin, fits, AGo_ok, St.app, putO, eput_c, eput_n, hups, List.map, beq_self_eq_true, cond_true, ARun_nil, dropE_c, inL_c, inL_n, dropE_n]
                  refine ⟨t + 1, ht', by omega, ?_⟩
                  rw [hv]
                  refine wk_to [] [] (by kernel_rfl) (by kernel_rfl) (by kernel_rfl) (by kernel_rfl) (by kernel_rfl) ?_ ?_ <;> repeat' (first | exact trivial | exact vr_val _ | exact vr_list _ | exact vr_at _ | exact vr_nil | exact vr_cap0 | exact vr_vec _ _ _ _ rfl | exact vr_own _ _ _ _ _ rfl | exact vr_ptr _ _ _ rfl | exact vr_nilv _ _ _ rfl | exact vr_bot _ | exact vr_cap0v _ _ _ rfl | exact vr_cap0l | apply vr_agg | apply vr_tup | apply vr_fn | refine vr_yld _ _ _ rfl ?_ | exact Ren.bot _ | exact Ren.val _ | exact Ren.list _ | exact Ren.at_ _ | exact Ren.ptr _ _ _ rfl | refine Ren.yld _ _ _ _ _ rfl rfl (RenL.get ?_).2 (fun _ _ _ h => h) | refine vr_fl _ _ _ _ _ (by decide) rfl ?_ ?_ ?_ ?_ | refine And.intro ⟨_, rfl, .inl ⟨_, rfl, by decide, ?_⟩⟩ ?_ | refine And.intro ⟨_, rfl, _, rfl, by decide, ?_⟩ ?_ | refine And.intro ⟨_, rfl, .inr ⟨rfl, rfl, of_decide_eq_true (by kernel_rfl)⟩⟩ ?_ | apply And.intro | exact vrl_flat _ (by first | exact icells_in _ | exact rcells_in _ | exact scells_in _ | exact bcells_in _ | assumption))
                · have ht' : t = y.length := by have := of_decide_eq_false hc; omega
                  subst ht'
                  rw [List.take_length]
                  refine aw_exit ?_
                  simp only [thenQ, blockQ, if_true]
                  refine aw_region ?_
                  simp (config := {maxSteps := 10000000}) (disch := first | exact okYes (by kernel_rfl) | omega) only [blockQ, thenQ, List.length, Nat.zero_add, Nat.reduceAdd, Nat.reduceMul, ARun_none, AOpRun, aexec, FSt.ev, St.F, eget_c, Nat.reduceBEq, ↓eget_h, cond_false, AGo_ok, St.app, putO, eput_c, eput_n, hups, List.map, isSh, Bool.false_eq_true, ↓reduceIte, Option.map, abin, fits, foldI, mn2, beq_self_eq_true, cond_true, ARun_nil, dropE_c, inL_c, inL_n, dropE_n]
                  rw [hca]
                  refine aw_region ?_
                  simp (config := {maxSteps := 10000000}) (disch := first | exact okYes (by kernel_rfl) | omega) only [thenQ, List.length, Nat.zero_add, Nat.reduceAdd, Nat.reduceMul, ARun_none, AOpRun, aexec, FSt.ev, St.F, eget_c, Nat.reduceBEq, ↓eget_h, cond_false, isSh, Bool.false_eq_true, ↓reduceIte, Option.map, abin, fits, AGo_ok, St.app, putO, eput_c, eput_n, hups, List.map, beq_self_eq_true, cond_true, ARun_nil, dropE_c, inL_c, inL_n, dropE_n]
                  refine ⟨k + 1, hk', by omega, ?_⟩
                  refine wk_to [] [] (by kernel_rfl) (by kernel_rfl) (by kernel_rfl) (by kernel_rfl) (by kernel_rfl) ?_ ?_ <;> repeat' (first | exact trivial | exact vr_val _ | exact vr_list _ | exact vr_at _ | exact vr_nil | exact vr_cap0 | exact vr_vec _ _ _ _ rfl | exact vr_own _ _ _ _ _ rfl | exact vr_ptr _ _ _ rfl | exact vr_nilv _ _ _ rfl | exact vr_bot _ | exact vr_cap0v _ _ _ rfl | exact vr_cap0l | apply vr_agg | apply vr_tup | apply vr_fn | refine vr_yld _ _ _ rfl ?_ | exact Ren.bot _ | exact Ren.val _ | exact Ren.list _ | exact Ren.at_ _ | exact Ren.ptr _ _ _ rfl | refine Ren.yld _ _ _ _ _ rfl rfl (RenL.get ?_).2 (fun _ _ _ h => h) | refine vr_fl _ _ _ _ _ (by decide) rfl ?_ ?_ ?_ ?_ | refine And.intro ⟨_, rfl, .inl ⟨_, rfl, by decide, ?_⟩⟩ ?_ | refine And.intro ⟨_, rfl, _, rfl, by decide, ?_⟩ ?_ | refine And.intro ⟨_, rfl, .inr ⟨rfl, rfl, of_decide_eq_true (by kernel_rfl)⟩⟩ ?_ | apply And.intro | exact vrl_flat _ (by first | exact icells_in _ | exact rcells_in _ | exact scells_in _ | exact bcells_in _ | assumption))
            · have hk' : k = now.length := by have := of_decide_eq_false hc; omega
              subst hk'
              rw [List.take_length, ← hcs]
              refine aw_exit ?_
              simp only [thenQ, blockQ, if_true]
              refine aw_region ?_
              simp (config := {maxSteps := 10000000}) (disch := first | exact okYes (by kernel_rfl) | omega) only [thenQ, List.length, Nat.zero_add, Nat.reduceAdd, Nat.reduceMul, ARun_none, AOpRun, aexec, FSt.ev, St.F, eget_c, Nat.reduceBEq, ↓eget_h, cond_false, isSh, Bool.false_eq_true, ↓reduceIte, Option.map, abin, fits, AGo_ok, St.app, putO, eput_c, eput_n, hups, List.map, beq_self_eq_true, cond_true, ARun_nil, dropE_c, inL_c, inL_n, dropE_n]
              refine ⟨j + 1, hi', by omega, ?_⟩
              refine wk_to [] [] (by kernel_rfl) (by kernel_rfl) (by kernel_rfl) (by kernel_rfl) (by kernel_rfl) ?_ ?_ <;> repeat' (first | exact trivial | exact vr_val _ | exact vr_list _ | exact vr_at _ | exact vr_nil | exact vr_cap0 | exact vr_vec _ _ _ _ rfl | exact vr_own _ _ _ _ _ rfl | exact vr_ptr _ _ _ rfl | exact vr_nilv _ _ _ rfl | exact vr_bot _ | exact vr_cap0v _ _ _ rfl | exact vr_cap0l | apply vr_agg | apply vr_tup | apply vr_fn | refine vr_yld _ _ _ rfl ?_ | exact Ren.bot _ | exact Ren.val _ | exact Ren.list _ | exact Ren.at_ _ | exact Ren.ptr _ _ _ rfl | refine Ren.yld _ _ _ _ _ rfl rfl (RenL.get ?_).2 (fun _ _ _ h => h) | refine vr_fl _ _ _ _ _ (by decide) rfl ?_ ?_ ?_ ?_ | refine And.intro ⟨_, rfl, .inl ⟨_, rfl, by decide, ?_⟩⟩ ?_ | refine And.intro ⟨_, rfl, _, rfl, by decide, ?_⟩ ?_ | refine And.intro ⟨_, rfl, .inr ⟨rfl, rfl, of_decide_eq_true (by kernel_rfl)⟩⟩ ?_ | apply And.intro | exact vrl_flat _ (by first | exact icells_in _ | exact rcells_in _ | exact scells_in _ | exact bcells_in _ | assumption))
    · have hi' : i = l.length := by have := of_decide_eq_false hc; omega
      subst hi'
      refine aw_exit (aw_seq (aw_region ?_))
      simp (config := {maxSteps := 10000000}) (disch := first | exact okYes (by kernel_rfl) | omega) only [thenQ, List.length, Nat.zero_add, Nat.reduceAdd, Nat.reduceMul, ARun_none, AOpRun, aexec, FSt.ev, St.F, eget_c, Nat.reduceBEq, ↓eget_h, cond_false, AGo_ok, St.app, putO, eput_c, eput_n, hups, List.map, beq_self_eq_true, cond_true, ARun_nil, dropE_c, inL_c, inL_n, dropE_n]
      refine aw_ret ?_
      refine end_to [] [] (by first | exact .inl rfl | exact .inr rfl) rfl (by kernel_rfl) (by kernel_rfl) (by kernel_rfl) ?_ ?_ <;> repeat' (first | exact trivial | exact vr_val _ | exact vr_list _ | exact vr_at _ | exact vr_nil | exact vr_cap0 | exact vr_vec _ _ _ _ rfl | exact vr_own _ _ _ _ _ rfl | exact vr_ptr _ _ _ rfl | exact vr_nilv _ _ _ rfl | exact vr_bot _ | exact vr_cap0v _ _ _ rfl | exact vr_cap0l | apply vr_agg | apply vr_tup | apply vr_fn | refine vr_yld _ _ _ rfl ?_ | exact Ren.bot _ | exact Ren.val _ | exact Ren.list _ | exact Ren.at_ _ | exact Ren.ptr _ _ _ rfl | refine Ren.yld _ _ _ _ _ rfl rfl (RenL.get ?_).2 (fun _ _ _ h => h) | refine vr_fl _ _ _ _ _ (by decide) rfl ?_ ?_ ?_ ?_ | refine And.intro ⟨_, rfl, .inl ⟨_, rfl, by decide, ?_⟩⟩ ?_ | refine And.intro ⟨_, rfl, _, rfl, by decide, ?_⟩ ?_ | refine And.intro ⟨_, rfl, .inr ⟨rfl, rfl, of_decide_eq_true (by kernel_rfl)⟩⟩ ?_ | apply And.intro | exact vrl_flat _ (by first | exact icells_in _ | exact rcells_in _ | exact scells_in _ | exact bcells_in _ | assumption))
end Go.Proofs.Ytfaiogajaaclcaa
/- A copy of boxes, as own memory. No conditions. -/
set_option linter.unusedSimpArgs false
set_option linter.unusedVariables false
namespace Go.Proofs.Ytfaiogajaaclcaa
open Go.RowKit Lift

set_option maxRecDepth 100000 in
set_option maxHeartbeats 2000000 in
theorem copyBo_ac (l : List Bx) (hl : l.length ≤ 1000) (hb : ∀ b ∈ l, b.length ≤ 1000) : AC Try.prog 57 [.list (bxs l)] [] [(96, some (bcells l))] (.vec 96 l.length 1) := by
  refine kref01_CopyBoxes.ac (n0 := 0) (by simp) ⟨.list _, trivial⟩ trivial rfl ?_
  unfold cref01_CopyBoxes
  refine aw_seq (aw_region ?_)
  simp (config := {maxSteps := 10000000}) (disch := first | exact okYes (by kernel_rfl) | omega) only [ARun_nil, ARun_none, ARun_some, ARun_skip, AOpRun, AGo_f, AGo_ok, AG_tt, AG_ff, AG_tf, AG_ft, AG_un, aexec, run1, asI, elems, base, opt1, fillD, splice, abin, ash, isSh, foldI, mn2, mx2, ↓eget_h, eget_c, eget_n, eput_c, eput_n, putO, ↓hget_h, hget_c, hget_n, hput_c, hput_n, hdel_c, hdel_n, hups, cond_true, cond_false,  ups, St.F, St.app, FSt.ev, dropE_c, dropE_n, inL_c, inL_n, envOf, thenQ, blockQ, D.isBot, D.isAgg, D.cells, D.leaf, scalarEq, eqCells, isB, Option.map, List.map, List.length, List.all, List.append, List.take, List.drop, List.cons_append, List.nil_append, List.append_nil, Option.isSome, List.getElem?_cons_zero, List.getElem?_cons_succ, if_true, if_false, true_and, and_true, Bool.not_true, Bool.not_false, Bool.true_or, Bool.false_or, Bool.or_true, Bool.or_false, Bool.false_eq_true, ↓reduceIte, Nat.reduceAdd, Nat.reduceMul, Nat.reduceEqDiff, Nat.reduceBEq, Nat.reduceSub, Nat.zero_add, Nat.reduceLeDiff, Nat.reduceGT, Nat.reduceLT, Nat.reduceBNe, okLog_f, reduceCtorEq, or_self, or_false, false_or, or_true, true_or, and_self, and_false, false_and, not_true_eq_false, not_false_eq_true, ne_eq, Bool.and_true, Bool.true_and, Bool.and_false, Bool.false_and, decide_eq_true_eq, decide_true, decide_false, Int.reduceBEq, Int.reduceBNe, Int.reduceLT, Int.reduceLE, Int.reduceAdd, Int.reduceSub, Int.reduceMul, Int.reduceNeg, Int.reduceEq, Int.toNat_zero, Int.reduceToNat, Int.zero_lt_one, Nat.zero_le, Int.le_refl, beq_self_eq_true, bne_self_eq_false, cast_lit, fits, wrap_in, Int.toNat_natCast, Int.natCast_nonneg]
  refine aw_seq (aw_region ?_)
  simp (config := {maxSteps := 10000000}) (disch := first | exact okYes (by kernel_rfl) | omega) only [ARun_nil, ARun_none, ARun_some, ARun_skip, AOpRun, AGo_f, AGo_ok, AG_tt, AG_ff, AG_tf, AG_ft, AG_un, aexec, run1, asI, elems, base, opt1, fillD, splice, abin, ash, isSh, foldI, mn2, mx2, ↓eget_h, eget_c, eget_n, eput_c, eput_n, putO, ↓hget_h, hget_c, hget_n, hput_c, hput_n, hdel_c, hdel_n, hups, cond_true, cond_false,  ups, St.F, St.app, FSt.ev, dropE_c, dropE_n, inL_c, inL_n, envOf, thenQ, blockQ, D.isBot, D.isAgg, D.cells, D.leaf, scalarEq, eqCells, isB, Option.map, List.map, List.length, List.all, List.append, List.take, List.drop, List.cons_append, List.nil_append, List.append_nil, Option.isSome, List.getElem?_cons_zero, List.getElem?_cons_succ, if_true, if_false, true_and, and_true, Bool.not_true, Bool.not_false, Bool.true_or, Bool.false_or, Bool.or_true, Bool.or_false, Bool.false_eq_true, ↓reduceIte, Nat.reduceAdd, Nat.reduceMul, Nat.reduceEqDiff, Nat.reduceBEq, Nat.reduceSub, Nat.zero_add, Nat.reduceLeDiff, Nat.reduceGT, Nat.reduceLT, Nat.reduceBNe, okLog_f, reduceCtorEq, or_self, or_false, false_or, or_true, true_or, and_self, and_false, false_and, not_true_eq_false, not_false_eq_true, ne_eq, Bool.and_true, Bool.true_and, Bool.and_false, Bool.false_and, decide_eq_true_eq, decide_true, decide_false, Int.reduceBEq, Int.reduceBNe, Int.reduceLT, Int.reduceLE, Int.reduceAdd, Int.reduceSub, Int.reduceMul, Int.reduceNeg, Int.reduceEq, Int.toNat_zero, Int.reduceToNat, Int.zero_lt_one, Nat.zero_le, Int.le_refl, beq_self_eq_true, bne_self_eq_false, cast_lit, fits, wrap_in, Int.toNat_natCast, Int.natCast_nonneg]
  refine aw_seq (aw_seq (aw_region ?_))
  simp (config := {maxSteps := 10000000}) (disch := first | exact okYes (by kernel_rfl) | omega) only [ARun_nil, ARun_none, ARun_some, ARun_skip, AOpRun, AGo_f, AGo_ok, AG_tt, AG_ff, AG_tf, AG_ft, AG_un, aexec, run1, asI, elems, base, opt1, fillD, splice, abin, ash, isSh, foldI, mn2, mx2, ↓eget_h, eget_c, eget_n, eput_c, eput_n, putO, ↓hget_h, hget_c, hget_n, hput_c, hput_n, hdel_c, hdel_n, hups, cond_true, cond_false,  ups, St.F, St.app, FSt.ev, dropE_c, dropE_n, inL_c, inL_n, envOf, thenQ, blockQ, D.isBot, D.isAgg, D.cells, D.leaf, scalarEq, eqCells, isB, Option.map, List.map, List.length, List.all, List.append, List.take, List.drop, List.cons_append, List.nil_append, List.append_nil, Option.isSome, List.getElem?_cons_zero, List.getElem?_cons_succ, if_true, if_false, true_and, and_true, Bool.not_true, Bool.not_false, Bool.true_or, Bool.false_or, Bool.or_true, Bool.or_false, Bool.false_eq_true, ↓reduceIte, Nat.reduceAdd, Nat.reduceMul, Nat.reduceEqDiff, Nat.reduceBEq, Nat.reduceSub, Nat.zero_add, Nat.reduceLeDiff, Nat.reduceGT, Nat.reduceLT, Nat.reduceBNe, okLog_f, reduceCtorEq, or_self, or_false, false_or, or_true, true_or, and_self, and_false, false_and, not_true_eq_false, not_false_eq_true, ne_eq, Bool.and_true, Bool.true_and, Bool.and_false, Bool.false_and, decide_eq_true_eq, decide_true, decide_false, Int.reduceBEq, Int.reduceBNe, Int.reduceLT, Int.reduceLE, Int.reduceAdd, Int.reduceSub, Int.reduceMul, Int.reduceNeg, Int.reduceEq, Int.toNat_zero, Int.reduceToNat, Int.zero_lt_one, Nat.zero_le, Int.le_refl, beq_self_eq_true, bne_self_eq_false, cast_lit, fits, wrap_in, Int.toNat_natCast, Int.natCast_nonneg]
  refine aw_block (aw_loop (fun k : Nat => ⟨[(0, .list (bxs l)), (3, .vec 40 (l.take k).length 1), (4, .val (.int .i64 k))], [(40, bcells (l.take k))], 100⟩) (fun k => k ≤ l.length) (fun k => l.length - k) ⟨0, by omega, ?_⟩ ?_)
  · refine wk_to [] [(40, 40)] (by kernel_rfl) (by kernel_rfl) (by kernel_rfl) (by kernel_rfl) (by kernel_rfl) ?_ ?_ <;> repeat' (first | exact trivial | exact vr_val _ | exact vr_list _ | exact vr_at _ | exact vr_nil | exact vr_cap0 | exact vr_vec _ _ _ _ rfl | exact vr_own _ _ _ _ _ rfl | exact vr_ptr _ _ _ rfl | exact vr_nilv _ _ _ rfl | exact vr_bot _ | exact vr_cap0v _ _ _ rfl | exact vr_cap0l | apply vr_agg | apply vr_tup | apply vr_fn | refine vr_yld _ _ _ rfl ?_ | exact Ren.bot _ | exact Ren.val _ | exact Ren.list _ | exact Ren.at_ _ | exact Ren.ptr _ _ _ rfl | refine Ren.yld _ _ _ _ _ rfl rfl (RenL.get ?_).2 (fun _ _ _ h => h) | refine vr_fl _ _ _ _ _ (by decide) rfl ?_ ?_ ?_ ?_ | refine And.intro ⟨_, rfl, .inl ⟨_, rfl, by decide, ?_⟩⟩ ?_ | refine And.intro ⟨_, rfl, _, rfl, by decide, ?_⟩ ?_ | refine And.intro ⟨_, rfl, .inr ⟨rfl, rfl, of_decide_eq_true (by kernel_rfl)⟩⟩ ?_ | apply And.intro | exact vrl_flat _ (by first | exact icells_in _ | exact rcells_in _ | exact scells_in _ | exact bcells_in _ | assumption))
  · intro k hk
    refine aw_seq (aw_seq (aw_region ?_))
    simp (config := {maxSteps := 10000000}) (disch := first | exact okYes (by kernel_rfl) | omega) only [ARun_nil, ARun_none, ARun_some, ARun_skip, AOpRun, AGo_f, AGo_ok, AG_tt, AG_ff, AG_tf, AG_ft, AG_un, aexec, run1, asI, elems, base, opt1, fillD, splice, abin, ash, isSh, foldI, mn2, mx2, ↓eget_h, eget_c, eget_n, eput_c, eput_n, putO, ↓hget_h, hget_c, hget_n, hput_c, hput_n, hdel_c, hdel_n, hups, cond_true, cond_false,  ups, St.F, St.app, FSt.ev, dropE_c, dropE_n, inL_c, inL_n, envOf, thenQ, blockQ, D.isBot, D.isAgg, D.cells, D.leaf, scalarEq, eqCells, isB, Option.map, List.map, List.length, List.all, List.append, List.take, List.drop, List.cons_append, List.nil_append, List.append_nil, Option.isSome, List.getElem?_cons_zero, List.getElem?_cons_succ, if_true, if_false, true_and, and_true, Bool.not_true, Bool.not_false, Bool.true_or, Bool.false_or, Bool.or_true, Bool.or_false, Bool.false_eq_true, ↓reduceIte, Nat.reduceAdd, Nat.reduceMul, Nat.reduceEqDiff, Nat.reduceBEq, Nat.reduceSub, Nat.zero_add, Nat.reduceLeDiff, Nat.reduceGT, Nat.reduceLT, Nat.reduceBNe, okLog_f, reduceCtorEq, or_self, or_false, false_or, or_true, true_or, and_self, and_false, false_and, not_true_eq_false, not_false_eq_true, ne_eq, Bool.and_true, Bool.true_and, Bool.and_false, Bool.false_and, decide_eq_true_eq, decide_true, decide_false, Int.reduceBEq, Int.reduceBNe, Int.reduceLT, Int.reduceLE, Int.reduceAdd, Int.reduceSub, Int.reduceMul, Int.reduceNeg, Int.reduceEq, Int.toNat_zero, Int.reduceToNat, Int.zero_lt_one, Nat.zero_le, Int.le_refl, beq_self_eq_true, bne_self_eq_false, cast_lit, fits, wrap_in, Int.toNat_natCast, Int.natCast_nonneg, bxs_len]
    refine aw_cond rfl (fun hc => ?_) (fun hc => ?_)
    · have hk' : k < l.length := by have := of_decide_eq_true hc; omega
      have hbl : (l[k]?.getD []).length ≤ 1000 := hb _ (by simp [hk'])
      have hbt := bx_take l k hk'
      have hlt : (l.take (k + 1)).length = (l.take k).length + 1 := by simp; omega
      have hll : (l.take k).length ≤ 1000 := by simp; omega
      have hbg := bxs_gd l k hk'
      generalize l[k]?.getD [] = x at *
      generalize l.take k = t at *
      have hot : (bcells t).take t.length = bcells t := take_all _ _ (bcells_len _)
      have hbc := bcells_len t
      refine aw_skip (aw_seq (aw_block (aw_region_cut [⟨some 11, .mv (.tmp 3), none, []⟩,
            ⟨some 12, .buildSl 2 0 [] [], none, []⟩,
            ⟨some 13, .mv (.tmp 0), none, []⟩,
            ⟨some 14, .mv (.tmp 4), none, []⟩,
            ⟨some 15, .iadS 1 (.tmp 13) (.tmp 14), none, []⟩,
            ⟨some 16, .load1 (.tmp 15), none, []⟩,
            ⟨some 17, .app 2 16 (.tmp 12) (.tmp 16), none, []⟩] [⟨some 18, .buildSl 1 1 [(.val (.slice none 0 0))] [(0, 1, (.tmp 17))], none, []⟩,
            ⟨some 19, .app 1 24 (.tmp 11) (.tmp 18), none, []⟩,
            ⟨some 3, .mv (.tmp 19), none, []⟩] ?_)))
      simp (config := {maxSteps := 10000000}) (disch := first | exact okYes (by kernel_rfl) | omega) only [ARun_nil, ARun_none, ARun_some, ARun_skip, AOpRun, AGo_f, AGo_ok, AG_tt, AG_ff, AG_tf, AG_ft, AG_un, aexec, run1, asI, elems, base, opt1, fillD, splice, abin, ash, isSh, foldI, mn2, mx2, ↓eget_h, eget_c, eget_n, eput_c, eput_n, putO, ↓hget_h, hget_c, hget_n, hput_c, hput_n, hdel_c, hdel_n, hups, cond_true, cond_false,  ups, St.F, St.app, FSt.ev, dropE_c, dropE_n, inL_c, inL_n, envOf, thenQ, blockQ, D.isBot, D.isAgg, D.cells, D.leaf, scalarEq, eqCells, isB, Option.map, List.map, List.length, List.all, List.append, List.take, List.drop, List.cons_append, List.nil_append, List.append_nil, Option.isSome, List.getElem?_cons_zero, List.getElem?_cons_succ, if_true, if_false, true_and, and_true, Bool.not_true, Bool.not_false, Bool.true_or, Bool.false_or, Bool.or_true, Bool.or_false, Bool.false_eq_true, ↓reduceIte, Nat.reduceAdd, Nat.reduceMul, Nat.reduceEqDiff, Nat.reduceBEq, Nat.reduceSub, Nat.zero_add, Nat.reduceLeDiff, Nat.reduceGT, Nat.reduceLT, Nat.reduceBNe, okLog_f, reduceCtorEq, or_self, or_false, false_or, or_true, true_or, and_self, and_false, false_and, not_true_eq_false, not_false_eq_true, ne_eq, Bool.and_true, Bool.true_and, Bool.and_false, Bool.false_and, decide_eq_true_eq, decide_true, decide_false, Int.reduceBEq, Int.reduceBNe, Int.reduceLT, Int.reduceLE, Int.reduceAdd, Int.reduceSub, Int.reduceMul, Int.reduceNeg, Int.reduceEq, Int.toNat_zero, Int.reduceToNat, Int.zero_lt_one, Nat.zero_le, Int.le_refl, beq_self_eq_true, bne_self_eq_false, cast_lit, fits, wrap_in, Int.toNat_natCast, Int.natCast_nonneg, bxs_all, hbg, sps_len, sps_all, sps_flat, scells_leaf]
      refine ago_if (by omega) ?_
      simp (config := {maxSteps := 10000000}) (disch := first | exact okYes (by kernel_rfl) | omega) only [ARun_nil, ARun_none, ARun_some, ARun_skip, AOpRun, AGo_f, AGo_ok, AG_tt, AG_ff, AG_tf, AG_ft, AG_un, aexec, run1, asI, elems, base, opt1, fillD, splice, abin, ash, isSh, foldI, mn2, mx2, ↓eget_h, eget_c, eget_n, eput_c, eput_n, putO, ↓hget_h, hget_c, hget_n, hput_c, hput_n, hdel_c, hdel_n, hups, cond_true, cond_false,  ups, St.F, St.app, FSt.ev, dropE_c, dropE_n, inL_c, inL_n, envOf, thenQ, blockQ, D.isBot, D.isAgg, D.cells, D.leaf, scalarEq, eqCells, isB, Option.map, List.map, List.length, List.all, List.append, List.take, List.drop, List.cons_append, List.nil_append, List.append_nil, Option.isSome, List.getElem?_cons_zero, List.getElem?_cons_succ, if_true, if_false, true_and, and_true, Bool.not_true, Bool.not_false, Bool.true_or, Bool.false_or, Bool.or_true, Bool.or_false, Bool.false_eq_true, ↓reduceIte, Nat.reduceAdd, Nat.reduceMul, Nat.reduceEqDiff, Nat.reduceBEq, Nat.reduceSub, Nat.zero_add, Nat.reduceLeDiff, Nat.reduceGT, Nat.reduceLT, Nat.reduceBNe, okLog_f, reduceCtorEq, or_self, or_false, false_or, or_true, true_or, and_self, and_false, false_and, not_true_eq_false, not_false_eq_true, ne_eq, Bool.and_true, Bool.true_and, Bool.and_false, Bool.false_and, decide_eq_true_eq, decide_true, decide_false, Int.reduceBEq, Int.reduceBNe, Int.reduceLT, Int.reduceLE, Int.reduceAdd, Int.reduceSub, Int.reduceMul, Int.reduceNeg, Int.reduceEq, Int.toNat_zero, Int.reduceToNat, Int.zero_lt_one, Nat.zero_le, Int.le_refl, beq_self_eq_true, bne_self_eq_false, cast_lit, fits, wrap_in, Int.toNat_natCast, Int.natCast_nonneg]
      refine ⟨⟨[(0, .list (bxs l)), (4, .val (.int .i64 k)), (11, .vec 40 t.length 1), (17, .list (sps x))], [(40, bcells t)], 400⟩, ?_, of_decide_eq_true (by kernel_rfl), ?_⟩
      · refine wk_to [180] [(40, 40)] (by kernel_rfl) (by kernel_rfl) (by kernel_rfl) (by kernel_rfl) (by kernel_rfl) ?_ ?_ <;> repeat' (first | exact trivial | exact vr_val _ | exact vr_list _ | exact vr_at _ | exact vr_nil | exact vr_cap0 | exact vr_vec _ _ _ _ rfl | exact vr_own _ _ _ _ _ rfl | exact vr_ptr _ _ _ rfl | exact vr_nilv _ _ _ rfl | exact vr_bot _ | exact vr_cap0v _ _ _ rfl | exact vr_cap0l | apply vr_agg | apply vr_tup | apply vr_fn | refine vr_yld _ _ _ rfl ?_ | exact Ren.bot _ | exact Ren.val _ | exact Ren.list _ | exact Ren.at_ _ | exact Ren.ptr _ _ _ rfl | refine Ren.yld _ _ _ _ _ rfl rfl (RenL.get ?_).2 (fun _ _ _ h => h) | refine vr_fl _ _ _ _ _ (by decide) rfl ?_ ?_ ?_ ?_ | refine And.intro ⟨_, rfl, .inl ⟨_, rfl, by decide, ?_⟩⟩ ?_ | refine And.intro ⟨_, rfl, _, rfl, by decide, ?_⟩ ?_ | refine And.intro ⟨_, rfl, .inr ⟨rfl, rfl, of_decide_eq_true (by kernel_rfl)⟩⟩ ?_ | apply And.intro | exact vrl_flat _ (by first | exact icells_in _ | exact rcells_in _ | exact scells_in _ | exact bcells_in _ | assumption))
        all_goals first | exact sps_two _ | exact sps_len _ | exact sps_flat _ | exact scells_in _
      simp (config := {maxSteps := 10000000}) (disch := first | exact okYes (by kernel_rfl) | omega) only [ARun_nil, ARun_none, ARun_some, ARun_skip, AOpRun, AGo_f, AGo_ok, AG_tt, AG_ff, AG_tf, AG_ft, AG_un, aexec, run1, asI, elems, base, opt1, fillD, splice, abin, ash, isSh, foldI, mn2, mx2, ↓eget_h, eget_c, eget_n, eput_c, eput_n, putO, ↓hget_h, hget_c, hget_n, hput_c, hput_n, hdel_c, hdel_n, hups, cond_true, cond_false,  ups, St.F, St.app, FSt.ev, dropE_c, dropE_n, inL_c, inL_n, envOf, thenQ, blockQ, D.isBot, D.isAgg, D.cells, D.leaf, scalarEq, eqCells, isB, Option.map, List.map, List.length, List.all, List.append, List.take, List.drop, List.cons_append, List.nil_append, List.append_nil, Option.isSome, List.getElem?_cons_zero, List.getElem?_cons_succ, if_true, if_false, true_and, and_true, Bool.not_true, Bool.not_false, Bool.true_or, Bool.false_or, Bool.or_true, Bool.or_false, Bool.false_eq_true, ↓reduceIte, Nat.reduceAdd, Nat.reduceMul, Nat.reduceEqDiff, Nat.reduceBEq, Nat.reduceSub, Nat.zero_add, Nat.reduceLeDiff, Nat.reduceGT, Nat.reduceLT, Nat.reduceBNe, okLog_f, reduceCtorEq, or_self, or_false, false_or, or_true, true_or, and_self, and_false, false_and, not_true_eq_false, not_false_eq_true, ne_eq, Bool.and_true, Bool.true_and, Bool.and_false, Bool.false_and, decide_eq_true_eq, decide_true, decide_false, Int.reduceBEq, Int.reduceBNe, Int.reduceLT, Int.reduceLE, Int.reduceAdd, Int.reduceSub, Int.reduceMul, Int.reduceNeg, Int.reduceEq, Int.toNat_zero, Int.reduceToNat, Int.zero_lt_one, Nat.zero_le, Int.le_refl, beq_self_eq_true, bne_self_eq_false, cast_lit, fits, wrap_in, Int.toNat_natCast, Int.natCast_nonneg, Nat.mul_one, hbc, hot, Nat.le_refl, bcells_leaf]
      refine ago_if (by omega) ?_
      simp (config := {maxSteps := 10000000}) (disch := first | exact okYes (by kernel_rfl) | omega) only [ARun_nil, ARun_none, ARun_some, ARun_skip, AOpRun, AGo_f, AGo_ok, AG_tt, AG_ff, AG_tf, AG_ft, AG_un, aexec, run1, asI, elems, base, opt1, fillD, splice, abin, ash, isSh, foldI, mn2, mx2, ↓eget_h, eget_c, eget_n, eput_c, eput_n, putO, ↓hget_h, hget_c, hget_n, hput_c, hput_n, hdel_c, hdel_n, hups, cond_true, cond_false,  ups, St.F, St.app, FSt.ev, dropE_c, dropE_n, inL_c, inL_n, envOf, thenQ, blockQ, D.isBot, D.isAgg, D.cells, D.leaf, scalarEq, eqCells, isB, Option.map, List.map, List.length, List.all, List.append, List.take, List.drop, List.cons_append, List.nil_append, List.append_nil, Option.isSome, List.getElem?_cons_zero, List.getElem?_cons_succ, if_true, if_false, true_and, and_true, Bool.not_true, Bool.not_false, Bool.true_or, Bool.false_or, Bool.or_true, Bool.or_false, Bool.false_eq_true, ↓reduceIte, Nat.reduceAdd, Nat.reduceMul, Nat.reduceEqDiff, Nat.reduceBEq, Nat.reduceSub, Nat.zero_add, Nat.reduceLeDiff, Nat.reduceGT, Nat.reduceLT, Nat.reduceBNe, okLog_f, reduceCtorEq, or_self, or_false, false_or, or_true, true_or, and_self, and_false, false_and, not_true_eq_false, not_false_eq_true, ne_eq, Bool.and_true, Bool.true_and, Bool.and_false, Bool.false_and, decide_eq_true_eq, decide_true, decide_false, Int.reduceBEq, Int.reduceBNe, Int.reduceLT, Int.reduceLE, Int.reduceAdd, Int.reduceSub, Int.reduceMul, Int.reduceNeg, Int.reduceEq, Int.toNat_zero, Int.reduceToNat, Int.zero_lt_one, Nat.zero_le, Int.le_refl, beq_self_eq_true, bne_self_eq_false, cast_lit, fits, wrap_in, Int.toNat_natCast, Int.natCast_nonneg]
      refine aw_region ?_
      simp (config := {maxSteps := 10000000}) (disch := first | exact okYes (by kernel_rfl) | omega) only [ARun_nil, ARun_none, ARun_some, ARun_skip, AOpRun, AGo_f, AGo_ok, AG_tt, AG_ff, AG_tf, AG_ft, AG_un, aexec, run1, asI, elems, base, opt1, fillD, splice, abin, ash, isSh, foldI, mn2, mx2, ↓eget_h, eget_c, eget_n, eput_c, eput_n, putO, ↓hget_h, hget_c, hget_n, hput_c, hput_n, hdel_c, hdel_n, hups, cond_true, cond_false,  ups, St.F, St.app, FSt.ev, dropE_c, dropE_n, inL_c, inL_n, envOf, thenQ, blockQ, D.isBot, D.isAgg, D.cells, D.leaf, scalarEq, eqCells, isB, Option.map, List.map, List.length, List.all, List.append, List.take, List.drop, List.cons_append, List.nil_append, List.append_nil, Option.isSome, List.getElem?_cons_zero, List.getElem?_cons_succ, if_true, if_false, true_and, and_true, Bool.not_true, Bool.not_false, Bool.true_or, Bool.false_or, Bool.or_true, Bool.or_false, Bool.false_eq_true, ↓reduceIte, Nat.reduceAdd, Nat.reduceMul, Nat.reduceEqDiff, Nat.reduceBEq, Nat.reduceSub, Nat.zero_add, Nat.reduceLeDiff, Nat.reduceGT, Nat.reduceLT, Nat.reduceBNe, okLog_f, reduceCtorEq, or_self, or_false, false_or, or_true, true_or, and_self, and_false, false_and, not_true_eq_false, not_false_eq_true, ne_eq, Bool.and_true, Bool.true_and, Bool.and_false, Bool.false_and, decide_eq_true_eq, decide_true, decide_false, Int.reduceBEq, Int.reduceBNe, Int.reduceLT, Int.reduceLE, Int.reduceAdd, Int.reduceSub, Int.reduceMul, Int.reduceNeg, Int.reduceEq, Int.toNat_zero, Int.reduceToNat, Int.zero_lt_one, Nat.zero_le, Int.le_refl, beq_self_eq_true, bne_self_eq_false, cast_lit, fits, wrap_in, Int.toNat_natCast, Int.natCast_nonneg]
      refine ⟨k + 1, hk', by omega, ?_⟩
      rw [hbt, hlt]
      have hcin : ∀ y ∈ bcells t ++ [.list (sps x)], In (fun _ => False) y := by rw [bcells_app]; exact bcells_in _
      refine wk_to [] [(40, 408)] (by kernel_rfl) (by kernel_rfl) (by kernel_rfl) (by kernel_rfl) (by kernel_rfl) ?_ ?_ <;> repeat' (first | exact trivial | exact vr_val _ | exact vr_list _ | exact vr_at _ | exact vr_nil | exact vr_cap0 | exact vr_vec _ _ _ _ rfl | exact vr_own _ _ _ _ _ rfl | exact vr_ptr _ _ _ rfl | exact vr_nilv _ _ _ rfl | exact vr_bot _ | exact vr_cap0v _ _ _ rfl | exact vr_cap0l | apply vr_agg | apply vr_tup | apply vr_fn | refine vr_yld _ _ _ rfl ?_ | exact Ren.bot _ | exact Ren.val _ | exact Ren.list _ | exact Ren.at_ _ | exact Ren.ptr _ _ _ rfl | refine Ren.yld _ _ _ _ _ rfl rfl (RenL.get ?_).2 (fun _ _ _ h => h) | refine vr_fl _ _ _ _ _ (by decide) rfl ?_ ?_ ?_ ?_ | refine And.intro ⟨_, rfl, .inl ⟨_, rfl, by decide, ?_⟩⟩ ?_ | refine And.intro ⟨_, rfl, _, rfl, by decide, ?_⟩ ?_ | refine And.intro ⟨_, rfl, .inr ⟨rfl, rfl, of_decide_eq_true (by kernel_rfl)⟩⟩ ?_ | apply And.intro | exact vrl_flat _ (by first | exact icells_in _ | exact rcells_in _ | exact scells_in _ | exact bcells_in _ | assumption))
    · have hk' : k = l.length := by have := of_decide_eq_false hc; omega
      subst hk'
      refine aw_exit (aw_seq (aw_region ?_))
      simp (config := {maxSteps := 10000000}) (disch := first | exact okYes (by kernel_rfl) | omega) only [ARun_nil, ARun_none, ARun_some, ARun_skip, AOpRun, AGo_f, AGo_ok, AG_tt, AG_ff, AG_tf, AG_ft, AG_un, aexec, run1, asI, elems, base, opt1, fillD, splice, abin, ash, isSh, foldI, mn2, mx2, ↓eget_h, eget_c, eget_n, eput_c, eput_n, putO, ↓hget_h, hget_c, hget_n, hput_c, hput_n, hdel_c, hdel_n, hups, cond_true, cond_false,  ups, St.F, St.app, FSt.ev, dropE_c, dropE_n, inL_c, inL_n, envOf, thenQ, blockQ, D.isBot, D.isAgg, D.cells, D.leaf, scalarEq, eqCells, isB, Option.map, List.map, List.length, List.all, List.append, List.take, List.drop, List.cons_append, List.nil_append, List.append_nil, Option.isSome, List.getElem?_cons_zero, List.getElem?_cons_succ, if_true, if_false, true_and, and_true, Bool.not_true, Bool.not_false, Bool.true_or, Bool.false_or, Bool.or_true, Bool.or_false, Bool.false_eq_true, ↓reduceIte, Nat.reduceAdd, Nat.reduceMul, Nat.reduceEqDiff, Nat.reduceBEq, Nat.reduceSub, Nat.zero_add, Nat.reduceLeDiff, Nat.reduceGT, Nat.reduceLT, Nat.reduceBNe, okLog_f, reduceCtorEq, or_self, or_false, false_or, or_true, true_or, and_self, and_false, false_and, not_true_eq_false, not_false_eq_true, ne_eq, Bool.and_true, Bool.true_and, Bool.and_false, Bool.false_and, decide_eq_true_eq, decide_true, decide_false, Int.reduceBEq, Int.reduceBNe, Int.reduceLT, Int.reduceLE, Int.reduceAdd, Int.reduceSub, Int.reduceMul, Int.reduceNeg, Int.reduceEq, Int.toNat_zero, Int.reduceToNat, Int.zero_lt_one, Nat.zero_le, Int.le_refl, beq_self_eq_true, bne_self_eq_false, cast_lit, fits, wrap_in, Int.toNat_natCast, Int.natCast_nonneg, List.take_length]
      refine aw_ret ?_
      refine end_to [] [(96, 40)] (by first | exact .inl rfl | exact .inr rfl) rfl (by kernel_rfl) (by kernel_rfl) (by kernel_rfl) ?_ ?_ <;> repeat' (first | exact trivial | exact vr_val _ | exact vr_list _ | exact vr_at _ | exact vr_nil | exact vr_cap0 | exact vr_vec _ _ _ _ rfl | exact vr_own _ _ _ _ _ rfl | exact vr_ptr _ _ _ rfl | exact vr_nilv _ _ _ rfl | exact vr_bot _ | exact vr_cap0v _ _ _ rfl | exact vr_cap0l | apply vr_agg | apply vr_tup | apply vr_fn | refine vr_yld _ _ _ rfl ?_ | exact Ren.bot _ | exact Ren.val _ | exact Ren.list _ | exact Ren.at_ _ | exact Ren.ptr _ _ _ rfl | refine Ren.yld _ _ _ _ _ rfl rfl (RenL.get ?_).2 (fun _ _ _ h => h) | refine vr_fl _ _ _ _ _ (by decide) rfl ?_ ?_ ?_ ?_ | refine And.intro ⟨_, rfl, .inl ⟨_, rfl, by decide, ?_⟩⟩ ?_ | refine And.intro ⟨_, rfl, _, rfl, by decide, ?_⟩ ?_ | refine And.intro ⟨_, rfl, .inr ⟨rfl, rfl, of_decide_eq_true (by kernel_rfl)⟩⟩ ?_ | apply And.intro | exact vrl_flat _ (by first | exact icells_in _ | exact rcells_in _ | exact scells_in _ | exact bcells_in _ | assumption))
end Go.Proofs.Ytfaiogajaaclcaa
/- What is left of a box without others: its points, its first one, its count. In numbers; no conditions. -/
namespace Go.Proofs.Ytfaiogajaaclcaa

/-! ### the order of points -/
def ltP (p q : List Int) : Prop := ∃ k, k < p.length ∧ (∀ j, j < k → p[j]?.getD 0 = q[j]?.getD 0) ∧ p[k]?.getD 0 < q[k]?.getD 0
theorem first_diff (p q : List Int) : ∀ n : Nat, (∀ j, j < n → p[j]?.getD 0 = q[j]?.getD 0) ∨ ∃ k, k < n ∧ (∀ j, j < k → p[j]?.getD 0 = q[j]?.getD 0) ∧ p[k]?.getD 0 ≠ q[k]?.getD 0
  | 0 => .inl (by omega)
  | n + 1 => by
    rcases first_diff p q n with h | ⟨k, h1, h2, h3⟩
    · by_cases e : p[n]?.getD 0 = q[n]?.getD 0
      · exact .inl fun j hj => by
          rcases (by omega : j < n ∨ j = n) with h' | rfl
          · exact h j h'
          · exact e
      · exact .inr ⟨n, by omega, h, e⟩
    · exact .inr ⟨k, by omega, h2, h3⟩
theorem lex_lt {p q : List Int} (h : p.length = q.length) : lex p q < 0 ↔ ltP p q := by
  rcases first_diff p q p.length with he | ⟨k, h1, h2, h3⟩
  · rw [lex_eq p q h he]
    refine ⟨fun h => by omega, fun ⟨k, a, b, c⟩ => ?_⟩
    have := he k a
    omega
  · rw [lex_at p q k h1 (by omega) h2 h3]
    constructor
    · intro hc
      unfold cmpI at hc
      split at hc
      · exact ⟨k, h1, h2, by assumption⟩
      · split at hc <;> omega
    · rintro ⟨j, a, b, c⟩
      have hjk : j = k := by
        rcases Nat.lt_trichotomy j k with h' | h' | h'
        · have := h2 j h'; omega
        · exact h'
        · exact absurd (b k h') h3
      subst hjk
      unfold cmpI
      rw [if_pos c]; omega
theorem ltP_trans {p q r : List Int} (hq : p.length = q.length) (h1 : ltP p q) (h2 : ltP q r) : ltP p r := by
  obtain ⟨a, a1, a2, a3⟩ := h1
  obtain ⟨b, b1, b2, b3⟩ := h2
  rcases Nat.lt_trichotomy a b with h | h | h
  · exact ⟨a, a1, fun j hj => (a2 j hj).trans (b2 j (by omega)), by rw [← b2 a h]; exact a3⟩
  · subst h
    exact ⟨a, a1, fun j hj => (a2 j hj).trans (b2 j hj), by omega⟩
  · exact ⟨b, by omega, fun j hj => (a2 j (by omega)).trans (b2 j hj), by rw [a2 b h]; exact b3⟩
theorem ltP_tri {p q : List Int} (h : p.length = q.length) : ltP p q ∨ p = q ∨ ltP q p := by
  rcases first_diff p q p.length with he | ⟨k, h1, h2, h3⟩
  · refine .inr (.inl (List.ext_getElem h fun i a b => ?_))
    have := he i a
    simpa [a, b] using this
  · rcases (by omega : p[k]?.getD 0 < q[k]?.getD 0 ∨ q[k]?.getD 0 < p[k]?.getD 0) with c | c
    · exact .inl ⟨k, h1, h2, c⟩
    · exact .inr (.inr ⟨k, by omega, fun j hj => (h2 j hj).symm, c⟩)
def leP (p q : List Int) : Prop := p = q ∨ ltP p q
theorem leP_trans {p q r : List Int} (hq : p.length = q.length) (h1 : leP p q) (h2 : leP q r) : leP p r := by
  rcases h1 with rfl | h1
  · exact h2
  · rcases h2 with rfl | h2
    · exact .inr h1
    · exact .inr (ltP_trans hq h1 h2)
theorem ltP_irr {p q : List Int} (hl : p.length = q.length) (h1 : ltP p q) (h2 : leP q p) : False := by
  have h3 : ltP p p := by
    rcases h2 with rfl | h2
    · exact h1
    · exact ltP_trans hl h1 h2
  obtain ⟨k, _, _, c⟩ := h3
  omega
/-- the first of the corners is one of them, and none comes before it -/
theorem fst_fold {n : Nat} : ∀ (R : List Bx) (o : Option (List Int)) (f : List Int), (∀ q, o = some q → q.length = n) → (∀ r ∈ R, r.length = n) → R.foldl fst1 o = some f →
    f.length = n ∧ (∀ q, o = some q → leP f q) ∧ (∀ r ∈ R, leP f (lowsL r)) ∧ (o = some f ∨ ∃ r ∈ R, f = lowsL r)
  | [], o, f, ho, _, hf => by
    have hf' : o = some f := hf
    subst hf'
    exact ⟨ho f rfl, fun q hq => .inl (Option.some.inj hq), by simp, .inl rfl⟩
  | r :: R, o, f, ho, hR, hf => by
    have hr := hR r (List.mem_cons_self ..)
    have hlr : (lowsL r).length = n := by simpa [lowsL] using hr
    have ho' : ∀ q, fst1 o r = some q → q.length = n := fun q hq => by
      cases o with
      | none => simp only [fst1, Option.some.injEq] at hq; rw [← hq]; exact hlr
      | some g =>
        simp only [fst1] at hq
        split at hq <;> simp only [Option.some.injEq] at hq <;> rw [← hq]
        · exact hlr
        · exact ho g rfl
    obtain ⟨h1, h2, h3, h4⟩ := fst_fold R (fst1 o r) f ho' (fun x hx => hR x (List.mem_cons_of_mem _ hx)) hf
    cases o with
    | none =>
      have h5 := h2 (lowsL r) rfl
      refine ⟨h1, by simp, fun x hx => ?_, ?_⟩
      · rcases List.mem_cons.1 hx with rfl | hx
        · exact h5
        · exact h3 x hx
      · rcases h4 with h4 | ⟨x, hx, h4⟩
        · exact .inr ⟨r, List.mem_cons_self .., (Option.some.inj h4).symm⟩
        · exact .inr ⟨x, List.mem_cons_of_mem _ hx, h4⟩
    | some g =>
      have hg := ho g rfl
      by_cases hc : lex (lowsL r) g < 0
      · have e : fst1 (some g) r = some (lowsL r) := if_pos hc
        rw [e] at h2 h4
        have h5 := h2 (lowsL r) rfl
        have h6 : ltP (lowsL r) g := (lex_lt (by omega)).1 hc
        refine ⟨h1, fun q hq => ?_, fun x hx => ?_, ?_⟩
        · rw [← Option.some.inj hq]
          exact leP_trans (by omega) h5 (.inr h6)
        · rcases List.mem_cons.1 hx with rfl | hx
          · exact h5
          · exact h3 x hx
        · rcases h4 with h4 | ⟨x, hx, h4⟩
          · exact .inr ⟨r, List.mem_cons_self .., (Option.some.inj h4).symm⟩
          · exact .inr ⟨x, List.mem_cons_of_mem _ hx, h4⟩
      · have e : fst1 (some g) r = some g := if_neg hc
        rw [e] at h2 h4
        have h5 := h2 g rfl
        have h6 : leP g (lowsL r) := by
          rcases ltP_tri (p := g) (q := lowsL r) (by omega) with h | h | h
          · exact .inr h
          · exact .inl h
          · exact absurd ((lex_lt (by omega)).2 h) hc
        refine ⟨h1, fun q hq => ?_, fun x hx => ?_, ?_⟩
        · rw [← Option.some.inj hq]; exact h5
        · rcases List.mem_cons.1 hx with rfl | hx
          · exact leP_trans (by omega) h5 h6
          · exact h3 x hx
        · rcases h4 with h4 | ⟨x, hx, h4⟩
          · exact .inl h4
          · exact .inr ⟨x, List.mem_cons_of_mem _ hx, h4⟩
/-! ### points of what is left -/
theorem rst_count (p : List Int) (b : Bx) (hb : OkB b) : ∀ (l : List Bx), (∀ y ∈ l, OkB y ∧ y.length = b.length) → (rst l b).countP (inL p) = if inL p b = true then 0 else l.countP (inL p)
  | [], _ => by simp [rst]
  | y :: l, h => by
    have hy := h y (List.mem_cons_self ..)
    have ih := rst_count p b hb l fun z hz => h z (List.mem_cons_of_mem _ hz)
    have e : rst (y :: l) b = mnL y b ++ rst l b := by simp [rst]
    rw [e, List.countP_append, ih, lost p y b hy.1 hb hy.2, List.countP_cons]
    cases hp : inL p b with
    | true => simp
    | false =>
      cases hq : inL p y with
      | true => simp; omega
      | false => simp
theorem left_count (p : List Int) {n : Nat} (x : Bx) (hx : OkB x ∧ x.length = n) : ∀ (R : List Bx), (∀ b ∈ R, OkB b ∧ b.length = n) → (leftR R x).countP (inL p) = if inL p x = true ∧ R.all (fun b => !inL p b) = true then 1 else 0
  | [], _ => by
    cases hp : inL p x <;> simp [leftR, hp]
  | b :: R, h => by
    have hb := h b (List.mem_cons_self ..)
    have ih := left_count p x hx R fun z hz => h z (List.mem_cons_of_mem _ hz)
    have e : leftR (b :: R) x = rst (leftR R x) b := rfl
    rw [e, rst_count p b hb.1 _ (fun y hy => ⟨leftR_ok R x hx.1 y hy, (leftR_len R x hx.2 y hy).trans hb.2.symm⟩), ih]
    cases hp : inL p b <;> simp [hp]
theorem lows_in {y : Bx} (hy : OkB y) : inL (lowsL y) y = true := inL_iff.2 fun k hk => by
  have e : pv (lowsL y) k = lo y k := by simp [pv, lowsL, lo, hk]
  rw [e]
  exact ⟨Int.le_refl _, hy.le k hk⟩
theorem lows_le {y : Bx} {p : List Int} (hl : p.length = y.length) (hp : inL p y = true) : leP (lowsL y) p := by
  rcases ltP_tri (p := lowsL y) (q := p) (by simp [lowsL]; omega) with h | h | h
  · exact .inr h
  · exact .inl h
  · obtain ⟨k, h1, _, h3⟩ := h
    have := (inL_iff.1 hp k (by omega)).1
    have e : (lowsL y)[k]?.getD 0 = lo y k := by simp [lowsL, lo, show k < y.length by omega]
    have e2 : pv p k = p[k]?.getD 0 := rfl
    omega
section
variable {n : Nat} {x : Bx} {R : List Bx}
theorem left_in (hx : OkB x ∧ x.length = n) (hR : ∀ b ∈ R, OkB b ∧ b.length = n) {y : Bx} (hy : y ∈ leftR R x) {p : List Int} (hp : inL p y = true) : inL p x = true ∧ ∀ b ∈ R, inL p b = false := by
  have h := left_count p x hx R hR
  have hpos : 0 < (leftR R x).countP (inL p) := List.countP_pos_iff.2 ⟨y, hy, hp⟩
  by_cases hc : inL p x = true ∧ R.all (fun b => !inL p b) = true
  · refine ⟨hc.1, fun b hb => ?_⟩
    have := List.all_eq_true.1 hc.2 b hb
    simpa using this
  · rw [if_neg hc] at h; omega
theorem left_of (hx : OkB x ∧ x.length = n) (hR : ∀ b ∈ R, OkB b ∧ b.length = n) {p : List Int} (h1 : inL p x = true) (h2 : ∀ b ∈ R, inL p b = false) : ∃ y ∈ leftR R x, inL p y = true := by
  have h := left_count p x hx R hR
  have hc : inL p x = true ∧ R.all (fun b => !inL p b) = true := ⟨h1, List.all_eq_true.2 fun b hb => by simp [h2 b hb]⟩
  rw [if_pos hc] at h
  exact List.countP_pos_iff.1 (by omega)
/-- with the box itself behind the others nothing is left -/
theorem left_self (hx : OkB x ∧ x.length = n) (hR : ∀ b ∈ R, OkB b ∧ b.length = n) : leftR (x :: R) x = [] := by
  cases hl : leftR (x :: R) x with
  | nil => rfl
  | cons y l =>
    have hR' : ∀ b ∈ x :: R, OkB b ∧ b.length = n := fun b hb => by
      rcases List.mem_cons.1 hb with rfl | hb
      · exact hx
      · exact hR b hb
    have hy : y ∈ leftR (x :: R) x := by rw [hl]; exact List.mem_cons_self ..
    have h := left_in hx hR' hy (lows_in (leftR_ok _ x hx.1 y hy))
    have h2 := h.2 x (List.mem_cons_self ..)
    rw [h.1] at h2
    cases h2
/-- the first point of what is left -/
theorem left_first (hx : OkB x ∧ x.length = n) (hR : ∀ b ∈ R, OkB b ∧ b.length = n) {f : List Int} (hf : fstO (leftR R x) = some f) :
    f.length = n ∧ inL f x = true ∧ (∀ b ∈ R, inL f b = false) ∧ ∀ p : List Int, p.length = n → inL p x = true → (∀ b ∈ R, inL p b = false) → ¬ lex p f < 0 := by
  have hlen := leftR_len R x hx.2
  obtain ⟨h1, _, h3, h4⟩ := fst_fold (n := n) (leftR R x) none f (by simp) hlen hf
  have h5 : ∃ r ∈ leftR R x, f = lowsL r := by
    rcases h4 with h4 | h4
    · cases h4
    · exact h4
  obtain ⟨r, hr, rfl⟩ := h5
  have h6 := left_in hx hR hr (lows_in (leftR_ok R x hx.1 r hr))
  refine ⟨h1, h6.1, h6.2, fun p hp p1 p2 hlt => ?_⟩
  obtain ⟨y, hy, hpy⟩ := left_of hx hR p1 p2
  have h7 := leP_trans (by rw [h1]; simpa [lowsL] using (hlen y hy).symm) (h3 y hy) (lows_le (by rw [hp, hlen y hy]) hpy)
  exact ltP_irr (by omega) ((lex_lt (by omega)).1 hlt) h7
theorem fst_ne : ∀ (L : List Bx), L ≠ [] → ∃ f, fstO L = some f := fun L hL => by
  have := fst_some L L.length (List.length_pos_iff.2 hL) (Nat.le_refl _)
  rwa [List.take_of_length_le (Nat.le_refl _)] at this
end
/-! ### counts -/
theorem vol_pos {y : Bx} (hy : ∀ k, k < y.length → lo y k ≤ hi y k) : 1 ≤ vol y := by
  induction y with
  | nil => simp [vol]
  | cons a y ih =>
    have h0 := hy 0 (by simp)
    have h1 := ih fun k hk => by simpa [lo, hi] using hy (k + 1) (by simp; omega)
    have h2 : 1 ≤ wid a := by
      have : a.1 ≤ a.2 := by simpa [lo, hi] using h0
      unfold wid; rw [if_neg (by omega)]; omega
    have h3 : vol (a :: y) = wid a * vol y := rfl
    rw [h3]
    have := Int.mul_le_mul h2 h1 (by omega) (by omega)
    omega
theorem sumW_pos {L : List Bx} (hL : ∀ y ∈ L, OkB y) : 0 ≤ sumW L ∧ (sumW L = 0 ↔ L = []) := by
  cases L with
  | nil => simp [sumW]
  | cons y L =>
    have h1 := vol_pos (hL y (List.mem_cons_self ..)).le
    have h2 := sumW_nn L
    have e : sumW (y :: L) = vol y + sumW L := by simp [sumW]
    rw [e]
    refine ⟨by omega, fun h => by omega, fun h => by cases h⟩
theorem cnt_take (l : List Bx) (x : Bx) : ∀ i, i ≤ l.length → cnt (l ++ [x]) i = cnt l i
  | 0, _ => rfl
  | i + 1, h => by
    have ih := cnt_take l x i (by omega)
    show cnt (l ++ [x]) i + sumW (leftR ((l ++ [x]).take i).reverse ((l ++ [x])[i]?.getD [])) = cnt l i + sumW (leftR (l.take i).reverse (l[i]?.getD []))
    rw [ih, List.take_append_of_le_length (by omega), List.getElem?_append_left (by omega)]
theorem cnt_more (l : List Bx) (x : Bx) : cnt (l ++ [x]) (l ++ [x]).length = cnt l l.length + sumW (leftR l.reverse x) := by
  have e : (l ++ [x]).length = l.length + 1 := by simp
  rw [e]
  show cnt (l ++ [x]) l.length + sumW (leftR ((l ++ [x]).take l.length).reverse ((l ++ [x])[l.length]?.getD [])) = _
  rw [cnt_take l x l.length (Nat.le_refl _)]
  simp
theorem capM_two {c s : Int} (hs : 0 ≤ s) : capM c ≤ capM (c + s) ∧ (capM c < 1000000000000000000 → (capM (c + s) = capM c ↔ s = 0)) := by
  unfold capM
  constructor
  · split <;> split <;> omega
  · intro h
    split at h
    · omega
    · rename_i h1
      rw [if_neg h1]
      split <;> omega
end Go.Proofs.Ytfaiogajaaclcaa
/- What comes behind a region, hidden while the region is walked. No conditions. -/
namespace Go.Proofs.Ytfaiogajaaclcaa.Lift
open Go Go.RowKit

theorem aw_hide {rd : Bool} {P : Program} {n : Nat} {pre : List Nat} {Q : AExit → St → Prop} {s : St} {x : ACode} (h : ∀ K : AExit → St → Prop, K = Q → AWb rd P n pre x K s) : AWb rd P n pre x Q s := h Q rfl
section
variable {K : St → Prop} {Q : AExit → St → Prop} {s : St}
theorem thenQ_n (h : K s) : thenQ K Q .norm s := h
theorem thenQ_e {i : Nat} (h : Q (.ex i) s) : thenQ K Q (.ex i) s := h
theorem blockQ_n {id : Nat} (h : Q .norm s) : blockQ id Q .norm s := h
theorem blockQ_t {id : Nat} (h : Q .norm s) : blockQ id Q (.ex id) s := by simp only [blockQ, if_true]; exact h
theorem blockQ_f {id i : Nat} (hn : i ≠ id) (h : Q (.ex i) s) : blockQ id Q (.ex i) s := by simp only [blockQ]; rw [if_neg hn]; exact h
end
end Go.Proofs.Ytfaiogajaaclcaa.Lift
