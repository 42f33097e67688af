/- Texts of the law TopPages, part 5. No conditions. -/
import Derived.Test.YtgibbaadjbohdaaPTopPages04
/- spans.rest: what is left of boxes, by the iterator spans.minus. No conditions. -/
set_option linter.unusedSimpArgs false
set_option linter.unusedVariables false
namespace Go.Proofs.Ytgibbaadjbohdaa
open Go.RowKit Lift

def restP (l : List Bx) (b : Bx) : List Bx := l.flatMap fun a => mnL a b
theorem cut1_len (l : Bx) (d : Nat) (x : Int × Int) : (cut1 l d x).length ≤ 1 := by unfold cut1; split <;> simp
theorem mnGo_len (b : Bx) : ∀ (n : Nat) (l : Bx) (d : Nat), (mnGo b n l d).length ≤ 2 * n
  | 0, _, _ => by simp [mnGo]
  | n + 1, l, d => by
    have h1 := cut1_len l d (pLow l b d)
    have h2 := cut1_len l d (pHigh l b d)
    have h3 := mnGo_len b n (l.set d (pMid l b d)) (d + 1)
    unfold mnGo
    split <;> simp <;> omega
theorem mnL_len (a b : Bx) : (mnL a b).length ≤ 2 * a.length := mnGo_len b _ a 0
theorem restP_len (b : Bx) : ∀ (l : List Bx), (∀ a ∈ l, a.length ≤ 3) → (restP l b).length ≤ 6 * l.length
  | [], _ => by simp [restP]
  | a :: l, h => by
    have h1 := mnL_len a b
    have h2 := h a (List.mem_cons_self ..)
    have h3 := restP_len b l fun x hx => h x (List.mem_cons_of_mem _ hx)
    unfold restP at h3 ⊢
    simp only [List.flatMap_cons, List.length_append, List.length_cons]
    omega
theorem restP_take (b : Bx) (l : List Bx) (k : Nat) (h : k < l.length) : restP (l.take (k + 1)) b = restP (l.take k) b ++ mnL (l[k]?.getD []) b := by
  unfold restP
  rw [← List.take_append_getElem h, List.flatMap_append]
  simp [h]
/-- behind the parts of a dimension so far -/
def ok2 (l b : Bx) (d : Nat) (o : List Bx) : Nat → List Bx
  | 0 => o
  | 1 => o ++ cut1 l d (pLow l b d)
  | _ => o ++ cut1 l d (pLow l b d) ++ cut1 l d (pHigh l b d)
set_option maxRecDepth 100000 in
set_option maxHeartbeats 4000000 in
theorem rest_ac (l : List Bx) (b : Bx) (hl : l.length ≤ 1000000) (hb : OkB b) (ha : ∀ a ∈ l, OkB a ∧ a.length = b.length) : AC Try.prog 40 [.list (bxs l), .list (sps b)] [] [] (.list (bxs (restP l b))) := by
  have h3 : ∀ a ∈ l, a.length ≤ 3 := fun a h => (ha a h).1.len
  have hr6 : ∀ k, (restP (l.take k) b).length ≤ 6 * l.length := fun k => by
    have h1 := restP_len b (l.take k) fun a h => h3 a (List.mem_of_mem_take h)
    have h2 : (l.take k).length ≤ l.length := by simp; omega
    omega
  refine kspans_rest.ac (n0 := 0) (by simp) ⟨.list _, .list _, trivial⟩ trivial rfl ?_
  unfold cspans_rest
  refine aw_seq (aw_region ?_)
  simp (config := {maxSteps := 10000000}) (disch := first | exact okYes (by kernel_rfl) | omega) only [thenQ, List.map, List.length, Nat.zero_add, Nat.reduceMul, envOf, ARun_none, AOpRun, aexec, Option.isSome, hget_n, Bool.false_eq_true, ↓reduceIte, AGo_ok, St.app, putO, eput_c, Nat.reduceBEq, eput_n, cond_false, hups, hput_n, ARun_nil, dropE_c, inL_n, dropE_n]
  refine aw_seq (aw_seq (aw_region ?_))
  simp (config := {maxSteps := 10000000}) (disch := first | exact okYes (by kernel_rfl) | omega) only [thenQ, List.length, Nat.zero_add, Nat.reduceAdd, Nat.reduceMul, ARun_none, AOpRun, aexec, FSt.ev, St.F, ↓eget_h, AGo_ok, St.app, putO, eput_c, Nat.reduceBEq, eput_n, cond_false, hups, List.map, eget_c, bxs_len, ARun_nil, dropE_c, inL_n, dropE_n]
  refine aw_block (aw_loop (fun k : Nat => ⟨[(1, .list (sps b)), (4, .ptr 0 0), (8, .list (bxs l)), (9, .val (.int .i64 l.length)), (10, .val (.int .i64 k))], [(0, [.vec 40 (restP (l.take k) b).length 1]), (40, bcells (restP (l.take k) b))], 48⟩) (fun k => k ≤ l.length) (fun k => l.length - k) ⟨0, by omega, ?_⟩ ?_)
  · refine wk_to [] [(0, 0), (40, 40)] (by kernel_rfl) (by kernel_rfl) (by kernel_rfl) (by kernel_rfl) (by kernel_rfl) ?_ ?_ <;> repeat' (first | exact trivial | exact vr_val _ | exact vr_list _ | exact vr_at _ | exact vr_nil | exact vr_cap0 | exact vr_vec _ _ _ _ rfl | exact vr_own _ _ _ _ _ rfl | exact vr_ptr _ _ _ rfl | exact vr_nilv _ _ _ rfl | exact vr_bot _ | exact vr_cap0v _ _ _ rfl | exact vr_cap0l | apply vr_agg | apply vr_tup | apply vr_fn | refine vr_yld _ _ _ rfl ?_ | exact Ren.bot _ | exact Ren.val _ | exact Ren.list _ | exact Ren.at_ _ | exact Ren.ptr _ _ _ rfl | refine Ren.yld _ _ _ _ _ rfl rfl (RenL.get ?_).2 (fun _ _ _ h => h) | refine vr_fl _ _ _ _ _ (by decide) rfl ?_ ?_ ?_ ?_ | refine And.intro ⟨_, rfl, .inl ⟨_, rfl, by decide, ?_⟩⟩ ?_ | refine And.intro ⟨_, rfl, _, rfl, by decide, ?_⟩ ?_ | refine And.intro ⟨_, rfl, .inr ⟨rfl, rfl, of_decide_eq_true (by kernel_rfl)⟩⟩ ?_ | apply And.intro | exact vrl_flat _ (by first | exact icells_in _ | exact rcells_in _ | exact scells_in _ | exact bcells_in _ | assumption) | fail)
  · intro k hk
    refine aw_seq (aw_region ?_)
    simp (config := {maxSteps := 10000000}) (disch := first | exact okYes (by kernel_rfl) | omega) only [thenQ, List.length, Nat.zero_add, Nat.reduceMul, Nat.reduceAdd, ARun_none, AOpRun, aexec, FSt.ev, St.F, eget_c, Nat.reduceBEq, ↓eget_h, cond_false, isSh, Bool.false_eq_true, ↓reduceIte, Option.map, abin, AGo_ok, St.app, putO, eput_c, eput_n, hups, List.map, ARun_nil, dropE_c, inL_n, dropE_n]
    refine aw_seq (aw_cond rfl (fun hc => ?_) (fun hc => ?_))
    · have hk' : k < l.length := by have := of_decide_eq_true hc; omega
      have hga := bxs_gd l k hk'
      have hta := restP_take b l k hk'
      have hr7 := hr6 (k + 1)
      have hoa := ha (l[k]?.getD []) (by simp [hk'])
      generalize hae : l[k]?.getD [] = a at hga hta hoa
      generalize hoe : restP (l.take k) b = outs at hta
      have hlo : outs.length ≤ 6 * l.length := by rw [← hoe]; exact hr6 k
      refine aw_skip (aw_seq (aw_block (aw_seq (aw_region ?_))))
      simp (config := {maxSteps := 10000000}) (disch := first | exact okYes (by kernel_rfl) | omega) only [thenQ, List.length, Nat.zero_add, Nat.reduceAdd, Nat.reduceMul, ARun_none, AOpRun, aexec, FSt.ev, St.F, eget_c, Nat.reduceBEq, ↓eget_h, cond_false, Int.natCast_nonneg, bxs_all, and_self, ↓reduceIte, opt1, Option.map, Int.toNat_natCast, hga, AGo_ok, St.app, putO, eput_c, eput_n, hups, List.map, run1, List.getElem?_cons_zero, ARun_nil, dropE_c, inL_c, inL_n, beq_self_eq_true, cond_true, dropE_n]
      refine aw_seq (aw_region ?_)
      simp (config := {maxSteps := 10000000}) (disch := first | exact okYes (by kernel_rfl) | omega) only [thenQ, List.length, Nat.zero_add, Nat.reduceAdd, Nat.reduceMul, ARun_none, AOpRun, aexec, FSt.ev, St.F, eget_c, Nat.reduceBEq, ↓eget_h, cond_false, AGo_ok, St.app, putO, eput_c, eput_n, hups, List.map]
      refine acallH (minus_ac a b) [] (VwL.refl _) (.inl rfl) (by simp) (by simp) (by simp) (by intro g hg _; simp at hg; rcases hg with rfl | rfl <;> rfl) (by kernel_rfl) (by kernel_rfl) ?_
      simp (config := {maxSteps := 10000000}) (disch := first | exact okYes (by kernel_rfl) | omega) only [Nat.reduceAdd, St.app, putO, eput_c, Nat.reduceBEq, eput_n, cond_false, hups, hput_c, hput_n, List.map, List.append_nil, ARun_nil, dropE_c, inL_c, inL_n, beq_self_eq_true, cond_true, dropE_n]
      refine aw_block (aw_range [0] [(1, .list (sps b)), (4, .ptr 0 0), (8, .list (bxs l)), (9, .val (.int .i64 l.length)), (10, .val (.int .i64 k))] [.bot, .bot, .bot, .bot, .ptr 0 0] kspans_minus_S1 rfl (by simp) ⟨.inl rfl, .inl rfl, .inl rfl, .inl rfl, .inr rfl, trivial⟩ rfl rfl (by simp) ⟨.inr ⟨rfl, .list _⟩, .inr ⟨rfl, .ptr _ _ (by simp)⟩, .inr ⟨rfl, .list _⟩, .inr ⟨rfl, .val _⟩, .inr ⟨rfl, .val _⟩, trivial⟩ (fun r hr => ?_))
      unfold cspans_minus_S1
      refine aw_seq (aw_region ?_)
      simp (config := {maxSteps := 10000000}) (disch := first | exact okYes (by kernel_rfl) | omega) only [Nat.reduceAdd, thenQ, List.length, Nat.zero_add, Nat.reduceMul, List.nil_append, envOf, ARun_none, AOpRun, aexec, Option.map, run1, FSt.ev, St.F, eget_c, Nat.reduceBEq, ↓eget_h, cond_false, hget_c, ↓hget_h, List.getElem?_cons_zero, AGo_ok, St.app, putO, eput_c, eput_n, hups, List.map]
      refine acallH (clone1_ac a hoa.1.pos (by have := hoa.1.len; omega)) [] (VwL.refl _) (.inl rfl) (by simp) (by simp) (by simp) (by intro g hg _; simp at hg; subst hg; rfl) (by kernel_rfl) (by kernel_rfl) ?_
      simp (config := {maxSteps := 10000000}) (disch := first | exact okYes (by kernel_rfl) | omega) only [Nat.reduceAdd, St.app, putO, eput_c, Nat.reduceBEq, eput_n, cond_false, hups, hput_c, hput_n, List.map, List.append_nil, ARun_none, AOpRun, aexec, FSt.ev, St.F, eget_c, ↓eget_h, AGo_ok, ARun_nil, dropE_c, inL_c, inL_n, beq_self_eq_true, cond_true, dropE_n]
      refine aw_seq (aw_region ?_)
      simp (config := {maxSteps := 10000000}) (disch := first | exact okYes (by kernel_rfl) | omega) only [thenQ, List.length, Nat.zero_add, Nat.reduceAdd, Nat.reduceMul, ARun_none, AOpRun, aexec, FSt.ev, St.F, eget_c, Nat.reduceBEq, ↓eget_h, cond_false, AGo_ok, St.app, putO, eput_c, eput_n, hups, List.map, ARun_nil, dropE_c, inL_c, inL_n, beq_self_eq_true, cond_true, dropE_n]
      have hal : (a.length : Int) ≤ 3 := by have := hoa.1.len; omega
      refine aw_block (aw_loop (fun p : Nat × Bx × List Bx => ⟨[(0, .yld 104 r [.bot, .bot, .bot, .bot, .ptr 0 0]), (2, .ptr 97 0), (4, .vec 120 a.length 2), (12, .val (.int .i64 a.length)), (13, .val (.int .i64 p.1))],
        [(0, [.vec 40 (outs ++ p.2.2).length 1]), (40, bcells (outs ++ p.2.2)), (97, [.list (sps b)]), (120, scells p.2.1)], 200⟩) (fun p => p.1 ≤ a.length ∧ p.2.1.length = a.length ∧ p.2.2 ++ mnGo b (a.length - p.1) p.2.1 p.1 = mnL a b) (fun p => a.length - p.1) ⟨(0, a, []), ⟨by omega, rfl, rfl⟩, ?_⟩ ?_)
      · simp only [List.append_nil]
        refine wk_to [] [(0, 0), (40, 40), (97, 97), (120, 120), (104, 104)] (by kernel_rfl) (by kernel_rfl) (by kernel_rfl) (by kernel_rfl) (by kernel_rfl) ?_ ?_ <;> repeat' (first | exact trivial | exact vr_val _ | exact vr_list _ | exact vr_at _ | exact vr_nil | exact vr_cap0 | exact vr_vec _ _ _ _ rfl | exact vr_own _ _ _ _ _ rfl | exact vr_ptr _ _ _ rfl | exact vr_nilv _ _ _ rfl | exact vr_bot _ | exact vr_cap0v _ _ _ rfl | exact vr_cap0l | apply vr_agg | apply vr_tup | apply vr_fn | refine vr_yld _ _ _ rfl ?_ | exact Ren.bot _ | exact Ren.val _ | exact Ren.list _ | exact Ren.at_ _ | exact Ren.ptr _ _ _ rfl | refine Ren.yld _ _ _ _ _ rfl rfl (RenL.get ?_).2 (fun _ _ _ h => h) | refine vr_fl _ _ _ _ _ (by decide) rfl ?_ ?_ ?_ ?_ | refine And.intro ⟨_, rfl, .inl ⟨_, rfl, by decide, ?_⟩⟩ ?_ | refine And.intro ⟨_, rfl, _, rfl, by decide, ?_⟩ ?_ | refine And.intro ⟨_, rfl, .inr ⟨rfl, rfl, of_decide_eq_true (by kernel_rfl)⟩⟩ ?_ | apply And.intro | exact vrl_flat _ (by first | exact icells_in _ | exact rcells_in _ | exact scells_in _ | exact bcells_in _ | assumption) | fail)
      · rintro ⟨d, left, o⟩ ⟨hd, hll, hmn⟩
        simp only at hd hll hmn
        refine aw_seq (aw_region ?_)
        simp (config := {maxSteps := 10000000}) (disch := first | exact okYes (by kernel_rfl) | omega) only [thenQ, List.length, Nat.zero_add, Nat.reduceMul, Nat.reduceAdd, ARun_none, AOpRun, aexec, FSt.ev, St.F, eget_c, Nat.reduceBEq, ↓eget_h, cond_false, isSh, Bool.false_eq_true, ↓reduceIte, Option.map, abin, AGo_ok, St.app, putO, eput_c, eput_n, hups, List.map, ARun_nil, dropE_c, inL_n, dropE_n]
        refine aw_seq (aw_cond rfl (fun hc => ?_) (fun hc => ?_))
        · have hd' : d < a.length := by have := of_decide_eq_true hc; omega
          have hdI : (d : Int) < (a.length : Int) := by omega
          have hl2 : d < left.length := by omega
          have hdb : d < b.length := by have := hoa.2; omega
          have b1 := hb.low d hdb
          have b2 := hb.le d hdb
          have b3 := hb.high d hdb
          refine aw_skip (aw_seq (aw_block (aw_seq (aw_region ?_))))
          simp (config := {maxSteps := 10000000}) (disch := first | exact okYes (by kernel_rfl) | omega) only [thenQ, List.length, Nat.zero_add, Nat.reduceAdd, Nat.reduceMul, ARun_none, AOpRun, aexec, FSt.ev, St.F, eget_c, Nat.reduceBEq, ↓eget_h, cond_false, AGo_ok, St.app, putO, eput_c, eput_n, hups, List.map, ARun_nil, dropE_c, inL_c, inL_n, beq_self_eq_true, cond_true, dropE_n]
          refine aw_seq (aw_seq (aw_region ?_))
          simp (config := {maxSteps := 10000000}) (disch := first | exact okYes (by kernel_rfl) | omega) only [thenQ, List.length, Nat.zero_add, Nat.reduceAdd, Nat.reduceMul, hdI, decide_true, ARun_none, AOpRun, aexec, FSt.ev, St.F, eget_c, Nat.reduceBEq, ↓eget_h, cond_false, AGo_ok, St.app, putO, eput_c, eput_n, hups, List.map, Int.natCast_nonneg, and_self, ↓reduceIte, Int.toNat_natCast, Nat.add_zero, Option.map, run1, hget_c, ↓hget_h, sc_lo left d hl2, sc_hi left d hl2, List.getElem?_cons_zero, sps_all, opt1, sps_gd b d hdb, List.drop, isSh, Bool.false_eq_true, abin, fits, foldI, mn2, fillD, D.isBot, D.cells, ne_eq, not_true_eq_false, Nat.reduceGT, or_self, splice, List.take, List.nil_append, List.cons_append, List.append_nil, mx2, ARun_nil, dropE_c, inL_c, inL_n, beq_self_eq_true, cond_true, dropE_n]
          have hfit : d * 2 + 2 ≤ (scells left).length := by rw [scells_len]; omega
          have hol2 : o.length ≤ 6 := by
            have h1 := mnL_len a b
            rw [← hmn, List.length_append] at h1
            have := hoa.1.len
            omega
          have hok : ∀ j, (outs ++ ok2 left b d o j).length ≤ 6 * l.length + 8 := fun j => by
            have h1 := cut1_len left d (pLow left b d)
            have h2 := cut1_len left d (pHigh left b d)
            have h3 : (ok2 left b d o j).length ≤ o.length + 2 := by unfold ok2; split <;> simp <;> omega
            rw [List.length_append]; omega
          have hcl := clone2_ac left (by omega) (by omega)
          rw [hll] at hcl
          refine aw_block (aw_loop (fun j : Nat => ⟨[(0, .yld 104 r [.bot, .bot, .bot, .bot, .ptr 0 0]), (2, .ptr 97 0), (4, .vec 120 a.length 2), (5, .val (.int .i64 d)), (12, .val (.int .i64 a.length)), (13, .val (.int .i64 d)),
              (52, .agg [.val (.int .i64 (pLow left b d).1), .val (.int .i64 (pLow left b d).2), .val (.int .i64 (pHigh left b d).1), .val (.int .i64 (pHigh left b d).2)]), (53, .val (.int .i64 j))],
            [(0, [.vec 40 (outs ++ ok2 left b d o j).length 1]), (40, bcells (outs ++ ok2 left b d o j)), (97, [.list (sps b)]), (120, scells left)], 300⟩) (fun j => j ≤ 2) (fun j => 2 - j) ⟨0, by omega, ?_⟩ ?_)
          · simp only [ok2]
            refine wk_to [] [(0, 0), (40, 40), (97, 97), (120, 120), (104, 104)] (by kernel_rfl) (by kernel_rfl) (by kernel_rfl) (by kernel_rfl) (by kernel_rfl) ?_ ?_ <;> repeat' (first | exact trivial | exact vr_val _ | exact vr_list _ | exact vr_at _ | exact vr_nil | exact vr_cap0 | exact vr_vec _ _ _ _ rfl | exact vr_own _ _ _ _ _ rfl | exact vr_ptr _ _ _ rfl | exact vr_nilv _ _ _ rfl | exact vr_bot _ | exact vr_cap0v _ _ _ rfl | exact vr_cap0l | apply vr_agg | apply vr_tup | apply vr_fn | refine vr_yld _ _ _ rfl ?_ | exact Ren.bot _ | exact Ren.val _ | exact Ren.list _ | exact Ren.at_ _ | exact Ren.ptr _ _ _ rfl | refine Ren.yld _ _ _ _ _ rfl rfl (RenL.get ?_).2 (fun _ _ _ h => h) | refine vr_fl _ _ _ _ _ (by decide) rfl ?_ ?_ ?_ ?_ | refine And.intro ⟨_, rfl, .inl ⟨_, rfl, by decide, ?_⟩⟩ ?_ | refine And.intro ⟨_, rfl, _, rfl, by decide, ?_⟩ ?_ | refine And.intro ⟨_, rfl, .inr ⟨rfl, rfl, of_decide_eq_true (by kernel_rfl)⟩⟩ ?_ | apply And.intro | exact vrl_flat _ (by first | exact icells_in _ | exact rcells_in _ | exact scells_in _ | exact bcells_in _ | assumption) | fail)
          · intro j hj
            rcases (by omega : j = 0 ∨ j = 1 ∨ j = 2) with rfl | rfl | rfl
            · refine aw_seq (aw_region ?_)
              simp (config := {maxSteps := 10000000}) (disch := first | exact okYes (by kernel_rfl) | omega) only [thenQ, Nat.reduceSub, List.length, Nat.zero_add, Nat.reduceMul, Nat.reduceAdd, cast_lit, ARun_none, AOpRun, aexec, FSt.ev, St.F, eget_c, Nat.reduceBEq, ↓eget_h, cond_false, isSh, Bool.false_eq_true, ↓reduceIte, Option.map, abin, Int.reduceLT, decide_true, AGo_ok, St.app, putO, eput_c, eput_n, hups, List.map, ARun_nil, dropE_c, inL_n, dropE_n]
              refine aw_seq (aw_cond rfl (fun _ => ?_) (fun hc => nomatch hc))
              refine aw_skip (aw_seq (aw_block (aw_seq (aw_region ?_))))
              simp (config := {maxSteps := 10000000}) (disch := first | exact okYes (by kernel_rfl) | omega) only [thenQ, List.length, Nat.zero_add, Nat.reduceAdd, Nat.reduceMul, ARun_none, AOpRun, aexec, FSt.ev, St.F, eget_c, Nat.reduceBEq, ↓eget_h, cond_false, D.isAgg, Int.le_refl, cast_lit, Int.reduceLT, Int.toNat_zero, D.cells, Nat.reduceLeDiff, and_self, ↓reduceIte, List.drop, List.take, AGo_ok, St.app, putO, eput_c, eput_n, hups, List.map, Option.isSome, hget_c, hget_n, Bool.false_eq_true, hput_c, hput_n, ↓hget_h, D.isBot, List.all, D.leaf, Bool.and_true, splice, List.nil_append, List.append_nil, beq_self_eq_true, cond_true, ARun_nil, dropE_c, inL_c, inL_n, dropE_n]
              refine aw_seq (aw_seq (aw_region ?_))
              simp (config := {maxSteps := 10000000}) (disch := first | exact okYes (by kernel_rfl) | omega) only [thenQ, List.length, Nat.zero_add, Nat.reduceAdd, Nat.reduceMul, ARun_none, AOpRun, aexec, FSt.ev, St.F, eget_c, Nat.reduceBEq, ↓eget_h, cond_false, AGo_ok, St.app, putO, eput_c, eput_n, hups, List.map, Option.map, run1, hget_c, ↓hget_h, List.getElem?_cons_zero, List.getElem?_cons_succ, isSh, Bool.false_eq_true, ↓reduceIte, abin, ARun_nil, dropE_c, inL_c, inL_n, beq_self_eq_true, cond_true, dropE_n]
              refine aw_cond rfl (fun hc => ?_) (fun hc => ?_)
              · have hx : cut1 left d (pLow left b d) = [] := if_pos (of_decide_eq_true hc)
                refine aw_exit ?_
                simp only [thenQ, blockQ, if_true]
                refine aw_region ?_
                simp (config := {maxSteps := 10000000}) (disch := first | exact okYes (by kernel_rfl) | omega) only [thenQ, List.length, Nat.zero_add, Nat.reduceAdd, Nat.reduceMul, ARun_none, AOpRun, aexec, FSt.ev, St.F, eget_c, Nat.reduceBEq, ↓eget_h, cond_false, isSh, Bool.false_eq_true, ↓reduceIte, Option.map, abin, Int.reduceAdd, fits, AGo_ok, St.app, putO, eput_c, eput_n, hups, List.map, beq_self_eq_true, cond_true, ARun_nil, dropE_c, inL_c, inL_n, dropE_n]
                refine ⟨1, by omega, by omega, ?_⟩
                simp only [ok2, hx, List.append_nil]
                refine wk_to [] [(0, 0), (40, 40), (97, 97), (120, 120), (104, 104)] (by kernel_rfl) (by kernel_rfl) (by kernel_rfl) (by kernel_rfl) (by kernel_rfl) ?_ ?_ <;> repeat' (first | exact trivial | exact vr_val _ | exact vr_list _ | exact vr_at _ | exact vr_nil | exact vr_cap0 | exact vr_vec _ _ _ _ rfl | exact vr_own _ _ _ _ _ rfl | exact vr_ptr _ _ _ rfl | exact vr_nilv _ _ _ rfl | exact vr_bot _ | exact vr_cap0v _ _ _ rfl | exact vr_cap0l | apply vr_agg | apply vr_tup | apply vr_fn | refine vr_yld _ _ _ rfl ?_ | exact Ren.bot _ | exact Ren.val _ | exact Ren.list _ | exact Ren.at_ _ | exact Ren.ptr _ _ _ rfl | refine Ren.yld _ _ _ _ _ rfl rfl (RenL.get ?_).2 (fun _ _ _ h => h) | refine vr_fl _ _ _ _ _ (by decide) rfl ?_ ?_ ?_ ?_ | refine And.intro ⟨_, rfl, .inl ⟨_, rfl, by decide, ?_⟩⟩ ?_ | refine And.intro ⟨_, rfl, _, rfl, by decide, ?_⟩ ?_ | refine And.intro ⟨_, rfl, .inr ⟨rfl, rfl, of_decide_eq_true (by kernel_rfl)⟩⟩ ?_ | apply And.intro | exact vrl_flat _ (by first | exact icells_in _ | exact rcells_in _ | exact scells_in _ | exact bcells_in _ | assumption) | fail)
              · have hx : cut1 left d (pLow left b d) = [left.set d (pLow left b d)] := if_neg (of_decide_eq_false hc)
                refine aw_skip (aw_seq (aw_region ?_))
                simp (config := {maxSteps := 10000000}) (disch := first | exact okYes (by kernel_rfl) | omega) only [thenQ, List.length, Nat.zero_add, Nat.reduceAdd, Nat.reduceMul, ARun_none, AOpRun, aexec, FSt.ev, St.F, eget_c, Nat.reduceBEq, ↓eget_h, cond_false, AGo_ok, St.app, putO, eput_c, eput_n, hups, List.map]
                refine acallH hcl [] (VwL.refl _) (.inl rfl) (by simp) (by simp) (by intro x hx; simp at hx; subst hx; rfl) (by intro g hg hn; simp at hg hn; rcases hg with rfl | rfl <;> first | rfl | exact absurd rfl hn) (by kernel_rfl) (by kernel_rfl) ?_
                simp (config := {maxSteps := 10000000}) (disch := first | exact okYes (by kernel_rfl) | omega) only [Nat.reduceAdd, St.app, putO, eput_c, Nat.reduceBEq, eput_n, cond_false, hups, hput_c, hput_n, beq_self_eq_true, cond_true, List.map, List.append_nil, ARun_none, AOpRun, aexec, FSt.ev, St.F, eget_c, ↓eget_h, AGo_ok, ARun_nil, dropE_c, inL_c, inL_n, dropE_n]
                refine aw_seq (aw_region ?_)
                simp (config := {maxSteps := 10000000}) (disch := first | exact okYes (by kernel_rfl) | omega) only [thenQ, List.length, Nat.zero_add, Nat.reduceAdd, Nat.reduceMul, ARun_none, AOpRun, aexec, FSt.ev, St.F, eget_c, Nat.reduceBEq, ↓eget_h, cond_false, AGo_ok, St.app, putO, eput_c, eput_n, hups, List.map, hget_c, ↓hget_h, Nat.reduceLeDiff, ↓reduceIte, List.drop, List.take, Int.natCast_nonneg, hdI, and_self, Int.toNat_natCast, D.isBot, D.cells, hfit, List.all, D.leaf, Bool.and_true, splice, sc_t2 left d _ _ hl2, hput_c, beq_self_eq_true, hput_n, cond_true, ARun_nil, dropE_c, inL_c, inL_n, dropE_n]
                refine aw_wk (s' := ⟨[(0, .yld 104 r [.bot, .bot, .bot, .bot, .ptr 0 0]), (2, .ptr 97 0), (4, .vec 120 a.length 2), (5, .val (.int .i64 d)), (8, .list (sps (left.set d (pLow left b d)))), (12, .val (.int .i64 a.length)), (13, .val (.int .i64 d)), (52, .agg [.val (.int .i64 (pLow left b d).1), .val (.int .i64 (pLow left b d).2), .val (.int .i64 (pHigh left b d).1), .val (.int .i64 (pHigh left b d).2)]), (53, .val (.int .i64 0))], [(0, [.vec 40 (outs ++ ok2 left b d o 0).length 1]), (40, bcells (outs ++ ok2 left b d o 0)), (97, [.list (sps b)]), (120, scells left)], 500⟩) ?_ ?_
                · refine wk_to [380] [(0, 0), (40, 40), (97, 97), (120, 120), (104, 104)] (by kernel_rfl) (by kernel_rfl) (by kernel_rfl) (by kernel_rfl) (by kernel_rfl) ?_ ?_ <;> repeat' (first | exact trivial | exact vr_val _ | exact vr_list _ | exact vr_at _ | exact vr_nil | exact vr_cap0 | exact vr_vec _ _ _ _ rfl | exact vr_own _ _ _ _ _ rfl | exact vr_ptr _ _ _ rfl | exact vr_nilv _ _ _ rfl | exact vr_bot _ | exact vr_cap0v _ _ _ rfl | exact vr_cap0l | apply vr_agg | apply vr_tup | apply vr_fn | refine vr_yld _ _ _ rfl ?_ | exact Ren.bot _ | exact Ren.val _ | exact Ren.list _ | exact Ren.at_ _ | exact Ren.ptr _ _ _ rfl | refine Ren.yld _ _ _ _ _ rfl rfl (RenL.get ?_).2 (fun _ _ _ h => h) | refine vr_fl _ _ _ _ _ (by decide) rfl ?_ ?_ ?_ ?_ | refine And.intro ⟨_, rfl, .inl ⟨_, rfl, by decide, ?_⟩⟩ ?_ | refine And.intro ⟨_, rfl, _, rfl, by decide, ?_⟩ ?_ | refine And.intro ⟨_, rfl, .inr ⟨rfl, rfl, of_decide_eq_true (by kernel_rfl)⟩⟩ ?_ | apply And.intro | exact vrl_flat _ (by first | exact icells_in _ | exact rcells_in _ | exact scells_in _ | exact bcells_in _ | assumption) | fail)
                  all_goals first | exact sps_two _ | exact (sps_len _).trans (by simp [hll]) | exact sps_flat _ | exact scells_in _
                refine aw_seq (aw_region_yield hr [⟨some 67, .mv (.tmp 0), none, []⟩, ⟨some 68, .mv (.tmp 8), none, []⟩] [⟨some 70, .un .not (.tmp 69), none, []⟩] ?_)
                simp (config := {maxSteps := 10000000}) (disch := first | exact okYes (by kernel_rfl) | omega) only [List.length, Nat.zero_add, Nat.reduceAdd, Nat.reduceMul, ARun_none, AOpRun, aexec, FSt.ev, St.F, ↓eget_h, AGo_ok, St.app, putO, eput_c, Nat.reduceBEq, eput_n, cond_false, hups, List.map, eget_c, ARun_nil]
                refine yieldK [0, 104, 97, 120] [(0, .yld 104 r [.bot, .bot, .bot, .bot, .ptr 0 0]), (2, .ptr 97 0), (4, .vec 120 a.length 2), (5, .val (.int .i64 d)), (12, .val (.int .i64 a.length)), (13, .val (.int .i64 d)), (52, .agg [.val (.int .i64 (pLow left b d).1), .val (.int .i64 (pLow left b d).2), .val (.int .i64 (pHigh left b d).1), .val (.int .i64 (pHigh left b d).2)]), (53, .val (.int .i64 0))] [.list (sps (left.set d (pLow left b d)))] rfl rfl hr rfl rfl rfl (by simp [hpY, noY, bcells_noY, scells_noY]) (by simp)
                  ⟨.inr ⟨rfl, .yld _ _ _ (by simp) (by intro d hd; simp at hd; rcases hd with rfl | rfl; exact .bot; exact .ptr _ _ (by simp))⟩, .inr ⟨rfl, .ptr _ _ (by simp)⟩, .inr ⟨rfl, .vec _ _ _ (by simp)⟩, .inr ⟨rfl, .val _⟩, .inr ⟨rfl, .val _⟩, .inr ⟨rfl, .val _⟩, .inr ⟨rfl, .agg _ (by intro d hd; simp at hd; rcases hd with rfl | rfl | rfl | rfl <;> exact .val _)⟩, .inr ⟨rfl, .val _⟩, trivial⟩ ?_
                unfold cspans_rest_B17
                have hol : (outs ++ ok2 left b d o 0).length ≤ 10000000 := by have := hok 0; omega
                have hot : (bcells (outs ++ ok2 left b d o 0)).take (outs ++ ok2 left b d o 0).length = bcells (outs ++ ok2 left b d o 0) := take_all _ _ (bcells_len _)
                have hbl := bcells_len (outs ++ ok2 left b d o 0)
                refine aw_block (aw_region ?_)
                simp (config := {maxSteps := 10000000}) (disch := first | exact okYes (by kernel_rfl) | omega) only [blockQ, List.length, Nat.zero_add, Nat.reduceAdd, Nat.reduceMul, bodyE, asgE, parE, envOf, eput_c, Nat.reduceBEq, eput_n, cond_false, eget_c, ↓eget_h, ARun_none, AOpRun, aexec, Option.map, run1, FSt.ev, St.F, hget_c, beq_self_eq_true, hget_n, cond_true, List.getElem?_cons_zero, AGo_ok, St.app, putO, hups, List.map, Option.isSome, Bool.false_eq_true, ↓reduceIte, fillD, D.isBot, D.cells, ne_eq, not_true_eq_false, Nat.reduceGT, or_self, splice, List.take, List.nil_append, List.drop, List.append_nil, hput_c, hput_n, base, ↓hget_h, Nat.mul_one, hbl, Nat.le_refl, and_self, hot, elems, List.all, D.leaf, Bool.and_true, and_true, ups, List.cons_append]
                refine ago_if (by omega) ?_
                simp (config := {maxSteps := 10000000}) (disch := first | exact okYes (by kernel_rfl) | omega) only [AGo_ok, Nat.reduceAdd, St.app, putO, eput_c, Nat.reduceBEq, eput_n, cond_false, hups, hput_c, hput_n, hdel_c, beq_self_eq_true, hdel_n, cond_true, List.map, ARun_none, AOpRun, aexec, FSt.ev, St.F, eget_c, ↓eget_h, hget_c, hget_n, D.isBot, D.cells, List.length, Nat.zero_add, Nat.reduceLeDiff, List.all, D.leaf, Bool.and_true, and_self, ↓reduceIte, splice, List.take, List.nil_append, List.drop, List.append_nil, ARun_nil, dropE_c, inL_c, inL_n, dropE_n]
                refine yieldQ (by simp [hpY, noY, bcells_noY, scells_noY]) (of_decide_eq_true (by kernel_rfl)) ?_
                simp (config := {maxSteps := 10000000}) (disch := first | exact okYes (by kernel_rfl) | omega) only [Nat.reduceAdd, Nat.reduceMul, Nat.reduceSub, thenQ, List.length, Nat.zero_add, putO, eput_c, Nat.reduceBEq, eput_n, cond_false, ARun_none, AOpRun, aexec, FSt.ev, St.F, eget_c, ↓eget_h, Bool.not_true, AGo_ok, St.app, hups, List.map, ARun_nil, dropE_c, inL_c, inL_n, beq_self_eq_true, cond_true, dropE_n]
                refine aw_cond rfl (fun hc => nomatch hc) (fun _ => ?_)
                refine aw_skip ?_
                simp only [thenQ, blockQ, if_true]
                refine aw_region ?_
                simp (config := {maxSteps := 10000000}) (disch := first | exact okYes (by kernel_rfl) | omega) only [thenQ, List.length, Nat.zero_add, Nat.reduceAdd, Nat.reduceMul, ARun_none, AOpRun, aexec, FSt.ev, St.F, eget_c, Nat.reduceBEq, ↓eget_h, cond_false, isSh, Bool.false_eq_true, ↓reduceIte, Option.map, abin, Int.reduceAdd, fits, AGo_ok, St.app, putO, eput_c, eput_n, hups, List.map, beq_self_eq_true, cond_true, ARun_nil, dropE_c, inL_c, inL_n, dropE_n]
                refine ⟨1, by omega, by omega, ?_⟩
                have hbe : bcells (outs ++ ok2 left b d o 1) = bcells (outs ++ ok2 left b d o 0) ++ [.list (sps (left.set d (pLow left b d)))] := by rw [bcells_app]; simp only [ok2, hx, List.append_assoc]
                have hle : (outs ++ ok2 left b d o 1).length = (outs ++ ok2 left b d o 0).length + 1 := by simp only [ok2, hx, List.length_append, List.length_cons, List.length_nil]; omega
                rw [hbe, hle]
                have hcin : ∀ x ∈ bcells (outs ++ ok2 left b d o 0) ++ [.list (sps (left.set d (pLow left b d)))], In (fun _ => False) x := by
                  rw [bcells_app]; exact bcells_in _
                refine wk_to [] [(0, 0), (40, 540), (97, 97), (120, 120), (104, 104)] (by kernel_rfl) (by kernel_rfl) (by kernel_rfl) (by kernel_rfl) (by kernel_rfl) ?_ ?_ <;> repeat' (first | exact trivial | exact vr_val _ | exact vr_list _ | exact vr_at _ | exact vr_nil | exact vr_cap0 | exact vr_vec _ _ _ _ rfl | exact vr_own _ _ _ _ _ rfl | exact vr_ptr _ _ _ rfl | exact vr_nilv _ _ _ rfl | exact vr_bot _ | exact vr_cap0v _ _ _ rfl | exact vr_cap0l | apply vr_agg | apply vr_tup | apply vr_fn | refine vr_yld _ _ _ rfl ?_ | exact Ren.bot _ | exact Ren.val _ | exact Ren.list _ | exact Ren.at_ _ | exact Ren.ptr _ _ _ rfl | refine Ren.yld _ _ _ _ _ rfl rfl (RenL.get ?_).2 (fun _ _ _ h => h) | refine vr_fl _ _ _ _ _ (by decide) rfl ?_ ?_ ?_ ?_ | refine And.intro ⟨_, rfl, .inl ⟨_, rfl, by decide, ?_⟩⟩ ?_ | refine And.intro ⟨_, rfl, _, rfl, by decide, ?_⟩ ?_ | refine And.intro ⟨_, rfl, .inr ⟨rfl, rfl, of_decide_eq_true (by kernel_rfl)⟩⟩ ?_ | apply And.intro | exact vrl_flat _ (by first | exact icells_in _ | exact rcells_in _ | exact scells_in _ | exact bcells_in _ | assumption) | fail)
            · refine aw_seq (aw_region ?_)
              simp (config := {maxSteps := 10000000}) (disch := first | exact okYes (by kernel_rfl) | omega) only [thenQ, Nat.reduceSub, List.length, Nat.zero_add, Nat.reduceMul, Nat.reduceAdd, cast_lit, ARun_none, AOpRun, aexec, FSt.ev, St.F, eget_c, Nat.reduceBEq, ↓eget_h, cond_false, isSh, Bool.false_eq_true, ↓reduceIte, Option.map, abin, Int.reduceLT, decide_true, AGo_ok, St.app, putO, eput_c, eput_n, hups, List.map, ARun_nil, dropE_c, inL_n, dropE_n]
              refine aw_seq (aw_cond rfl (fun _ => ?_) (fun hc => nomatch hc))
              refine aw_skip (aw_seq (aw_block (aw_seq (aw_region ?_))))
              simp (config := {maxSteps := 10000000}) (disch := first | exact okYes (by kernel_rfl) | omega) only [thenQ, List.length, Nat.zero_add, Nat.reduceAdd, Nat.reduceMul, ARun_none, AOpRun, aexec, FSt.ev, St.F, eget_c, Nat.reduceBEq, ↓eget_h, cond_false, D.isAgg, Int.reduceLE, cast_lit, Int.reduceLT, Int.reduceToNat, D.cells, Nat.reduceLeDiff, and_self, ↓reduceIte, List.drop, List.take, AGo_ok, St.app, putO, eput_c, eput_n, hups, List.map, Option.isSome, hget_c, hget_n, Bool.false_eq_true, hput_c, hput_n, ↓hget_h, D.isBot, List.all, D.leaf, Bool.and_true, splice, List.nil_append, List.append_nil, beq_self_eq_true, cond_true, ARun_nil, dropE_c, inL_c, inL_n, dropE_n]
              refine aw_seq (aw_seq (aw_region ?_))
              simp (config := {maxSteps := 10000000}) (disch := first | exact okYes (by kernel_rfl) | omega) only [thenQ, List.length, Nat.zero_add, Nat.reduceAdd, Nat.reduceMul, ARun_none, AOpRun, aexec, FSt.ev, St.F, eget_c, Nat.reduceBEq, ↓eget_h, cond_false, AGo_ok, St.app, putO, eput_c, eput_n, hups, List.map, Option.map, run1, hget_c, ↓hget_h, List.getElem?_cons_zero, List.getElem?_cons_succ, isSh, Bool.false_eq_true, ↓reduceIte, abin, ARun_nil, dropE_c, inL_c, inL_n, beq_self_eq_true, cond_true, dropE_n]
              refine aw_cond rfl (fun hc => ?_) (fun hc => ?_)
              · have hx : cut1 left d (pHigh left b d) = [] := if_pos (of_decide_eq_true hc)
                refine aw_exit ?_
                simp only [thenQ, blockQ, if_true]
                refine aw_region ?_
                simp (config := {maxSteps := 10000000}) (disch := first | exact okYes (by kernel_rfl) | omega) only [thenQ, List.length, Nat.zero_add, Nat.reduceAdd, Nat.reduceMul, ARun_none, AOpRun, aexec, FSt.ev, St.F, eget_c, Nat.reduceBEq, ↓eget_h, cond_false, isSh, Bool.false_eq_true, ↓reduceIte, Option.map, abin, Int.reduceAdd, fits, AGo_ok, St.app, putO, eput_c, eput_n, hups, List.map, beq_self_eq_true, cond_true, ARun_nil, dropE_c, inL_c, inL_n, dropE_n]
                refine ⟨2, by omega, by omega, ?_⟩
                simp only [ok2, hx, List.append_nil]
                refine wk_to [] [(0, 0), (40, 40), (97, 97), (120, 120), (104, 104)] (by kernel_rfl) (by kernel_rfl) (by kernel_rfl) (by kernel_rfl) (by kernel_rfl) ?_ ?_ <;> repeat' (first | exact trivial | exact vr_val _ | exact vr_list _ | exact vr_at _ | exact vr_nil | exact vr_cap0 | exact vr_vec _ _ _ _ rfl | exact vr_own _ _ _ _ _ rfl | exact vr_ptr _ _ _ rfl | exact vr_nilv _ _ _ rfl | exact vr_bot _ | exact vr_cap0v _ _ _ rfl | exact vr_cap0l | apply vr_agg | apply vr_tup | apply vr_fn | refine vr_yld _ _ _ rfl ?_ | exact Ren.bot _ | exact Ren.val _ | exact Ren.list _ | exact Ren.at_ _ | exact Ren.ptr _ _ _ rfl | refine Ren.yld _ _ _ _ _ rfl rfl (RenL.get ?_).2 (fun _ _ _ h => h) | refine vr_fl _ _ _ _ _ (by decide) rfl ?_ ?_ ?_ ?_ | refine And.intro ⟨_, rfl, .inl ⟨_, rfl, by decide, ?_⟩⟩ ?_ | refine And.intro ⟨_, rfl, _, rfl, by decide, ?_⟩ ?_ | refine And.intro ⟨_, rfl, .inr ⟨rfl, rfl, of_decide_eq_true (by kernel_rfl)⟩⟩ ?_ | apply And.intro | exact vrl_flat _ (by first | exact icells_in _ | exact rcells_in _ | exact scells_in _ | exact bcells_in _ | assumption) | fail)
              · have hx : cut1 left d (pHigh left b d) = [left.set d (pHigh left b d)] := if_neg (of_decide_eq_false hc)
                refine aw_skip (aw_seq (aw_region ?_))
                simp (config := {maxSteps := 10000000}) (disch := first | exact okYes (by kernel_rfl) | omega) only [thenQ, List.length, Nat.zero_add, Nat.reduceAdd, Nat.reduceMul, ARun_none, AOpRun, aexec, FSt.ev, St.F, eget_c, Nat.reduceBEq, ↓eget_h, cond_false, AGo_ok, St.app, putO, eput_c, eput_n, hups, List.map]
                refine acallH hcl [] (VwL.refl _) (.inl rfl) (by simp) (by simp) (by intro x hx; simp at hx; subst hx; rfl) (by intro g hg hn; simp at hg hn; rcases hg with rfl | rfl <;> first | rfl | exact absurd rfl hn) (by kernel_rfl) (by kernel_rfl) ?_
                simp (config := {maxSteps := 10000000}) (disch := first | exact okYes (by kernel_rfl) | omega) only [Nat.reduceAdd, St.app, putO, eput_c, Nat.reduceBEq, eput_n, cond_false, hups, hput_c, hput_n, beq_self_eq_true, cond_true, List.map, List.append_nil, ARun_none, AOpRun, aexec, FSt.ev, St.F, eget_c, ↓eget_h, AGo_ok, ARun_nil, dropE_c, inL_c, inL_n, dropE_n]
                refine aw_seq (aw_region ?_)
                simp (config := {maxSteps := 10000000}) (disch := first | exact okYes (by kernel_rfl) | omega) only [thenQ, List.length, Nat.zero_add, Nat.reduceAdd, Nat.reduceMul, ARun_none, AOpRun, aexec, FSt.ev, St.F, eget_c, Nat.reduceBEq, ↓eget_h, cond_false, AGo_ok, St.app, putO, eput_c, eput_n, hups, List.map, hget_c, ↓hget_h, Nat.reduceLeDiff, ↓reduceIte, List.drop, List.take, Int.natCast_nonneg, hdI, and_self, Int.toNat_natCast, D.isBot, D.cells, hfit, List.all, D.leaf, Bool.and_true, splice, sc_t2 left d _ _ hl2, hput_c, beq_self_eq_true, hput_n, cond_true, ARun_nil, dropE_c, inL_c, inL_n, dropE_n]
                refine aw_wk (s' := ⟨[(0, .yld 104 r [.bot, .bot, .bot, .bot, .ptr 0 0]), (2, .ptr 97 0), (4, .vec 120 a.length 2), (5, .val (.int .i64 d)), (8, .list (sps (left.set d (pHigh left b d)))), (12, .val (.int .i64 a.length)), (13, .val (.int .i64 d)), (52, .agg [.val (.int .i64 (pLow left b d).1), .val (.int .i64 (pLow left b d).2), .val (.int .i64 (pHigh left b d).1), .val (.int .i64 (pHigh left b d).2)]), (53, .val (.int .i64 1))], [(0, [.vec 40 (outs ++ ok2 left b d o 1).length 1]), (40, bcells (outs ++ ok2 left b d o 1)), (97, [.list (sps b)]), (120, scells left)], 500⟩) ?_ ?_
                · refine wk_to [380] [(0, 0), (40, 40), (97, 97), (120, 120), (104, 104)] (by kernel_rfl) (by kernel_rfl) (by kernel_rfl) (by kernel_rfl) (by kernel_rfl) ?_ ?_ <;> repeat' (first | exact trivial | exact vr_val _ | exact vr_list _ | exact vr_at _ | exact vr_nil | exact vr_cap0 | exact vr_vec _ _ _ _ rfl | exact vr_own _ _ _ _ _ rfl | exact vr_ptr _ _ _ rfl | exact vr_nilv _ _ _ rfl | exact vr_bot _ | exact vr_cap0v _ _ _ rfl | exact vr_cap0l | apply vr_agg | apply vr_tup | apply vr_fn | refine vr_yld _ _ _ rfl ?_ | exact Ren.bot _ | exact Ren.val _ | exact Ren.list _ | exact Ren.at_ _ | exact Ren.ptr _ _ _ rfl | refine Ren.yld _ _ _ _ _ rfl rfl (RenL.get ?_).2 (fun _ _ _ h => h) | refine vr_fl _ _ _ _ _ (by decide) rfl ?_ ?_ ?_ ?_ | refine And.intro ⟨_, rfl, .inl ⟨_, rfl, by decide, ?_⟩⟩ ?_ | refine And.intro ⟨_, rfl, _, rfl, by decide, ?_⟩ ?_ | refine And.intro ⟨_, rfl, .inr ⟨rfl, rfl, of_decide_eq_true (by kernel_rfl)⟩⟩ ?_ | apply And.intro | exact vrl_flat _ (by first | exact icells_in _ | exact rcells_in _ | exact scells_in _ | exact bcells_in _ | assumption) | fail)
                  all_goals first | exact sps_two _ | exact (sps_len _).trans (by simp [hll]) | exact sps_flat _ | exact scells_in _
                refine aw_seq (aw_region_yield hr [⟨some 67, .mv (.tmp 0), none, []⟩, ⟨some 68, .mv (.tmp 8), none, []⟩] [⟨some 70, .un .not (.tmp 69), none, []⟩] ?_)
                simp (config := {maxSteps := 10000000}) (disch := first | exact okYes (by kernel_rfl) | omega) only [List.length, Nat.zero_add, Nat.reduceAdd, Nat.reduceMul, ARun_none, AOpRun, aexec, FSt.ev, St.F, ↓eget_h, AGo_ok, St.app, putO, eput_c, Nat.reduceBEq, eput_n, cond_false, hups, List.map, eget_c, ARun_nil]
                refine yieldK [0, 104, 97, 120] [(0, .yld 104 r [.bot, .bot, .bot, .bot, .ptr 0 0]), (2, .ptr 97 0), (4, .vec 120 a.length 2), (5, .val (.int .i64 d)), (12, .val (.int .i64 a.length)), (13, .val (.int .i64 d)), (52, .agg [.val (.int .i64 (pLow left b d).1), .val (.int .i64 (pLow left b d).2), .val (.int .i64 (pHigh left b d).1), .val (.int .i64 (pHigh left b d).2)]), (53, .val (.int .i64 1))] [.list (sps (left.set d (pHigh left b d)))] rfl rfl hr rfl rfl rfl (by simp [hpY, noY, bcells_noY, scells_noY]) (by simp)
                  ⟨.inr ⟨rfl, .yld _ _ _ (by simp) (by intro d hd; simp at hd; rcases hd with rfl | rfl; exact .bot; exact .ptr _ _ (by simp))⟩, .inr ⟨rfl, .ptr _ _ (by simp)⟩, .inr ⟨rfl, .vec _ _ _ (by simp)⟩, .inr ⟨rfl, .val _⟩, .inr ⟨rfl, .val _⟩, .inr ⟨rfl, .val _⟩, .inr ⟨rfl, .agg _ (by intro d hd; simp at hd; rcases hd with rfl | rfl | rfl | rfl <;> exact .val _)⟩, .inr ⟨rfl, .val _⟩, trivial⟩ ?_
                unfold cspans_rest_B17
                have hol : (outs ++ ok2 left b d o 1).length ≤ 10000000 := by have := hok 1; omega
                have hot : (bcells (outs ++ ok2 left b d o 1)).take (outs ++ ok2 left b d o 1).length = bcells (outs ++ ok2 left b d o 1) := take_all _ _ (bcells_len _)
                have hbl := bcells_len (outs ++ ok2 left b d o 1)
                refine aw_block (aw_region ?_)
                simp (config := {maxSteps := 10000000}) (disch := first | exact okYes (by kernel_rfl) | omega) only [blockQ, List.length, Nat.zero_add, Nat.reduceAdd, Nat.reduceMul, bodyE, asgE, parE, envOf, eput_c, Nat.reduceBEq, eput_n, cond_false, eget_c, ↓eget_h, ARun_none, AOpRun, aexec, Option.map, run1, FSt.ev, St.F, hget_c, beq_self_eq_true, hget_n, cond_true, List.getElem?_cons_zero, AGo_ok, St.app, putO, hups, List.map, Option.isSome, Bool.false_eq_true, ↓reduceIte, fillD, D.isBot, D.cells, ne_eq, not_true_eq_false, Nat.reduceGT, or_self, splice, List.take, List.nil_append, List.drop, List.append_nil, hput_c, hput_n, base, ↓hget_h, Nat.mul_one, hbl, Nat.le_refl, and_self, hot, elems, List.all, D.leaf, Bool.and_true, and_true, ups, List.cons_append]
                refine ago_if (by omega) ?_
                simp (config := {maxSteps := 10000000}) (disch := first | exact okYes (by kernel_rfl) | omega) only [AGo_ok, Nat.reduceAdd, St.app, putO, eput_c, Nat.reduceBEq, eput_n, cond_false, hups, hput_c, hput_n, hdel_c, beq_self_eq_true, hdel_n, cond_true, List.map, ARun_none, AOpRun, aexec, FSt.ev, St.F, eget_c, ↓eget_h, hget_c, hget_n, D.isBot, D.cells, List.length, Nat.zero_add, Nat.reduceLeDiff, List.all, D.leaf, Bool.and_true, and_self, ↓reduceIte, splice, List.take, List.nil_append, List.drop, List.append_nil, ARun_nil, dropE_c, inL_c, inL_n, dropE_n]
                refine yieldQ (by simp [hpY, noY, bcells_noY, scells_noY]) (of_decide_eq_true (by kernel_rfl)) ?_
                simp (config := {maxSteps := 10000000}) (disch := first | exact okYes (by kernel_rfl) | omega) only [Nat.reduceAdd, Nat.reduceMul, Nat.reduceSub, thenQ, List.length, Nat.zero_add, putO, eput_c, Nat.reduceBEq, eput_n, cond_false, ARun_none, AOpRun, aexec, FSt.ev, St.F, eget_c, ↓eget_h, Bool.not_true, AGo_ok, St.app, hups, List.map, ARun_nil, dropE_c, inL_c, inL_n, beq_self_eq_true, cond_true, dropE_n]
                refine aw_cond rfl (fun hc => nomatch hc) (fun _ => ?_)
                refine aw_skip ?_
                simp only [thenQ, blockQ, if_true]
                refine aw_region ?_
                simp (config := {maxSteps := 10000000}) (disch := first | exact okYes (by kernel_rfl) | omega) only [thenQ, List.length, Nat.zero_add, Nat.reduceAdd, Nat.reduceMul, ARun_none, AOpRun, aexec, FSt.ev, St.F, eget_c, Nat.reduceBEq, ↓eget_h, cond_false, isSh, Bool.false_eq_true, ↓reduceIte, Option.map, abin, Int.reduceAdd, fits, AGo_ok, St.app, putO, eput_c, eput_n, hups, List.map, beq_self_eq_true, cond_true, ARun_nil, dropE_c, inL_c, inL_n, dropE_n]
                refine ⟨2, by omega, by omega, ?_⟩
                have hbe : bcells (outs ++ ok2 left b d o 2) = bcells (outs ++ ok2 left b d o 1) ++ [.list (sps (left.set d (pHigh left b d)))] := by rw [bcells_app]; simp only [ok2, hx, List.append_assoc]
                have hle : (outs ++ ok2 left b d o 2).length = (outs ++ ok2 left b d o 1).length + 1 := by simp only [ok2, hx, List.length_append, List.length_cons, List.length_nil]; omega
                rw [hbe, hle]
                have hcin : ∀ x ∈ bcells (outs ++ ok2 left b d o 1) ++ [.list (sps (left.set d (pHigh left b d)))], In (fun _ => False) x := by
                  rw [bcells_app]; exact bcells_in _
                refine wk_to [] [(0, 0), (40, 540), (97, 97), (120, 120), (104, 104)] (by kernel_rfl) (by kernel_rfl) (by kernel_rfl) (by kernel_rfl) (by kernel_rfl) ?_ ?_ <;> repeat' (first | exact trivial | exact vr_val _ | exact vr_list _ | exact vr_at _ | exact vr_nil | exact vr_cap0 | exact vr_vec _ _ _ _ rfl | exact vr_own _ _ _ _ _ rfl | exact vr_ptr _ _ _ rfl | exact vr_nilv _ _ _ rfl | exact vr_bot _ | exact vr_cap0v _ _ _ rfl | exact vr_cap0l | apply vr_agg | apply vr_tup | apply vr_fn | refine vr_yld _ _ _ rfl ?_ | exact Ren.bot _ | exact Ren.val _ | exact Ren.list _ | exact Ren.at_ _ | exact Ren.ptr _ _ _ rfl | refine Ren.yld _ _ _ _ _ rfl rfl (RenL.get ?_).2 (fun _ _ _ h => h) | refine vr_fl _ _ _ _ _ (by decide) rfl ?_ ?_ ?_ ?_ | refine And.intro ⟨_, rfl, .inl ⟨_, rfl, by decide, ?_⟩⟩ ?_ | refine And.intro ⟨_, rfl, _, rfl, by decide, ?_⟩ ?_ | refine And.intro ⟨_, rfl, .inr ⟨rfl, rfl, of_decide_eq_true (by kernel_rfl)⟩⟩ ?_ | apply And.intro | exact vrl_flat _ (by first | exact icells_in _ | exact rcells_in _ | exact scells_in _ | exact bcells_in _ | assumption) | fail)
            · refine aw_seq (aw_region ?_)
              simp (config := {maxSteps := 10000000}) (disch := first | exact okYes (by kernel_rfl) | omega) only [thenQ, Nat.reduceSub, List.length, Nat.zero_add, Nat.reduceMul, Nat.reduceAdd, cast_lit, ARun_none, AOpRun, aexec, FSt.ev, St.F, eget_c, Nat.reduceBEq, ↓eget_h, cond_false, isSh, Bool.false_eq_true, ↓reduceIte, Option.map, abin, Int.reduceLT, decide_false, AGo_ok, St.app, putO, eput_c, eput_n, hups, List.map, ARun_nil, dropE_c, inL_n, dropE_n]
              refine aw_seq (aw_cond rfl (fun hc => nomatch hc) (fun _ => ?_))
              refine aw_exit ?_
              simp only [thenQ, blockQ, if_true]
              have hf1 : d * 2 + 1 ≤ (scells left).length := by omega
              have hf2 : ∀ x, d * 2 + 1 + 1 ≤ (scells (left.set d x)).length := fun x => by rw [scells_len, List.length_set]; omega
              refine aw_seq (aw_region ?_)
              simp (config := {maxSteps := 10000000}) (disch := first | exact okYes (by kernel_rfl) | omega) only [thenQ, List.length, Nat.zero_add, Nat.reduceAdd, Nat.reduceMul, ARun_none, AOpRun, aexec, FSt.ev, St.F, eget_c, Nat.reduceBEq, ↓eget_h, cond_false, AGo_ok, St.app, putO, eput_c, eput_n, hups, List.map, Int.natCast_nonneg, hdI, and_self, ↓reduceIte, Int.toNat_natCast, Nat.add_zero, Option.map, run1, hget_c, ↓hget_h, sc_lo left d hl2, List.getElem?_cons_zero, sps_all, opt1, sps_gd b d hdb, List.drop, foldI, mx2, sc_hi left d hl2, Bool.false_eq_true, mn2, D.isBot, D.cells, hf1, List.all, D.leaf, Bool.and_true, splice, sc_tlo left d _ hl2, hput_c, beq_self_eq_true, hput_n, cond_true, hf2, sc_t3 left d _ _ _ hl2, ARun_nil, dropE_c, inL_c, inL_n, dropE_n]
              have hsucc : a.length - d = (a.length - (d + 1)) + 1 := by omega
              refine aw_seq (aw_region ?_)
              simp (config := {maxSteps := 10000000}) (disch := first | exact okYes (by kernel_rfl) | omega) only [thenQ, List.length, Nat.zero_add, Nat.reduceAdd, Nat.reduceMul, ARun_none, AOpRun, aexec, FSt.ev, St.F, eget_c, Nat.reduceBEq, ↓eget_h, cond_false, AGo_ok, St.app, putO, eput_c, eput_n, hups, List.map, Int.natCast_nonneg, hdI, and_self, ↓reduceIte, Int.toNat_natCast, Nat.add_zero, Option.map, run1, hget_c, ↓hget_h, sc_lo2 left d _ _ hl2, sc_hi2 left d _ _ hl2, isSh, Bool.false_eq_true, abin, ARun_nil, dropE_c, inL_c, inL_n, beq_self_eq_true, cond_true, dropE_n]
              refine aw_cond rfl (fun hc => ?_) (fun hc => ?_)
              · have hgt : (pMid left b d).1 > (pMid left b d).2 := of_decide_eq_true hc
                have hfin : outs ++ ok2 left b d o 2 = restP (l.take (k + 1)) b := by
                  rw [hta, ← hmn, hsucc]
                  unfold mnGo
                  rw [if_pos hgt]
                  simp only [ok2, List.append_nil, List.append_assoc]
                refine aw_ret ?_
                simp only [thenQ, blockQ]
                refine rangeQ (.inr rfl) (by simp [hpY, noY, bcells_noY, scells_noY]) ?_
                simp only [thenQ, blockQ, if_true]
                refine aw_region ?_
                simp (config := {maxSteps := 10000000}) (disch := first | exact okYes (by kernel_rfl) | omega) only [thenQ, List.length, Nat.zero_add, Nat.reduceAdd, Nat.reduceMul, ARun_none, AOpRun, aexec, FSt.ev, St.F, eget_c, Nat.reduceBEq, ↓eget_h, cond_false, isSh, Bool.false_eq_true, ↓reduceIte, Option.map, abin, fits, AGo_ok, St.app, putO, eput_c, eput_n, hups, List.map, beq_self_eq_true, cond_true, ARun_nil, dropE_c, inL_c, inL_n, dropE_n]
                refine ⟨k + 1, hk', by omega, ?_⟩
                rw [← hfin]
                refine wk_to [] [(0, 0), (40, 40)] (by kernel_rfl) (by kernel_rfl) (by kernel_rfl) (by kernel_rfl) (by kernel_rfl) ?_ ?_ <;> repeat' (first | exact trivial | exact vr_val _ | exact vr_list _ | exact vr_at _ | exact vr_nil | exact vr_cap0 | exact vr_vec _ _ _ _ rfl | exact vr_own _ _ _ _ _ rfl | exact vr_ptr _ _ _ rfl | exact vr_nilv _ _ _ rfl | exact vr_bot _ | exact vr_cap0v _ _ _ rfl | exact vr_cap0l | apply vr_agg | apply vr_tup | apply vr_fn | refine vr_yld _ _ _ rfl ?_ | exact Ren.bot _ | exact Ren.val _ | exact Ren.list _ | exact Ren.at_ _ | exact Ren.ptr _ _ _ rfl | refine Ren.yld _ _ _ _ _ rfl rfl (RenL.get ?_).2 (fun _ _ _ h => h) | refine vr_fl _ _ _ _ _ (by decide) rfl ?_ ?_ ?_ ?_ | refine And.intro ⟨_, rfl, .inl ⟨_, rfl, by decide, ?_⟩⟩ ?_ | refine And.intro ⟨_, rfl, _, rfl, by decide, ?_⟩ ?_ | refine And.intro ⟨_, rfl, .inr ⟨rfl, rfl, of_decide_eq_true (by kernel_rfl)⟩⟩ ?_ | apply And.intro | exact vrl_flat _ (by first | exact icells_in _ | exact rcells_in _ | exact scells_in _ | exact bcells_in _ | assumption) | fail)
              · have hgt : ¬ (pMid left b d).1 > (pMid left b d).2 := of_decide_eq_false hc
                refine aw_skip ?_
                simp only [thenQ, blockQ, if_true]
                refine aw_region ?_
                simp (config := {maxSteps := 10000000}) (disch := first | exact okYes (by kernel_rfl) | omega) only [thenQ, List.length, Nat.zero_add, Nat.reduceAdd, Nat.reduceMul, ARun_none, AOpRun, aexec, FSt.ev, St.F, eget_c, Nat.reduceBEq, ↓eget_h, cond_false, isSh, Bool.false_eq_true, ↓reduceIte, Option.map, abin, fits, AGo_ok, St.app, putO, eput_c, eput_n, hups, List.map, beq_self_eq_true, cond_true, ARun_nil, dropE_c, inL_c, inL_n, dropE_n]
                refine ⟨(d + 1, left.set d (pMid left b d), ok2 left b d o 2), ⟨hd', by simp only [List.length_set]; exact hll, ?_⟩, by simp only; omega, ?_⟩
                · rw [hsucc] at hmn
                  unfold mnGo at hmn
                  rw [if_neg hgt] at hmn
                  simp only [ok2, List.append_assoc] at hmn ⊢
                  exact hmn
                · simp only
                  refine wk_to [] [(0, 0), (40, 40), (97, 97), (120, 120), (104, 104)] (by kernel_rfl) (by kernel_rfl) (by kernel_rfl) (by kernel_rfl) (by kernel_rfl) ?_ ?_ <;> repeat' (first | exact trivial | exact vr_val _ | exact vr_list _ | exact vr_at _ | exact vr_nil | exact vr_cap0 | exact vr_vec _ _ _ _ rfl | exact vr_own _ _ _ _ _ rfl | exact vr_ptr _ _ _ rfl | exact vr_nilv _ _ _ rfl | exact vr_bot _ | exact vr_cap0v _ _ _ rfl | exact vr_cap0l | apply vr_agg | apply vr_tup | apply vr_fn | refine vr_yld _ _ _ rfl ?_ | exact Ren.bot _ | exact Ren.val _ | exact Ren.list _ | exact Ren.at_ _ | exact Ren.ptr _ _ _ rfl | refine Ren.yld _ _ _ _ _ rfl rfl (RenL.get ?_).2 (fun _ _ _ h => h) | refine vr_fl _ _ _ _ _ (by decide) rfl ?_ ?_ ?_ ?_ | refine And.intro ⟨_, rfl, .inl ⟨_, rfl, by decide, ?_⟩⟩ ?_ | refine And.intro ⟨_, rfl, _, rfl, by decide, ?_⟩ ?_ | refine And.intro ⟨_, rfl, .inr ⟨rfl, rfl, of_decide_eq_true (by kernel_rfl)⟩⟩ ?_ | apply And.intro | exact vrl_flat _ (by first | exact icells_in _ | exact rcells_in _ | exact scells_in _ | exact bcells_in _ | assumption) | fail)
        · have hd' : d = a.length := by have := of_decide_eq_false hc; omega
          subst hd'
          rw [Nat.sub_self] at hmn
          have hfin : outs ++ o = restP (l.take (k + 1)) b := by rw [hta, ← hmn]; simp [mnGo]
          refine aw_exit ?_
          simp only [thenQ, blockQ, if_true]
          refine rangeQ (.inl rfl) (by simp [hpY, noY, bcells_noY, scells_noY]) ?_
          simp only [thenQ, blockQ, if_true]
          refine aw_region ?_
          simp (config := {maxSteps := 10000000}) (disch := first | exact okYes (by kernel_rfl) | omega) only [thenQ, List.length, Nat.zero_add, Nat.reduceAdd, Nat.reduceMul, ARun_none, AOpRun, aexec, FSt.ev, St.F, eget_c, Nat.reduceBEq, ↓eget_h, cond_false, isSh, Bool.false_eq_true, ↓reduceIte, Option.map, abin, fits, AGo_ok, St.app, putO, eput_c, eput_n, hups, List.map, beq_self_eq_true, cond_true, ARun_nil, dropE_c, inL_c, inL_n, dropE_n]
          refine ⟨k + 1, hk', by omega, ?_⟩
          rw [← hfin]
          refine wk_to [] [(0, 0), (40, 40)] (by kernel_rfl) (by kernel_rfl) (by kernel_rfl) (by kernel_rfl) (by kernel_rfl) ?_ ?_ <;> repeat' (first | exact trivial | exact vr_val _ | exact vr_list _ | exact vr_at _ | exact vr_nil | exact vr_cap0 | exact vr_vec _ _ _ _ rfl | exact vr_own _ _ _ _ _ rfl | exact vr_ptr _ _ _ rfl | exact vr_nilv _ _ _ rfl | exact vr_bot _ | exact vr_cap0v _ _ _ rfl | exact vr_cap0l | apply vr_agg | apply vr_tup | apply vr_fn | refine vr_yld _ _ _ rfl ?_ | exact Ren.bot _ | exact Ren.val _ | exact Ren.list _ | exact Ren.at_ _ | exact Ren.ptr _ _ _ rfl | refine Ren.yld _ _ _ _ _ rfl rfl (RenL.get ?_).2 (fun _ _ _ h => h) | refine vr_fl _ _ _ _ _ (by decide) rfl ?_ ?_ ?_ ?_ | refine And.intro ⟨_, rfl, .inl ⟨_, rfl, by decide, ?_⟩⟩ ?_ | refine And.intro ⟨_, rfl, _, rfl, by decide, ?_⟩ ?_ | refine And.intro ⟨_, rfl, .inr ⟨rfl, rfl, of_decide_eq_true (by kernel_rfl)⟩⟩ ?_ | apply And.intro | exact vrl_flat _ (by first | exact icells_in _ | exact rcells_in _ | exact scells_in _ | exact bcells_in _ | assumption) | fail)
    · have hk' : k = l.length := by have := of_decide_eq_false hc; omega
      subst hk'
      refine aw_exit ?_
      simp only [thenQ, blockQ, if_true]
      refine aw_seq (aw_region ?_)
      simp (config := {maxSteps := 10000000}) (disch := first | exact okYes (by kernel_rfl) | omega) only [thenQ, List.length, Nat.zero_add, Nat.reduceAdd, Nat.reduceMul, List.take_length, ARun_none, AOpRun, aexec, Option.map, run1, FSt.ev, St.F, eget_c, Nat.reduceBEq, ↓eget_h, cond_false, hget_c, beq_self_eq_true, hget_n, cond_true, List.getElem?_cons_zero, AGo_ok, St.app, putO, eput_c, eput_n, hups, List.map, D.isBot, D.cells, Nat.reduceLeDiff, List.all, D.leaf, Bool.and_true, and_self, ↓reduceIte, splice, List.take, List.nil_append, List.drop, List.append_nil, hput_c, hput_n, ARun_nil, dropE_c, inL_c, inL_n, dropE_n]
      refine aw_ret ?_
      refine end_to [40] [] (by first | exact .inl rfl | exact .inr rfl) rfl (by kernel_rfl) (by kernel_rfl) (by kernel_rfl) ?_ ?_ <;> repeat' (first | exact trivial | exact vr_val _ | exact vr_list _ | exact vr_at _ | exact vr_nil | exact vr_cap0 | exact vr_vec _ _ _ _ rfl | exact vr_own _ _ _ _ _ rfl | exact vr_ptr _ _ _ rfl | exact vr_nilv _ _ _ rfl | exact vr_bot _ | exact vr_cap0v _ _ _ rfl | exact vr_cap0l | apply vr_agg | apply vr_tup | apply vr_fn | refine vr_yld _ _ _ rfl ?_ | exact Ren.bot _ | exact Ren.val _ | exact Ren.list _ | exact Ren.at_ _ | exact Ren.ptr _ _ _ rfl | refine Ren.yld _ _ _ _ _ rfl rfl (RenL.get ?_).2 (fun _ _ _ h => h) | refine vr_fl _ _ _ _ _ (by decide) rfl ?_ ?_ ?_ ?_ | refine And.intro ⟨_, rfl, .inl ⟨_, rfl, by decide, ?_⟩⟩ ?_ | refine And.intro ⟨_, rfl, _, rfl, by decide, ?_⟩ ?_ | refine And.intro ⟨_, rfl, .inr ⟨rfl, rfl, of_decide_eq_true (by kernel_rfl)⟩⟩ ?_ | apply And.intro | exact vrl_flat _ (by first | exact icells_in _ | exact rcells_in _ | exact scells_in _ | exact bcells_in _ | assumption) | fail)
      all_goals first | exact bxs_one _ | exact bxs_len _ | exact bxs_flat _ | exact bcells_in _
end Go.Proofs.Ytgibbaadjbohdaa
/- Checks of lists of boxes, copies, and looks at their size: both sides. No conditions. -/
set_option linter.unusedSimpArgs false
set_option linter.unusedVariables false
namespace Go.Proofs.Ytgibbaadjbohdaa
open Go.RowKit Lift

def chk (d : Nat) (l : List Bx) : Int := if l.all (fun b => boxE b == 0) = true then (if l.all (fun b => b.length == d) = true then 0 else 1) else 10
theorem all_at {f : Bx → Bool} {l : List Bx} (h : ∀ j, j < l.length → f (l[j]?.getD []) = true) : l.all f = true := List.all_eq_true.2 fun x hx => by
  obtain ⟨k, hk, rfl⟩ := List.getElem_of_mem hx
  have := h k hk
  simpa [hk] using this
theorem all_no {f : Bx → Bool} {l : List Bx} {k : Nat} (hk : k < l.length) (h : f (l[k]?.getD []) = false) : l.all f = false := by
  cases h2 : l.all f with
  | false => rfl
  | true =>
    have := List.all_eq_true.1 h2 _ (show l[k]?.getD [] ∈ l by simp [hk])
    rw [h] at this; cases this
theorem all_next {f : Bx → Bool} {l : List Bx} {k : Nat} (h1 : ∀ j, j < k → f (l[j]?.getD []) = true) (h2 : f (l[k]?.getD []) = true) : ∀ j, j < k + 1 → f (l[j]?.getD []) = true := fun j hj => by
  by_cases hjk : j = k
  · subst hjk; exact h2
  · exact h1 j (by omega)
set_option maxRecDepth 100000 in
set_option maxHeartbeats 2000000 in
theorem lcheck_ac (l : List Bx) (hl : l.length ≤ 1000) : AC Try.prog 39 [.list (bxs l)] [] [] (dI (chk (l[0]?.getD []).length l)) := by
  refine kspans_check.ac (n0 := 0) (by simp) ⟨.list _, trivial⟩ trivial rfl ?_
  unfold cspans_check
  refine aw_seq (aw_region ?_)
  simp (config := {maxSteps := 10000000}) (disch := first | exact okYes (by kernel_rfl) | omega) only [ARun_nil, ARun_none, ARun_some, ARun_skip, AOpRun, AGo_f, AGo_ok, AG_tt, AG_ff, AG_tf, AG_ft, AG_un, aexec, run1, asI, elems, base, opt1, fillD, splice, abin, ash, isSh, foldI, mn2, mx2, ↓eget_h, eget_c, eget_n, eput_c, eput_n, putO, ↓hget_h, hget_c, hget_n, hput_c, hput_n, hdel_c, hdel_n, hups, cond_true, cond_false,  ups, St.F, St.app, FSt.ev, dropE_c, dropE_n, inL_c, inL_n, envOf, thenQ, blockQ, D.isBot, D.isAgg, D.cells, D.leaf, scalarEq, eqCells, isB, Option.map, List.map, List.length, List.all, List.append, List.take, List.drop, List.cons_append, List.nil_append, List.append_nil, Option.isSome, List.getElem?_cons_zero, List.getElem?_cons_succ, if_true, if_false, true_and, and_true, Bool.not_true, Bool.not_false, Bool.true_or, Bool.false_or, Bool.or_true, Bool.or_false, Bool.false_eq_true, ↓reduceIte, Nat.reduceAdd, Nat.reduceMul, Nat.reduceEqDiff, Nat.reduceBEq, Nat.reduceSub, Nat.zero_add, Nat.reduceLeDiff, Nat.reduceGT, Nat.reduceLT, Nat.reduceBNe, okLog_f, reduceCtorEq, or_self, or_false, false_or, or_true, true_or, and_self, and_false, false_and, not_true_eq_false, not_false_eq_true, ne_eq, Bool.and_true, Bool.true_and, Bool.and_false, Bool.false_and, decide_eq_true_eq, decide_true, decide_false, Int.reduceBEq, Int.reduceBNe, Int.reduceLT, Int.reduceLE, Int.reduceAdd, Int.reduceSub, Int.reduceMul, Int.reduceNeg, Int.reduceEq, Int.toNat_zero, Int.reduceToNat, Int.zero_lt_one, Nat.zero_le, Int.le_refl, beq_self_eq_true, bne_self_eq_false, cast_lit, fits, wrap_in, Int.toNat_natCast, Int.natCast_nonneg]
  refine aw_seq (aw_seq (aw_region ?_))
  simp (config := {maxSteps := 10000000}) (disch := first | exact okYes (by kernel_rfl) | omega) only [ARun_nil, ARun_none, ARun_some, ARun_skip, AOpRun, AGo_f, AGo_ok, AG_tt, AG_ff, AG_tf, AG_ft, AG_un, aexec, run1, asI, elems, base, opt1, fillD, splice, abin, ash, isSh, foldI, mn2, mx2, ↓eget_h, eget_c, eget_n, eput_c, eput_n, putO, ↓hget_h, hget_c, hget_n, hput_c, hput_n, hdel_c, hdel_n, hups, cond_true, cond_false,  ups, St.F, St.app, FSt.ev, dropE_c, dropE_n, inL_c, inL_n, envOf, thenQ, blockQ, D.isBot, D.isAgg, D.cells, D.leaf, scalarEq, eqCells, isB, Option.map, List.map, List.length, List.all, List.append, List.take, List.drop, List.cons_append, List.nil_append, List.append_nil, Option.isSome, List.getElem?_cons_zero, List.getElem?_cons_succ, if_true, if_false, true_and, and_true, Bool.not_true, Bool.not_false, Bool.true_or, Bool.false_or, Bool.or_true, Bool.or_false, Bool.false_eq_true, ↓reduceIte, Nat.reduceAdd, Nat.reduceMul, Nat.reduceEqDiff, Nat.reduceBEq, Nat.reduceSub, Nat.zero_add, Nat.reduceLeDiff, Nat.reduceGT, Nat.reduceLT, Nat.reduceBNe, okLog_f, reduceCtorEq, or_self, or_false, false_or, or_true, true_or, and_self, and_false, false_and, not_true_eq_false, not_false_eq_true, ne_eq, Bool.and_true, Bool.true_and, Bool.and_false, Bool.false_and, decide_eq_true_eq, decide_true, decide_false, Int.reduceBEq, Int.reduceBNe, Int.reduceLT, Int.reduceLE, Int.reduceAdd, Int.reduceSub, Int.reduceMul, Int.reduceNeg, Int.reduceEq, Int.toNat_zero, Int.reduceToNat, Int.zero_lt_one, Nat.zero_le, Int.le_refl, beq_self_eq_true, bne_self_eq_false, cast_lit, fits, wrap_in, Int.toNat_natCast, Int.natCast_nonneg, bxs_len]
  refine aw_block (aw_loop (fun k : Nat => ⟨[(0, .list (bxs l)), (8, .list (bxs l)), (9, .val (.int .i64 l.length)), (10, .val (.int .i64 k))], [], 100⟩) (fun k => k ≤ l.length ∧ ∀ j, j < k → (boxE (l[j]?.getD []) == 0) = true) (fun k => l.length - k) ⟨0, ⟨by omega, fun j hj => by omega⟩, ?_⟩ ?_)
  · refine wk_to [] [] (by kernel_rfl) (by kernel_rfl) (by kernel_rfl) (by kernel_rfl) (by kernel_rfl) ?_ ?_ <;> repeat' (first | exact trivial | exact vr_val _ | exact vr_list _ | exact vr_at _ | exact vr_nil | exact vr_cap0 | exact vr_vec _ _ _ _ rfl | exact vr_own _ _ _ _ _ rfl | exact vr_ptr _ _ _ rfl | exact vr_nilv _ _ _ rfl | exact vr_bot _ | exact vr_cap0v _ _ _ rfl | exact vr_cap0l | apply vr_agg | apply vr_tup | apply vr_fn | refine vr_yld _ _ _ rfl ?_ | exact Ren.bot _ | exact Ren.val _ | exact Ren.list _ | exact Ren.at_ _ | exact Ren.ptr _ _ _ rfl | refine Ren.yld _ _ _ _ _ rfl rfl (RenL.get ?_).2 (fun _ _ _ h => h) | refine vr_fl _ _ _ _ _ (by decide) rfl ?_ ?_ ?_ ?_ | refine And.intro ⟨_, rfl, .inl ⟨_, rfl, by decide, ?_⟩⟩ ?_ | refine And.intro ⟨_, rfl, _, rfl, by decide, ?_⟩ ?_ | refine And.intro ⟨_, rfl, .inr ⟨rfl, rfl, of_decide_eq_true (by kernel_rfl)⟩⟩ ?_ | apply And.intro | exact vrl_flat _ (by first | exact icells_in _ | exact rcells_in _ | exact scells_in _ | exact bcells_in _ | assumption) | fail)
  · rintro k ⟨hk, hin⟩
    refine aw_seq (aw_region ?_)
    simp (config := {maxSteps := 10000000}) (disch := first | exact okYes (by kernel_rfl) | omega) only [ARun_nil, ARun_none, ARun_some, ARun_skip, AOpRun, AGo_f, AGo_ok, AG_tt, AG_ff, AG_tf, AG_ft, AG_un, aexec, run1, asI, elems, base, opt1, fillD, splice, abin, ash, isSh, foldI, mn2, mx2, ↓eget_h, eget_c, eget_n, eput_c, eput_n, putO, ↓hget_h, hget_c, hget_n, hput_c, hput_n, hdel_c, hdel_n, hups, cond_true, cond_false,  ups, St.F, St.app, FSt.ev, dropE_c, dropE_n, inL_c, inL_n, envOf, thenQ, blockQ, D.isBot, D.isAgg, D.cells, D.leaf, scalarEq, eqCells, isB, Option.map, List.map, List.length, List.all, List.append, List.take, List.drop, List.cons_append, List.nil_append, List.append_nil, Option.isSome, List.getElem?_cons_zero, List.getElem?_cons_succ, if_true, if_false, true_and, and_true, Bool.not_true, Bool.not_false, Bool.true_or, Bool.false_or, Bool.or_true, Bool.or_false, Bool.false_eq_true, ↓reduceIte, Nat.reduceAdd, Nat.reduceMul, Nat.reduceEqDiff, Nat.reduceBEq, Nat.reduceSub, Nat.zero_add, Nat.reduceLeDiff, Nat.reduceGT, Nat.reduceLT, Nat.reduceBNe, okLog_f, reduceCtorEq, or_self, or_false, false_or, or_true, true_or, and_self, and_false, false_and, not_true_eq_false, not_false_eq_true, ne_eq, Bool.and_true, Bool.true_and, Bool.and_false, Bool.false_and, decide_eq_true_eq, decide_true, decide_false, Int.reduceBEq, Int.reduceBNe, Int.reduceLT, Int.reduceLE, Int.reduceAdd, Int.reduceSub, Int.reduceMul, Int.reduceNeg, Int.reduceEq, Int.toNat_zero, Int.reduceToNat, Int.zero_lt_one, Nat.zero_le, Int.le_refl, beq_self_eq_true, bne_self_eq_false, cast_lit, fits, wrap_in, Int.toNat_natCast, Int.natCast_nonneg]
    refine aw_seq (aw_cond rfl (fun hc => ?_) (fun hc => ?_))
    · have hk' : k < l.length := by have := of_decide_eq_true hc; omega
      refine aw_skip (aw_seq (aw_block (aw_seq (aw_region ?_))))
      simp (config := {maxSteps := 10000000}) (disch := first | exact okYes (by kernel_rfl) | omega) only [ARun_nil, ARun_none, ARun_some, ARun_skip, AOpRun, AGo_f, AGo_ok, AG_tt, AG_ff, AG_tf, AG_ft, AG_un, aexec, run1, asI, elems, base, opt1, fillD, splice, abin, ash, isSh, foldI, mn2, mx2, ↓eget_h, eget_c, eget_n, eput_c, eput_n, putO, ↓hget_h, hget_c, hget_n, hput_c, hput_n, hdel_c, hdel_n, hups, cond_true, cond_false,  ups, St.F, St.app, FSt.ev, dropE_c, dropE_n, inL_c, inL_n, envOf, thenQ, blockQ, D.isBot, D.isAgg, D.cells, D.leaf, scalarEq, eqCells, isB, Option.map, List.map, List.length, List.all, List.append, List.take, List.drop, List.cons_append, List.nil_append, List.append_nil, Option.isSome, List.getElem?_cons_zero, List.getElem?_cons_succ, if_true, if_false, true_and, and_true, Bool.not_true, Bool.not_false, Bool.true_or, Bool.false_or, Bool.or_true, Bool.or_false, Bool.false_eq_true, ↓reduceIte, Nat.reduceAdd, Nat.reduceMul, Nat.reduceEqDiff, Nat.reduceBEq, Nat.reduceSub, Nat.zero_add, Nat.reduceLeDiff, Nat.reduceGT, Nat.reduceLT, Nat.reduceBNe, okLog_f, reduceCtorEq, or_self, or_false, false_or, or_true, true_or, and_self, and_false, false_and, not_true_eq_false, not_false_eq_true, ne_eq, Bool.and_true, Bool.true_and, Bool.and_false, Bool.false_and, decide_eq_true_eq, decide_true, decide_false, Int.reduceBEq, Int.reduceBNe, Int.reduceLT, Int.reduceLE, Int.reduceAdd, Int.reduceSub, Int.reduceMul, Int.reduceNeg, Int.reduceEq, Int.toNat_zero, Int.reduceToNat, Int.zero_lt_one, Nat.zero_le, Int.le_refl, beq_self_eq_true, bne_self_eq_false, cast_lit, fits, wrap_in, Int.toNat_natCast, Int.natCast_nonneg, bxs_all, bxs_gd l k hk']
      refine aw_seq (aw_region ?_)
      simp (config := {maxSteps := 10000000}) (disch := first | exact okYes (by kernel_rfl) | omega) only [ARun_nil, ARun_none, ARun_some, ARun_skip, AOpRun, AGo_f, AGo_ok, AG_tt, AG_ff, AG_tf, AG_ft, AG_un, aexec, run1, asI, elems, base, opt1, fillD, splice, abin, ash, isSh, foldI, mn2, mx2, ↓eget_h, eget_c, eget_n, eput_c, eput_n, putO, ↓hget_h, hget_c, hget_n, hput_c, hput_n, hdel_c, hdel_n, hups, cond_true, cond_false,  ups, St.F, St.app, FSt.ev, dropE_c, dropE_n, inL_c, inL_n, envOf, thenQ, blockQ, D.isBot, D.isAgg, D.cells, D.leaf, scalarEq, eqCells, isB, Option.map, List.map, List.length, List.all, List.append, List.take, List.drop, List.cons_append, List.nil_append, List.append_nil, Option.isSome, List.getElem?_cons_zero, List.getElem?_cons_succ, if_true, if_false, true_and, and_true, Bool.not_true, Bool.not_false, Bool.true_or, Bool.false_or, Bool.or_true, Bool.or_false, Bool.false_eq_true, ↓reduceIte, Nat.reduceAdd, Nat.reduceMul, Nat.reduceEqDiff, Nat.reduceBEq, Nat.reduceSub, Nat.zero_add, Nat.reduceLeDiff, Nat.reduceGT, Nat.reduceLT, Nat.reduceBNe, okLog_f, reduceCtorEq, or_self, or_false, false_or, or_true, true_or, and_self, and_false, false_and, not_true_eq_false, not_false_eq_true, ne_eq, Bool.and_true, Bool.true_and, Bool.and_false, Bool.false_and, decide_eq_true_eq, decide_true, decide_false, Int.reduceBEq, Int.reduceBNe, Int.reduceLT, Int.reduceLE, Int.reduceAdd, Int.reduceSub, Int.reduceMul, Int.reduceNeg, Int.reduceEq, Int.toNat_zero, Int.reduceToNat, Int.zero_lt_one, Nat.zero_le, Int.le_refl, beq_self_eq_true, bne_self_eq_false, cast_lit, fits, wrap_in, Int.toNat_natCast, Int.natCast_nonneg]
      refine acall0 (check_ac (l[k]?.getD [])) ?_
      simp (config := {maxSteps := 10000000}) (disch := first | exact okYes (by kernel_rfl) | omega) only [ARun_nil, ARun_none, ARun_some, ARun_skip, AOpRun, AGo_f, AGo_ok, AG_tt, AG_ff, AG_tf, AG_ft, AG_un, aexec, run1, asI, elems, base, opt1, fillD, splice, abin, ash, isSh, foldI, mn2, mx2, ↓eget_h, eget_c, eget_n, eput_c, eput_n, putO, ↓hget_h, hget_c, hget_n, hput_c, hput_n, hdel_c, hdel_n, hups, cond_true, cond_false,  ups, St.F, St.app, FSt.ev, dropE_c, dropE_n, inL_c, inL_n, envOf, thenQ, blockQ, D.isBot, D.isAgg, D.cells, D.leaf, scalarEq, eqCells, isB, Option.map, List.map, List.length, List.all, List.append, List.take, List.drop, List.cons_append, List.nil_append, List.append_nil, Option.isSome, List.getElem?_cons_zero, List.getElem?_cons_succ, if_true, if_false, true_and, and_true, Bool.not_true, Bool.not_false, Bool.true_or, Bool.false_or, Bool.or_true, Bool.or_false, Bool.false_eq_true, ↓reduceIte, Nat.reduceAdd, Nat.reduceMul, Nat.reduceEqDiff, Nat.reduceBEq, Nat.reduceSub, Nat.zero_add, Nat.reduceLeDiff, Nat.reduceGT, Nat.reduceLT, Nat.reduceBNe, okLog_f, reduceCtorEq, or_self, or_false, false_or, or_true, true_or, and_self, and_false, false_and, not_true_eq_false, not_false_eq_true, ne_eq, Bool.and_true, Bool.true_and, Bool.and_false, Bool.false_and, decide_eq_true_eq, decide_true, decide_false, Int.reduceBEq, Int.reduceBNe, Int.reduceLT, Int.reduceLE, Int.reduceAdd, Int.reduceSub, Int.reduceMul, Int.reduceNeg, Int.reduceEq, Int.toNat_zero, Int.reduceToNat, Int.zero_lt_one, Nat.zero_le, Int.le_refl, beq_self_eq_true, bne_self_eq_false, cast_lit, fits, wrap_in, Int.toNat_natCast, Int.natCast_nonneg, dI]
      refine aw_seq (aw_region ?_)
      simp (config := {maxSteps := 10000000}) (disch := first | exact okYes (by kernel_rfl) | omega) only [ARun_nil, ARun_none, ARun_some, ARun_skip, AOpRun, AGo_f, AGo_ok, AG_tt, AG_ff, AG_tf, AG_ft, AG_un, aexec, run1, asI, elems, base, opt1, fillD, splice, abin, ash, isSh, foldI, mn2, mx2, ↓eget_h, eget_c, eget_n, eput_c, eput_n, putO, ↓hget_h, hget_c, hget_n, hput_c, hput_n, hdel_c, hdel_n, hups, cond_true, cond_false,  ups, St.F, St.app, FSt.ev, dropE_c, dropE_n, inL_c, inL_n, envOf, thenQ, blockQ, D.isBot, D.isAgg, D.cells, D.leaf, scalarEq, eqCells, isB, Option.map, List.map, List.length, List.all, List.append, List.take, List.drop, List.cons_append, List.nil_append, List.append_nil, Option.isSome, List.getElem?_cons_zero, List.getElem?_cons_succ, if_true, if_false, true_and, and_true, Bool.not_true, Bool.not_false, Bool.true_or, Bool.false_or, Bool.or_true, Bool.or_false, Bool.false_eq_true, ↓reduceIte, Nat.reduceAdd, Nat.reduceMul, Nat.reduceEqDiff, Nat.reduceBEq, Nat.reduceSub, Nat.zero_add, Nat.reduceLeDiff, Nat.reduceGT, Nat.reduceLT, Nat.reduceBNe, okLog_f, reduceCtorEq, or_self, or_false, false_or, or_true, true_or, and_self, and_false, false_and, not_true_eq_false, not_false_eq_true, ne_eq, Bool.and_true, Bool.true_and, Bool.and_false, Bool.false_and, decide_eq_true_eq, decide_true, decide_false, Int.reduceBEq, Int.reduceBNe, Int.reduceLT, Int.reduceLE, Int.reduceAdd, Int.reduceSub, Int.reduceMul, Int.reduceNeg, Int.reduceEq, Int.toNat_zero, Int.reduceToNat, Int.zero_lt_one, Nat.zero_le, Int.le_refl, beq_self_eq_true, bne_self_eq_false, cast_lit, fits, wrap_in, Int.toNat_natCast, Int.natCast_nonneg]
      refine aw_cond rfl (fun hc => ?_) (fun hc => ?_)
      · have he : boxE (l[k]?.getD []) ≠ 0 := by simpa using hc
        have h10 := (boxE_two _).resolve_left he
        have hno : l.all (fun b => boxE b == 0) = false := all_no hk' (by simp [h10])
        refine aw_seq (aw_region ?_)
        simp (config := {maxSteps := 10000000}) (disch := first | exact okYes (by kernel_rfl) | omega) only [ARun_nil, ARun_none, ARun_some, ARun_skip, AOpRun, AGo_f, AGo_ok, AG_tt, AG_ff, AG_tf, AG_ft, AG_un, aexec, run1, asI, elems, base, opt1, fillD, splice, abin, ash, isSh, foldI, mn2, mx2, ↓eget_h, eget_c, eget_n, eput_c, eput_n, putO, ↓hget_h, hget_c, hget_n, hput_c, hput_n, hdel_c, hdel_n, hups, cond_true, cond_false,  ups, St.F, St.app, FSt.ev, dropE_c, dropE_n, inL_c, inL_n, envOf, thenQ, blockQ, D.isBot, D.isAgg, D.cells, D.leaf, scalarEq, eqCells, isB, Option.map, List.map, List.length, List.all, List.append, List.take, List.drop, List.cons_append, List.nil_append, List.append_nil, Option.isSome, List.getElem?_cons_zero, List.getElem?_cons_succ, if_true, if_false, true_and, and_true, Bool.not_true, Bool.not_false, Bool.true_or, Bool.false_or, Bool.or_true, Bool.or_false, Bool.false_eq_true, ↓reduceIte, Nat.reduceAdd, Nat.reduceMul, Nat.reduceEqDiff, Nat.reduceBEq, Nat.reduceSub, Nat.zero_add, Nat.reduceLeDiff, Nat.reduceGT, Nat.reduceLT, Nat.reduceBNe, okLog_f, reduceCtorEq, or_self, or_false, false_or, or_true, true_or, and_self, and_false, false_and, not_true_eq_false, not_false_eq_true, ne_eq, Bool.and_true, Bool.true_and, Bool.and_false, Bool.false_and, decide_eq_true_eq, decide_true, decide_false, Int.reduceBEq, Int.reduceBNe, Int.reduceLT, Int.reduceLE, Int.reduceAdd, Int.reduceSub, Int.reduceMul, Int.reduceNeg, Int.reduceEq, Int.toNat_zero, Int.reduceToNat, Int.zero_lt_one, Nat.zero_le, Int.le_refl, beq_self_eq_true, bne_self_eq_false, cast_lit, fits, wrap_in, Int.toNat_natCast, Int.natCast_nonneg]
        refine aw_ret ?_
        unfold chk
        rw [hno, h10]
        simp only [Bool.false_eq_true, if_false]
        refine end_to [] [] (by first | exact .inl rfl | exact .inr rfl) rfl (by kernel_rfl) (by kernel_rfl) (by kernel_rfl) ?_ ?_ <;> repeat' (first | exact trivial | exact vr_val _ | exact vr_list _ | exact vr_at _ | exact vr_nil | exact vr_cap0 | exact vr_vec _ _ _ _ rfl | exact vr_own _ _ _ _ _ rfl | exact vr_ptr _ _ _ rfl | exact vr_nilv _ _ _ rfl | exact vr_bot _ | exact vr_cap0v _ _ _ rfl | exact vr_cap0l | apply vr_agg | apply vr_tup | apply vr_fn | refine vr_yld _ _ _ rfl ?_ | exact Ren.bot _ | exact Ren.val _ | exact Ren.list _ | exact Ren.at_ _ | exact Ren.ptr _ _ _ rfl | refine Ren.yld _ _ _ _ _ rfl rfl (RenL.get ?_).2 (fun _ _ _ h => h) | refine vr_fl _ _ _ _ _ (by decide) rfl ?_ ?_ ?_ ?_ | refine And.intro ⟨_, rfl, .inl ⟨_, rfl, by decide, ?_⟩⟩ ?_ | refine And.intro ⟨_, rfl, _, rfl, by decide, ?_⟩ ?_ | refine And.intro ⟨_, rfl, .inr ⟨rfl, rfl, of_decide_eq_true (by kernel_rfl)⟩⟩ ?_ | apply And.intro | exact vrl_flat _ (by first | exact icells_in _ | exact rcells_in _ | exact scells_in _ | exact bcells_in _ | assumption) | fail)
      · have he : boxE (l[k]?.getD []) = 0 := by simpa using hc
        refine aw_skip ?_
        simp only [thenQ, blockQ, if_true]
        refine aw_region ?_
        simp (config := {maxSteps := 10000000}) (disch := first | exact okYes (by kernel_rfl) | omega) only [ARun_nil, ARun_none, ARun_some, ARun_skip, AOpRun, AGo_f, AGo_ok, AG_tt, AG_ff, AG_tf, AG_ft, AG_un, aexec, run1, asI, elems, base, opt1, fillD, splice, abin, ash, isSh, foldI, mn2, mx2, ↓eget_h, eget_c, eget_n, eput_c, eput_n, putO, ↓hget_h, hget_c, hget_n, hput_c, hput_n, hdel_c, hdel_n, hups, cond_true, cond_false,  ups, St.F, St.app, FSt.ev, dropE_c, dropE_n, inL_c, inL_n, envOf, thenQ, blockQ, D.isBot, D.isAgg, D.cells, D.leaf, scalarEq, eqCells, isB, Option.map, List.map, List.length, List.all, List.append, List.take, List.drop, List.cons_append, List.nil_append, List.append_nil, Option.isSome, List.getElem?_cons_zero, List.getElem?_cons_succ, if_true, if_false, true_and, and_true, Bool.not_true, Bool.not_false, Bool.true_or, Bool.false_or, Bool.or_true, Bool.or_false, Bool.false_eq_true, ↓reduceIte, Nat.reduceAdd, Nat.reduceMul, Nat.reduceEqDiff, Nat.reduceBEq, Nat.reduceSub, Nat.zero_add, Nat.reduceLeDiff, Nat.reduceGT, Nat.reduceLT, Nat.reduceBNe, okLog_f, reduceCtorEq, or_self, or_false, false_or, or_true, true_or, and_self, and_false, false_and, not_true_eq_false, not_false_eq_true, ne_eq, Bool.and_true, Bool.true_and, Bool.and_false, Bool.false_and, decide_eq_true_eq, decide_true, decide_false, Int.reduceBEq, Int.reduceBNe, Int.reduceLT, Int.reduceLE, Int.reduceAdd, Int.reduceSub, Int.reduceMul, Int.reduceNeg, Int.reduceEq, Int.toNat_zero, Int.reduceToNat, Int.zero_lt_one, Nat.zero_le, Int.le_refl, beq_self_eq_true, bne_self_eq_false, cast_lit, fits, wrap_in, Int.toNat_natCast, Int.natCast_nonneg]
        refine ⟨k + 1, ⟨hk', all_next (f := fun b => boxE b == 0) hin (by simp [he])⟩, by omega, ?_⟩
        refine wk_to [] [] (by kernel_rfl) (by kernel_rfl) (by kernel_rfl) (by kernel_rfl) (by kernel_rfl) ?_ ?_ <;> repeat' (first | exact trivial | exact vr_val _ | exact vr_list _ | exact vr_at _ | exact vr_nil | exact vr_cap0 | exact vr_vec _ _ _ _ rfl | exact vr_own _ _ _ _ _ rfl | exact vr_ptr _ _ _ rfl | exact vr_nilv _ _ _ rfl | exact vr_bot _ | exact vr_cap0v _ _ _ rfl | exact vr_cap0l | apply vr_agg | apply vr_tup | apply vr_fn | refine vr_yld _ _ _ rfl ?_ | exact Ren.bot _ | exact Ren.val _ | exact Ren.list _ | exact Ren.at_ _ | exact Ren.ptr _ _ _ rfl | refine Ren.yld _ _ _ _ _ rfl rfl (RenL.get ?_).2 (fun _ _ _ h => h) | refine vr_fl _ _ _ _ _ (by decide) rfl ?_ ?_ ?_ ?_ | refine And.intro ⟨_, rfl, .inl ⟨_, rfl, by decide, ?_⟩⟩ ?_ | refine And.intro ⟨_, rfl, _, rfl, by decide, ?_⟩ ?_ | refine And.intro ⟨_, rfl, .inr ⟨rfl, rfl, of_decide_eq_true (by kernel_rfl)⟩⟩ ?_ | apply And.intro | exact vrl_flat _ (by first | exact icells_in _ | exact rcells_in _ | exact scells_in _ | exact bcells_in _ | assumption) | fail)
    · have hk' : k = l.length := by have := of_decide_eq_false hc; omega
      subst hk'
      have hall := all_at (f := fun b => boxE b == 0) hin
      refine aw_exit ?_
      simp only [thenQ, blockQ, if_true]
      refine aw_seq (aw_seq (aw_region ?_))
      simp (config := {maxSteps := 10000000}) (disch := first | exact okYes (by kernel_rfl) | omega) only [ARun_nil, ARun_none, ARun_some, ARun_skip, AOpRun, AGo_f, AGo_ok, AG_tt, AG_ff, AG_tf, AG_ft, AG_un, aexec, run1, asI, elems, base, opt1, fillD, splice, abin, ash, isSh, foldI, mn2, mx2, ↓eget_h, eget_c, eget_n, eput_c, eput_n, putO, ↓hget_h, hget_c, hget_n, hput_c, hput_n, hdel_c, hdel_n, hups, cond_true, cond_false,  ups, St.F, St.app, FSt.ev, dropE_c, dropE_n, inL_c, inL_n, envOf, thenQ, blockQ, D.isBot, D.isAgg, D.cells, D.leaf, scalarEq, eqCells, isB, Option.map, List.map, List.length, List.all, List.append, List.take, List.drop, List.cons_append, List.nil_append, List.append_nil, Option.isSome, List.getElem?_cons_zero, List.getElem?_cons_succ, if_true, if_false, true_and, and_true, Bool.not_true, Bool.not_false, Bool.true_or, Bool.false_or, Bool.or_true, Bool.or_false, Bool.false_eq_true, ↓reduceIte, Nat.reduceAdd, Nat.reduceMul, Nat.reduceEqDiff, Nat.reduceBEq, Nat.reduceSub, Nat.zero_add, Nat.reduceLeDiff, Nat.reduceGT, Nat.reduceLT, Nat.reduceBNe, okLog_f, reduceCtorEq, or_self, or_false, false_or, or_true, true_or, and_self, and_false, false_and, not_true_eq_false, not_false_eq_true, ne_eq, Bool.and_true, Bool.true_and, Bool.and_false, Bool.false_and, decide_eq_true_eq, decide_true, decide_false, Int.reduceBEq, Int.reduceBNe, Int.reduceLT, Int.reduceLE, Int.reduceAdd, Int.reduceSub, Int.reduceMul, Int.reduceNeg, Int.reduceEq, Int.toNat_zero, Int.reduceToNat, Int.zero_lt_one, Nat.zero_le, Int.le_refl, beq_self_eq_true, bne_self_eq_false, cast_lit, fits, wrap_in, Int.toNat_natCast, Int.natCast_nonneg, bxs_len]
      refine aw_block (aw_loop (fun k : Nat => ⟨[(0, .list (bxs l)), (20, .list (bxs l)), (21, .val (.int .i64 l.length)), (22, .val (.int .i64 k))], [], 300⟩) (fun k => k ≤ l.length ∧ ∀ j, j < k → ((l[j]?.getD []).length == (l[0]?.getD []).length) = true) (fun k => l.length - k) ⟨0, ⟨by omega, fun j hj => by omega⟩, ?_⟩ ?_)
      · refine wk_to [] [] (by kernel_rfl) (by kernel_rfl) (by kernel_rfl) (by kernel_rfl) (by kernel_rfl) ?_ ?_ <;> repeat' (first | exact trivial | exact vr_val _ | exact vr_list _ | exact vr_at _ | exact vr_nil | exact vr_cap0 | exact vr_vec _ _ _ _ rfl | exact vr_own _ _ _ _ _ rfl | exact vr_ptr _ _ _ rfl | exact vr_nilv _ _ _ rfl | exact vr_bot _ | exact vr_cap0v _ _ _ rfl | exact vr_cap0l | apply vr_agg | apply vr_tup | apply vr_fn | refine vr_yld _ _ _ rfl ?_ | exact Ren.bot _ | exact Ren.val _ | exact Ren.list _ | exact Ren.at_ _ | exact Ren.ptr _ _ _ rfl | refine Ren.yld _ _ _ _ _ rfl rfl (RenL.get ?_).2 (fun _ _ _ h => h) | refine vr_fl _ _ _ _ _ (by decide) rfl ?_ ?_ ?_ ?_ | refine And.intro ⟨_, rfl, .inl ⟨_, rfl, by decide, ?_⟩⟩ ?_ | refine And.intro ⟨_, rfl, _, rfl, by decide, ?_⟩ ?_ | refine And.intro ⟨_, rfl, .inr ⟨rfl, rfl, of_decide_eq_true (by kernel_rfl)⟩⟩ ?_ | apply And.intro | exact vrl_flat _ (by first | exact icells_in _ | exact rcells_in _ | exact scells_in _ | exact bcells_in _ | assumption) | fail)
      · rintro k ⟨hk, hin2⟩
        refine aw_seq (aw_region ?_)
        simp (config := {maxSteps := 10000000}) (disch := first | exact okYes (by kernel_rfl) | omega) only [ARun_nil, ARun_none, ARun_some, ARun_skip, AOpRun, AGo_f, AGo_ok, AG_tt, AG_ff, AG_tf, AG_ft, AG_un, aexec, run1, asI, elems, base, opt1, fillD, splice, abin, ash, isSh, foldI, mn2, mx2, ↓eget_h, eget_c, eget_n, eput_c, eput_n, putO, ↓hget_h, hget_c, hget_n, hput_c, hput_n, hdel_c, hdel_n, hups, cond_true, cond_false,  ups, St.F, St.app, FSt.ev, dropE_c, dropE_n, inL_c, inL_n, envOf, thenQ, blockQ, D.isBot, D.isAgg, D.cells, D.leaf, scalarEq, eqCells, isB, Option.map, List.map, List.length, List.all, List.append, List.take, List.drop, List.cons_append, List.nil_append, List.append_nil, Option.isSome, List.getElem?_cons_zero, List.getElem?_cons_succ, if_true, if_false, true_and, and_true, Bool.not_true, Bool.not_false, Bool.true_or, Bool.false_or, Bool.or_true, Bool.or_false, Bool.false_eq_true, ↓reduceIte, Nat.reduceAdd, Nat.reduceMul, Nat.reduceEqDiff, Nat.reduceBEq, Nat.reduceSub, Nat.zero_add, Nat.reduceLeDiff, Nat.reduceGT, Nat.reduceLT, Nat.reduceBNe, okLog_f, reduceCtorEq, or_self, or_false, false_or, or_true, true_or, and_self, and_false, false_and, not_true_eq_false, not_false_eq_true, ne_eq, Bool.and_true, Bool.true_and, Bool.and_false, Bool.false_and, decide_eq_true_eq, decide_true, decide_false, Int.reduceBEq, Int.reduceBNe, Int.reduceLT, Int.reduceLE, Int.reduceAdd, Int.reduceSub, Int.reduceMul, Int.reduceNeg, Int.reduceEq, Int.toNat_zero, Int.reduceToNat, Int.zero_lt_one, Nat.zero_le, Int.le_refl, beq_self_eq_true, bne_self_eq_false, cast_lit, fits, wrap_in, Int.toNat_natCast, Int.natCast_nonneg]
        refine aw_seq (aw_cond rfl (fun hc => ?_) (fun hc => ?_))
        · have hk' : k < l.length := by have := of_decide_eq_true hc; omega
          have h0 : 0 < l.length := by omega
          refine aw_skip (aw_seq (aw_block (aw_seq (aw_region ?_))))
          simp (config := {maxSteps := 10000000}) (disch := first | exact okYes (by kernel_rfl) | omega) only [ARun_nil, ARun_none, ARun_some, ARun_skip, AOpRun, AGo_f, AGo_ok, AG_tt, AG_ff, AG_tf, AG_ft, AG_un, aexec, run1, asI, elems, base, opt1, fillD, splice, abin, ash, isSh, foldI, mn2, mx2, ↓eget_h, eget_c, eget_n, eput_c, eput_n, putO, ↓hget_h, hget_c, hget_n, hput_c, hput_n, hdel_c, hdel_n, hups, cond_true, cond_false,  ups, St.F, St.app, FSt.ev, dropE_c, dropE_n, inL_c, inL_n, envOf, thenQ, blockQ, D.isBot, D.isAgg, D.cells, D.leaf, scalarEq, eqCells, isB, Option.map, List.map, List.length, List.all, List.append, List.take, List.drop, List.cons_append, List.nil_append, List.append_nil, Option.isSome, List.getElem?_cons_zero, List.getElem?_cons_succ, if_true, if_false, true_and, and_true, Bool.not_true, Bool.not_false, Bool.true_or, Bool.false_or, Bool.or_true, Bool.or_false, Bool.false_eq_true, ↓reduceIte, Nat.reduceAdd, Nat.reduceMul, Nat.reduceEqDiff, Nat.reduceBEq, Nat.reduceSub, Nat.zero_add, Nat.reduceLeDiff, Nat.reduceGT, Nat.reduceLT, Nat.reduceBNe, okLog_f, reduceCtorEq, or_self, or_false, false_or, or_true, true_or, and_self, and_false, false_and, not_true_eq_false, not_false_eq_true, ne_eq, Bool.and_true, Bool.true_and, Bool.and_false, Bool.false_and, decide_eq_true_eq, decide_true, decide_false, Int.reduceBEq, Int.reduceBNe, Int.reduceLT, Int.reduceLE, Int.reduceAdd, Int.reduceSub, Int.reduceMul, Int.reduceNeg, Int.reduceEq, Int.toNat_zero, Int.reduceToNat, Int.zero_lt_one, Nat.zero_le, Int.le_refl, beq_self_eq_true, bne_self_eq_false, cast_lit, fits, wrap_in, Int.toNat_natCast, Int.natCast_nonneg, bxs_all, bxs_gd l k hk']
          refine aw_seq (aw_region ?_)
          simp (config := {maxSteps := 10000000}) (disch := first | exact okYes (by kernel_rfl) | omega) only [ARun_nil, ARun_none, ARun_some, ARun_skip, AOpRun, AGo_f, AGo_ok, AG_tt, AG_ff, AG_tf, AG_ft, AG_un, aexec, run1, asI, elems, base, opt1, fillD, splice, abin, ash, isSh, foldI, mn2, mx2, ↓eget_h, eget_c, eget_n, eput_c, eput_n, putO, ↓hget_h, hget_c, hget_n, hput_c, hput_n, hdel_c, hdel_n, hups, cond_true, cond_false,  ups, St.F, St.app, FSt.ev, dropE_c, dropE_n, inL_c, inL_n, envOf, thenQ, blockQ, D.isBot, D.isAgg, D.cells, D.leaf, scalarEq, eqCells, isB, Option.map, List.map, List.length, List.all, List.append, List.take, List.drop, List.cons_append, List.nil_append, List.append_nil, Option.isSome, List.getElem?_cons_zero, List.getElem?_cons_succ, if_true, if_false, true_and, and_true, Bool.not_true, Bool.not_false, Bool.true_or, Bool.false_or, Bool.or_true, Bool.or_false, Bool.false_eq_true, ↓reduceIte, Nat.reduceAdd, Nat.reduceMul, Nat.reduceEqDiff, Nat.reduceBEq, Nat.reduceSub, Nat.zero_add, Nat.reduceLeDiff, Nat.reduceGT, Nat.reduceLT, Nat.reduceBNe, okLog_f, reduceCtorEq, or_self, or_false, false_or, or_true, true_or, and_self, and_false, false_and, not_true_eq_false, not_false_eq_true, ne_eq, Bool.and_true, Bool.true_and, Bool.and_false, Bool.false_and, decide_eq_true_eq, decide_true, decide_false, Int.reduceBEq, Int.reduceBNe, Int.reduceLT, Int.reduceLE, Int.reduceAdd, Int.reduceSub, Int.reduceMul, Int.reduceNeg, Int.reduceEq, Int.toNat_zero, Int.reduceToNat, Int.zero_lt_one, Nat.zero_le, Int.le_refl, beq_self_eq_true, bne_self_eq_false, cast_lit, fits, wrap_in, Int.toNat_natCast, Int.natCast_nonneg, bxs_all, bxs_gd l 0 h0, sps_len]
          refine aw_cond rfl (fun hc => ?_) (fun hc => ?_)
          · have he : ((l[k]?.getD []).length == (l[0]?.getD []).length) = false := by
              have h : (((l[k]?.getD []).length : Int) != ((l[0]?.getD []).length : Int)) = true := hc
              have h' : ((l[k]?.getD []).length : Int) ≠ ((l[0]?.getD []).length : Int) := by simpa using h
              simp only [beq_eq_false_iff_ne, ne_eq]; omega
            have hno : l.all (fun b => b.length == (l[0]?.getD []).length) = false := all_no (f := fun b => b.length == (l[0]?.getD []).length) hk' he
            refine aw_seq (aw_region ?_)
            simp (config := {maxSteps := 10000000}) (disch := first | exact okYes (by kernel_rfl) | omega) only [ARun_nil, ARun_none, ARun_some, ARun_skip, AOpRun, AGo_f, AGo_ok, AG_tt, AG_ff, AG_tf, AG_ft, AG_un, aexec, run1, asI, elems, base, opt1, fillD, splice, abin, ash, isSh, foldI, mn2, mx2, ↓eget_h, eget_c, eget_n, eput_c, eput_n, putO, ↓hget_h, hget_c, hget_n, hput_c, hput_n, hdel_c, hdel_n, hups, cond_true, cond_false,  ups, St.F, St.app, FSt.ev, dropE_c, dropE_n, inL_c, inL_n, envOf, thenQ, blockQ, D.isBot, D.isAgg, D.cells, D.leaf, scalarEq, eqCells, isB, Option.map, List.map, List.length, List.all, List.append, List.take, List.drop, List.cons_append, List.nil_append, List.append_nil, Option.isSome, List.getElem?_cons_zero, List.getElem?_cons_succ, if_true, if_false, true_and, and_true, Bool.not_true, Bool.not_false, Bool.true_or, Bool.false_or, Bool.or_true, Bool.or_false, Bool.false_eq_true, ↓reduceIte, Nat.reduceAdd, Nat.reduceMul, Nat.reduceEqDiff, Nat.reduceBEq, Nat.reduceSub, Nat.zero_add, Nat.reduceLeDiff, Nat.reduceGT, Nat.reduceLT, Nat.reduceBNe, okLog_f, reduceCtorEq, or_self, or_false, false_or, or_true, true_or, and_self, and_false, false_and, not_true_eq_false, not_false_eq_true, ne_eq, Bool.and_true, Bool.true_and, Bool.and_false, Bool.false_and, decide_eq_true_eq, decide_true, decide_false, Int.reduceBEq, Int.reduceBNe, Int.reduceLT, Int.reduceLE, Int.reduceAdd, Int.reduceSub, Int.reduceMul, Int.reduceNeg, Int.reduceEq, Int.toNat_zero, Int.reduceToNat, Int.zero_lt_one, Nat.zero_le, Int.le_refl, beq_self_eq_true, bne_self_eq_false, cast_lit, fits, wrap_in, Int.toNat_natCast, Int.natCast_nonneg]
            refine aw_ret ?_
            unfold chk
            rw [hno, hall]
            simp only [Bool.false_eq_true, if_false, if_true]
            refine end_to [] [] (by first | exact .inl rfl | exact .inr rfl) rfl (by kernel_rfl) (by kernel_rfl) (by kernel_rfl) ?_ ?_ <;> repeat' (first | exact trivial | exact vr_val _ | exact vr_list _ | exact vr_at _ | exact vr_nil | exact vr_cap0 | exact vr_vec _ _ _ _ rfl | exact vr_own _ _ _ _ _ rfl | exact vr_ptr _ _ _ rfl | exact vr_nilv _ _ _ rfl | exact vr_bot _ | exact vr_cap0v _ _ _ rfl | exact vr_cap0l | apply vr_agg | apply vr_tup | apply vr_fn | refine vr_yld _ _ _ rfl ?_ | exact Ren.bot _ | exact Ren.val _ | exact Ren.list _ | exact Ren.at_ _ | exact Ren.ptr _ _ _ rfl | refine Ren.yld _ _ _ _ _ rfl rfl (RenL.get ?_).2 (fun _ _ _ h => h) | refine vr_fl _ _ _ _ _ (by decide) rfl ?_ ?_ ?_ ?_ | refine And.intro ⟨_, rfl, .inl ⟨_, rfl, by decide, ?_⟩⟩ ?_ | refine And.intro ⟨_, rfl, _, rfl, by decide, ?_⟩ ?_ | refine And.intro ⟨_, rfl, .inr ⟨rfl, rfl, of_decide_eq_true (by kernel_rfl)⟩⟩ ?_ | apply And.intro | exact vrl_flat _ (by first | exact icells_in _ | exact rcells_in _ | exact scells_in _ | exact bcells_in _ | assumption) | fail)
          · have he : ((l[k]?.getD []).length == (l[0]?.getD []).length) = true := by
              have h : (((l[k]?.getD []).length : Int) != ((l[0]?.getD []).length : Int)) = false := hc
              have h' : ((l[k]?.getD []).length : Int) = ((l[0]?.getD []).length : Int) := by simpa using h
              simp only [beq_iff_eq]; omega
            refine aw_skip ?_
            simp only [thenQ, blockQ, if_true]
            refine aw_region ?_
            simp (config := {maxSteps := 10000000}) (disch := first | exact okYes (by kernel_rfl) | omega) only [ARun_nil, ARun_none, ARun_some, ARun_skip, AOpRun, AGo_f, AGo_ok, AG_tt, AG_ff, AG_tf, AG_ft, AG_un, aexec, run1, asI, elems, base, opt1, fillD, splice, abin, ash, isSh, foldI, mn2, mx2, ↓eget_h, eget_c, eget_n, eput_c, eput_n, putO, ↓hget_h, hget_c, hget_n, hput_c, hput_n, hdel_c, hdel_n, hups, cond_true, cond_false,  ups, St.F, St.app, FSt.ev, dropE_c, dropE_n, inL_c, inL_n, envOf, thenQ, blockQ, D.isBot, D.isAgg, D.cells, D.leaf, scalarEq, eqCells, isB, Option.map, List.map, List.length, List.all, List.append, List.take, List.drop, List.cons_append, List.nil_append, List.append_nil, Option.isSome, List.getElem?_cons_zero, List.getElem?_cons_succ, if_true, if_false, true_and, and_true, Bool.not_true, Bool.not_false, Bool.true_or, Bool.false_or, Bool.or_true, Bool.or_false, Bool.false_eq_true, ↓reduceIte, Nat.reduceAdd, Nat.reduceMul, Nat.reduceEqDiff, Nat.reduceBEq, Nat.reduceSub, Nat.zero_add, Nat.reduceLeDiff, Nat.reduceGT, Nat.reduceLT, Nat.reduceBNe, okLog_f, reduceCtorEq, or_self, or_false, false_or, or_true, true_or, and_self, and_false, false_and, not_true_eq_false, not_false_eq_true, ne_eq, Bool.and_true, Bool.true_and, Bool.and_false, Bool.false_and, decide_eq_true_eq, decide_true, decide_false, Int.reduceBEq, Int.reduceBNe, Int.reduceLT, Int.reduceLE, Int.reduceAdd, Int.reduceSub, Int.reduceMul, Int.reduceNeg, Int.reduceEq, Int.toNat_zero, Int.reduceToNat, Int.zero_lt_one, Nat.zero_le, Int.le_refl, beq_self_eq_true, bne_self_eq_false, cast_lit, fits, wrap_in, Int.toNat_natCast, Int.natCast_nonneg]
            refine ⟨k + 1, ⟨hk', all_next (f := fun b => b.length == (l[0]?.getD []).length) hin2 he⟩, by omega, ?_⟩
            refine wk_to [] [] (by kernel_rfl) (by kernel_rfl) (by kernel_rfl) (by kernel_rfl) (by kernel_rfl) ?_ ?_ <;> repeat' (first | exact trivial | exact vr_val _ | exact vr_list _ | exact vr_at _ | exact vr_nil | exact vr_cap0 | exact vr_vec _ _ _ _ rfl | exact vr_own _ _ _ _ _ rfl | exact vr_ptr _ _ _ rfl | exact vr_nilv _ _ _ rfl | exact vr_bot _ | exact vr_cap0v _ _ _ rfl | exact vr_cap0l | apply vr_agg | apply vr_tup | apply vr_fn | refine vr_yld _ _ _ rfl ?_ | exact Ren.bot _ | exact Ren.val _ | exact Ren.list _ | exact Ren.at_ _ | exact Ren.ptr _ _ _ rfl | refine Ren.yld _ _ _ _ _ rfl rfl (RenL.get ?_).2 (fun _ _ _ h => h) | refine vr_fl _ _ _ _ _ (by decide) rfl ?_ ?_ ?_ ?_ | refine And.intro ⟨_, rfl, .inl ⟨_, rfl, by decide, ?_⟩⟩ ?_ | refine And.intro ⟨_, rfl, _, rfl, by decide, ?_⟩ ?_ | refine And.intro ⟨_, rfl, .inr ⟨rfl, rfl, of_decide_eq_true (by kernel_rfl)⟩⟩ ?_ | apply And.intro | exact vrl_flat _ (by first | exact icells_in _ | exact rcells_in _ | exact scells_in _ | exact bcells_in _ | assumption) | fail)
        · have hk' : k = l.length := by have := of_decide_eq_false hc; omega
          subst hk'
          have hall2 := all_at (f := fun b => b.length == (l[0]?.getD []).length) hin2
          refine aw_exit ?_
          simp only [thenQ, blockQ, if_true]
          refine aw_seq (aw_region ?_)
          simp (config := {maxSteps := 10000000}) (disch := first | exact okYes (by kernel_rfl) | omega) only [ARun_nil, ARun_none, ARun_some, ARun_skip, AOpRun, AGo_f, AGo_ok, AG_tt, AG_ff, AG_tf, AG_ft, AG_un, aexec, run1, asI, elems, base, opt1, fillD, splice, abin, ash, isSh, foldI, mn2, mx2, ↓eget_h, eget_c, eget_n, eput_c, eput_n, putO, ↓hget_h, hget_c, hget_n, hput_c, hput_n, hdel_c, hdel_n, hups, cond_true, cond_false,  ups, St.F, St.app, FSt.ev, dropE_c, dropE_n, inL_c, inL_n, envOf, thenQ, blockQ, D.isBot, D.isAgg, D.cells, D.leaf, scalarEq, eqCells, isB, Option.map, List.map, List.length, List.all, List.append, List.take, List.drop, List.cons_append, List.nil_append, List.append_nil, Option.isSome, List.getElem?_cons_zero, List.getElem?_cons_succ, if_true, if_false, true_and, and_true, Bool.not_true, Bool.not_false, Bool.true_or, Bool.false_or, Bool.or_true, Bool.or_false, Bool.false_eq_true, ↓reduceIte, Nat.reduceAdd, Nat.reduceMul, Nat.reduceEqDiff, Nat.reduceBEq, Nat.reduceSub, Nat.zero_add, Nat.reduceLeDiff, Nat.reduceGT, Nat.reduceLT, Nat.reduceBNe, okLog_f, reduceCtorEq, or_self, or_false, false_or, or_true, true_or, and_self, and_false, false_and, not_true_eq_false, not_false_eq_true, ne_eq, Bool.and_true, Bool.true_and, Bool.and_false, Bool.false_and, decide_eq_true_eq, decide_true, decide_false, Int.reduceBEq, Int.reduceBNe, Int.reduceLT, Int.reduceLE, Int.reduceAdd, Int.reduceSub, Int.reduceMul, Int.reduceNeg, Int.reduceEq, Int.toNat_zero, Int.reduceToNat, Int.zero_lt_one, Nat.zero_le, Int.le_refl, beq_self_eq_true, bne_self_eq_false, cast_lit, fits, wrap_in, Int.toNat_natCast, Int.natCast_nonneg]
          refine aw_ret ?_
          unfold chk
          rw [hall2, hall]
          simp only [if_true]
          refine end_to [] [] (by first | exact .inl rfl | exact .inr rfl) rfl (by kernel_rfl) (by kernel_rfl) (by kernel_rfl) ?_ ?_ <;> repeat' (first | exact trivial | exact vr_val _ | exact vr_list _ | exact vr_at _ | exact vr_nil | exact vr_cap0 | exact vr_vec _ _ _ _ rfl | exact vr_own _ _ _ _ _ rfl | exact vr_ptr _ _ _ rfl | exact vr_nilv _ _ _ rfl | exact vr_bot _ | exact vr_cap0v _ _ _ rfl | exact vr_cap0l | apply vr_agg | apply vr_tup | apply vr_fn | refine vr_yld _ _ _ rfl ?_ | exact Ren.bot _ | exact Ren.val _ | exact Ren.list _ | exact Ren.at_ _ | exact Ren.ptr _ _ _ rfl | refine Ren.yld _ _ _ _ _ rfl rfl (RenL.get ?_).2 (fun _ _ _ h => h) | refine vr_fl _ _ _ _ _ (by decide) rfl ?_ ?_ ?_ ?_ | refine And.intro ⟨_, rfl, .inl ⟨_, rfl, by decide, ?_⟩⟩ ?_ | refine And.intro ⟨_, rfl, _, rfl, by decide, ?_⟩ ?_ | refine And.intro ⟨_, rfl, .inr ⟨rfl, rfl, of_decide_eq_true (by kernel_rfl)⟩⟩ ?_ | apply And.intro | exact vrl_flat _ (by first | exact icells_in _ | exact rcells_in _ | exact scells_in _ | exact bcells_in _ | assumption) | fail)
end Go.Proofs.Ytgibbaadjbohdaa
/- Each point of a box is in another one or in just one part of what is left: in numbers. No conditions. -/
namespace Go.Proofs.Ytgibbaadjbohdaa

def pv (p : List Int) (k : Nat) : Int := p[k]?.getD 0
def inD (p : List Int) (b : Bx) (k : Nat) : Bool := decide (lo b k ≤ pv p k) && decide (pv p k ≤ hi b k)
def inL (p : List Int) (b : Bx) : Bool := (List.range b.length).all fun k => inD p b k
theorem inL_iff {p : List Int} {b : Bx} : inL p b = true ↔ ∀ k, k < b.length → lo b k ≤ pv p k ∧ pv p k ≤ hi b k := by
  simp [inL, inD, List.all_eq_true]
theorem inL_set {p : List Int} {l : Bx} {d : Nat} {x : Int × Int} (h : d < l.length) : inL p (l.set d x) = true ↔ (∀ k, k < l.length → k ≠ d → lo l k ≤ pv p k ∧ pv p k ≤ hi l k) ∧ x.1 ≤ pv p d ∧ pv p d ≤ x.2 := by
  rw [inL_iff, List.length_set]
  constructor
  · intro hh
    refine ⟨fun k hk hne => ?_, ?_⟩
    · have := hh k hk
      rwa [lo_set_ne _ _ _ _ (Ne.symm hne), hi_set_ne _ _ _ _ (Ne.symm hne)] at this
    · have := hh d h
      obtain ⟨u, v⟩ := x
      rwa [lo_set _ _ _ _ h, hi_set _ _ _ _ h] at this
  · rintro ⟨h1, h2⟩ k hk
    by_cases hkd : k = d
    · subst hkd
      obtain ⟨u, v⟩ := x
      rw [lo_set _ _ _ _ h, hi_set _ _ _ _ h]; exact h2
    · rw [lo_set_ne _ _ _ _ (Ne.symm hkd), hi_set_ne _ _ _ _ (Ne.symm hkd)]
      exact h1 k hk hkd
theorem inL_at {p : List Int} {l : Bx} {d : Nat} (h : d < l.length) : inL p l = true ↔ (∀ k, k < l.length → k ≠ d → lo l k ≤ pv p k ∧ pv p k ≤ hi l k) ∧ lo l d ≤ pv p d ∧ pv p d ≤ hi l d := by
  rw [inL_iff]
  constructor
  · intro hh; exact ⟨fun k hk _ => hh k hk, hh d h⟩
  · rintro ⟨h1, h2⟩ k hk
    by_cases hkd : k = d
    · subst hkd; exact h2
    · exact h1 k hk hkd
theorem cut_count {p : List Int} {l : Bx} {d : Nat} {x : Int × Int} : (cut1 l d x).countP (inL p) = if x.1 ≤ x.2 ∧ inL p (l.set d x) = true then 1 else 0 := by
  unfold cut1
  by_cases h : x.1 > x.2
  · rw [if_pos h, if_neg (fun hh => by omega)]; rfl
  · rw [if_neg h]
    by_cases h2 : inL p (l.set d x) = true
    · rw [if_pos ⟨by omega, h2⟩]; simp [h2]
    · rw [if_neg (fun hh => h2 hh.2)]; simp [h2]
open Classical in
theorem mn_count (p : List Int) (b : Bx) (hb : OkB b) : ∀ (n : Nat) (l : Bx) (d : Nat), d + n = l.length → l.length = b.length →
    (mnGo b n l d).countP (inL p) = if inL p l = true ∧ ¬ (∀ k, d ≤ k → k < b.length → lo b k ≤ pv p k ∧ pv p k ≤ hi b k) then 1 else 0
  | 0, l, d, h1, h2 => by
    rw [if_neg]
    · rfl
    · rintro ⟨_, h⟩
      exact h fun k hk1 hk2 => by omega
  | n + 1, l, d, h1, h2 => by
    have hd : d < l.length := by omega
    have hbd := hb.le d (by omega)
    unfold mnGo
    have ih := mn_count p b hb n (l.set d (pMid l b d)) (d + 1) (by rw [List.length_set]; omega) (by rw [List.length_set]; exact h2)
    have hmid : (if (pMid l b d).1 > (pMid l b d).2 then [] else mnGo b n (l.set d (pMid l b d)) (d + 1)).countP (inL p) = if inL p (l.set d (pMid l b d)) = true ∧ ¬ (∀ k, d + 1 ≤ k → k < b.length → lo b k ≤ pv p k ∧ pv p k ≤ hi b k) then 1 else 0 := by
      by_cases hm : (pMid l b d).1 > (pMid l b d).2
      · rw [if_pos hm, if_neg]
        · rfl
        · rintro ⟨h, _⟩
          have := ((inL_set hd).1 h).2
          omega
      · rw [if_neg hm, ih]
    rw [List.countP_append, List.countP_append, cut_count, cut_count, hmid]
    have hrest : (∀ k, d ≤ k → k < b.length → lo b k ≤ pv p k ∧ pv p k ≤ hi b k) ↔ (lo b d ≤ pv p d ∧ pv p d ≤ hi b d) ∧ ∀ k, d + 1 ≤ k → k < b.length → lo b k ≤ pv p k ∧ pv p k ≤ hi b k := by
      constructor
      · intro h; exact ⟨h d (Nat.le_refl _) (by omega), fun k hk hk2 => h k (by omega) hk2⟩
      · rintro ⟨h3, h4⟩ k hk hk2
        by_cases hkd : k = d
        · subst hkd; exact h3
        · exact h4 k (by omega) hk2
    rw [hrest]
    simp only [inL_set hd, inL_at hd]
    by_cases hA : ∀ k, k < l.length → k ≠ d → lo l k ≤ pv p k ∧ pv p k ≤ hi l k
    · by_cases hR : ∀ k, d + 1 ≤ k → k < b.length → lo b k ≤ pv p k ∧ pv p k ≤ hi b k
      · simp only [eq_true hA, eq_true hR, true_and, and_true, not_true_eq_false, and_false, if_false]
        unfold pLow pHigh
        generalize pv p d = x
        generalize lo l d = l0 at *
        generalize hi l d = l1 at *
        generalize lo b d = b0 at *
        generalize hi b d = b1 at *
        simp only
        repeat' split
        all_goals omega
      · simp only [eq_true hA, eq_false hR, true_and, not_false_eq_true, and_true, and_false]
        unfold pLow pHigh pMid
        generalize pv p d = x
        generalize lo l d = l0 at *
        generalize hi l d = l1 at *
        generalize lo b d = b0 at *
        generalize hi b d = b1 at *
        simp only
        repeat' split
        all_goals omega
    · simp only [eq_false hA, false_and, and_false, if_false]
theorem okB_set {l : Bx} {d : Nat} {x : Int × Int} (h : OkB l) (hd : d < l.length) (h1 : -1000000 ≤ x.1) (h2 : x.1 ≤ x.2) (h3 : x.2 ≤ 1000000) : OkB (l.set d x) := by
  obtain ⟨u, v⟩ := x
  have key : ∀ k, k < l.length → -1000000 ≤ lo (l.set d (u, v)) k ∧ lo (l.set d (u, v)) k ≤ hi (l.set d (u, v)) k ∧ hi (l.set d (u, v)) k ≤ 1000000 := fun k hk => by
    by_cases hkd : d = k
    · subst hkd; rw [lo_set _ _ _ _ hd, hi_set _ _ _ _ hd]; exact ⟨h1, h2, h3⟩
    · rw [lo_set_ne _ _ _ _ hkd, hi_set_ne _ _ _ _ hkd]; exact ⟨h.low k hk, h.le k hk, h.high k hk⟩
  exact ⟨by rw [List.length_set]; exact h.pos, by rw [List.length_set]; exact h.len, fun k hk => (key k (by simpa using hk)).1, fun k hk => (key k (by simpa using hk)).2.1, fun k hk => (key k (by simpa using hk)).2.2⟩
theorem okB_E {b : Bx} (h : OkB b) : boxE b = 0 := by
  unfold boxE
  rw [if_pos]
  refine ⟨h.pos, h.len, List.all_eq_true.2 fun x hx => ?_⟩
  obtain ⟨k, hk, rfl⟩ := List.getElem_of_mem hx
  have h1 := h.low k hk
  have h2 := h.le k hk
  have h3 := h.high k hk
  have e1 : lo b k = b[k].1 := by simp [lo, hk]
  have e2 : hi b k = b[k].2 := by simp [hi, hk]
  rw [e1] at h1 h2
  rw [e2] at h2 h3
  simp [okS, h1, h2, h3]
theorem mn_ok (b : Bx) : ∀ (n : Nat) (l : Bx) (d : Nat), d + n = l.length → OkB l → ∀ x ∈ mnGo b n l d, OkB x
  | 0, _, _, _, _ => by simp [mnGo]
  | n + 1, l, d, h1, hl => by
    intro x hx
    have hd : d < l.length := by omega
    have g1 := hl.low d hd
    have g2 := hl.le d hd
    have g3 := hl.high d hd
    unfold mnGo at hx
    simp only [List.mem_append] at hx
    rcases hx with (hx | hx) | hx
    · unfold cut1 at hx
      by_cases hc : (pLow l b d).1 > (pLow l b d).2
      · rw [if_pos hc] at hx; simp at hx
      · rw [if_neg hc] at hx
        have hx' : x = l.set d (pLow l b d) := by simpa using hx
        rw [hx']
        refine okB_set hl hd g1 (by omega) ?_
        show (if lo b d - 1 < hi l d then lo b d - 1 else hi l d) ≤ 1000000
        split <;> omega
    · unfold cut1 at hx
      by_cases hc : (pHigh l b d).1 > (pHigh l b d).2
      · rw [if_pos hc] at hx; simp at hx
      · rw [if_neg hc] at hx
        have hx' : x = l.set d (pHigh l b d) := by simpa using hx
        rw [hx']
        refine okB_set hl hd ?_ (by omega) g3
        show -1000000 ≤ (if hi b d + 1 > lo l d then hi b d + 1 else lo l d)
        split <;> omega
    · split at hx
      · simp at hx
      · rename_i hm
        refine mn_ok b n _ (d + 1) (by rw [List.length_set]; omega) (okB_set hl hd ?_ (by omega) ?_) x hx
        · show -1000000 ≤ (if lo b d > lo l d then lo b d else lo l d)
          split <;> omega
        · show (if hi b d < hi l d then hi b d else hi l d) ≤ 1000000
          split <;> omega
/-- the boxes of what is left -/
theorem lost (p : List Int) (a b : Bx) (ha : OkB a) (hb : OkB b) (hl : a.length = b.length) : (mnL a b).countP (inL p) = if inL p a = true ∧ inL p b = false then 1 else 0 := by
  unfold mnL
  rw [mn_count p b hb _ a 0 (by omega) hl]
  have : (∀ k, 0 ≤ k → k < b.length → lo b k ≤ pv p k ∧ pv p k ≤ hi b k) ↔ inL p b = true := by
    rw [inL_iff]; exact ⟨fun h k hk => h k (Nat.zero_le _) hk, fun h k _ hk => h k hk⟩
  rw [this]
  by_cases h1 : inL p a = true <;> by_cases h2 : inL p b = true <;> simp [h1, h2]
theorem mnL_ok (a b : Bx) (ha : OkB a) : ∀ x ∈ mnL a b, OkB x := mn_ok b _ a 0 (by omega) ha
end Go.Proofs.Ytgibbaadjbohdaa
/- How many points what is left of boxes has: never more than all. In numbers; no conditions. -/
namespace Go.Proofs.Ytgibbaadjbohdaa

def wid (x : Int × Int) : Int := if x.1 > x.2 then 0 else x.2 - x.1 + 1
def vol : Bx → Int
  | [] => 1
  | x :: b => wid x * vol b
theorem wid_nn (x : Int × Int) : 0 ≤ wid x := by unfold wid; split <;> omega
theorem vol_nn : ∀ b : Bx, 0 ≤ vol b
  | [] => by simp [vol]
  | x :: b => Int.mul_nonneg (wid_nn x) (vol_nn b)
def at_ (b : Bx) (d : Nat) : Int × Int := (lo b d, hi b d)
end Go.Proofs.Ytgibbaadjbohdaa
/- What is left of boxes without others, one after the other, has no more points than all there are. No conditions. -/
namespace Go.Proofs.Ytgibbaadjbohdaa

def rst (l : List Bx) (b : Bx) : List Bx := l.flatMap fun a => mnL a b
/-- what is left of x without the boxes of R, the last one first -/
def leftR : List Bx → Bx → List Bx
  | [], x => [x]
  | b :: R, x => rst (leftR R x) b
theorem mnGo_ln (b : Bx) : ∀ (n : Nat) (l : Bx) (d : Nat), ∀ x ∈ mnGo b n l d, x.length = l.length
  | 0, _, _ => by simp [mnGo]
  | n + 1, l, d => by
    intro x hx
    unfold mnGo at hx
    have hc : ∀ y, x ∈ cut1 l d y → x.length = l.length := by
      intro y hy
      unfold cut1 at hy
      split at hy
      · simp at hy
      · simp at hy; subst hy; simp
    simp only [List.mem_append] at hx
    rcases hx with (hx | hx) | hx
    · exact hc _ hx
    · exact hc _ hx
    · split at hx
      · simp at hx
      · have := mnGo_ln b n _ _ x hx
        simpa using this
theorem rst_mem {l : List Bx} {b x : Bx} (h : x ∈ rst l b) : ∃ a ∈ l, x ∈ mnL a b := by simpa [rst] using h
theorem leftR_len {n : Nat} : ∀ (R : List Bx) (x : Bx), x.length = n → ∀ y ∈ leftR R x, y.length = n
  | [], x, h, y, hy => by simp [leftR] at hy; subst hy; exact h
  | b :: R, x, h, y, hy => by
    obtain ⟨a, ha, hm⟩ := rst_mem hy
    have := leftR_len R x h a ha
    rw [mnGo_ln b _ a 0 y hm, this]
theorem leftR_ok : ∀ (R : List Bx) (x : Bx), OkB x → ∀ y ∈ leftR R x, OkB y
  | [], x, h, y, hy => by simp [leftR] at hy; subst hy; exact h
  | b :: R, x, h, y, hy => by
    obtain ⟨a, ha, hm⟩ := rst_mem hy
    exact mnL_ok a b (leftR_ok R x h a ha) y hm
def sumW (l : List Bx) : Int := (l.map vol).sum
/-- how many points the first i boxes have, each without those before it -/
def cnt (l : List Bx) : Nat → Int
  | 0 => 0
  | i + 1 => cnt l i + sumW (leftR (l.take i).reverse (l[i]?.getD []))
theorem sumW_nn : ∀ l : List Bx, 0 ≤ sumW l
  | [] => by simp [sumW]
  | y :: l => by
    have := sumW_nn l
    have := vol_nn y
    simp only [sumW, List.map_cons, List.sum_cons] at *
    omega
theorem cnt_nn (l : List Bx) : ∀ i, 0 ≤ cnt l i
  | 0 => by simp [cnt]
  | i + 1 => by
    have := cnt_nn l i
    have := sumW_nn (leftR (l.take i).reverse (l[i]?.getD []))
    unfold cnt; omega
theorem sumW_take_succ (l : List Bx) (k : Nat) (h : k < l.length) : sumW (l.take (k + 1)) = sumW (l.take k) + vol (l[k]?.getD []) := by
  unfold sumW
  rw [← List.take_append_getElem h, List.map_append, List.sum_append]
  simp [h]
end Go.Proofs.Ytgibbaadjbohdaa
/- Copies of boxes, what is left of one, and how many points it has. No conditions. -/
namespace Go.Proofs.Ytgibbaadjbohdaa
open Go.RowKit Lift

theorem vol_take : ∀ (b : Bx) (k : Nat), k < b.length → vol (b.take (k + 1)) = vol (b.take k) * wid (at_ b k)
  | [], k, h => by simp at h
  | x :: b, 0, _ => by simp [vol, at_, lo, hi]
  | x :: b, k + 1, h => by
    have := vol_take b k (by simpa using h)
    simp only [List.take_succ_cons, vol] at this ⊢
    rw [this, Int.mul_assoc]
    rfl
theorem wid_ok {b : Bx} (h : OkB b) {k : Nat} (hk : k < b.length) : wid (at_ b k) = hi b k - lo b k + 1 ∧ 1 ≤ wid (at_ b k) ∧ wid (at_ b k) ≤ 2000001 := by
  have h1 := h.low k hk
  have h2 := h.le k hk
  have h3 := h.high k hk
  unfold wid at_
  simp only
  rw [if_neg (by omega)]
  omega
theorem vol_take_le {b : Bx} (h : OkB b) : ∀ k, k ≤ b.length → 0 ≤ vol (b.take k) ∧ vol (b.take k) ≤ 2000001 ^ k
  | 0, _ => by simp [vol]
  | k + 1, hk => by
    obtain ⟨h1, h2⟩ := vol_take_le h k (by omega)
    obtain ⟨_, h4, h5⟩ := wid_ok h (k := k) (by omega)
    rw [vol_take b k (by omega)]
    refine ⟨Int.mul_nonneg h1 (by omega), ?_⟩
    rw [Int.pow_succ]
    exact Int.mul_le_mul h2 h5 (by omega) (by exact Int.pow_nonneg (by omega))
theorem vol_small {b : Bx} (h : OkB b) (k : Nat) (hk : k ≤ b.length) : 0 ≤ vol (b.take k) ∧ vol (b.take k) ≤ 8000012000006000001 := by
  obtain ⟨h1, h2⟩ := vol_take_le h k hk
  refine ⟨h1, Int.le_trans h2 ?_⟩
  have h3 := h.len
  rcases (by omega : k = 0 ∨ k = 1 ∨ k = 2 ∨ k = 3) with rfl | rfl | rfl | rfl <;> decide
end Go.Proofs.Ytgibbaadjbohdaa
/- What is left of a box without others: the reference's left. No conditions. -/
namespace Go.Proofs.Ytgibbaadjbohdaa
open Go.RowKit Lift

theorem left_succ (L : List Bx) (x : Bx) (i : Nat) (h : i < L.length) : leftR (L.take (i + 1)).reverse x = rst (leftR (L.take i).reverse x) (L[i]?.getD []) := by
  have hrev : (L.take (i + 1)).reverse = L[i]?.getD [] :: (L.take i).reverse := by
    rw [← List.take_append_getElem h]; simp [h]
  rw [hrev]; rfl
theorem chk_zero {d : Nat} {l : List Bx} (h : chk d l = 0) : ∀ b ∈ l, OkB b ∧ b.length = d := by
  unfold chk at h
  split at h
  · rename_i h1
    split at h
    · rename_i h2
      intro b hb
      have e1 := List.all_eq_true.1 h1 b hb
      have e2 := List.all_eq_true.1 h2 b hb
      exact ⟨boxE_zero (by simpa using e1), by simpa using e2⟩
    · omega
  · omega
end Go.Proofs.Ytgibbaadjbohdaa
