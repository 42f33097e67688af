/- spans.rest: what is left of boxes, by the iterator spans.minus. No conditions. -/
import Derived.Test.YtfaiogajaaclcaaLMn1
set_option linter.unusedSimpArgs false
set_option linter.unusedVariables false
namespace Go.Proofs.Ytfaiogajaaclcaa
open Go.RowKit Lift

def restP (l : List Bx) (b : Bx) : List Bx := l.flatMap fun a => mnL a b
theorem cut1_len (l : Bx) (d : Nat) (x : Int × Int) : (cut1 l d x).length ≤ 1 := by unfold cut1; split <;> simp
theorem mnGo_len (b : Bx) : ∀ (n : Nat) (l : Bx) (d : Nat), (mnGo b n l d).length ≤ 2 * n
  | 0, _, _ => by simp [mnGo]
  | n + 1, l, d => by
    have h1 := cut1_len l d (pLow l b d)
    have h2 := cut1_len l d (pHigh l b d)
    have h3 := mnGo_len b n (l.set d (pMid l b d)) (d + 1)
    unfold mnGo
    split <;> simp <;> omega
theorem mnL_len (a b : Bx) : (mnL a b).length ≤ 2 * a.length := mnGo_len b _ a 0
theorem restP_len (b : Bx) : ∀ (l : List Bx), (∀ a ∈ l, a.length ≤ 3) → (restP l b).length ≤ 6 * l.length
  | [], _ => by simp [restP]
  | a :: l, h => by
    have h1 := mnL_len a b
    have h2 := h a (List.mem_cons_self ..)
    have h3 := restP_len b l fun x hx => h x (List.mem_cons_of_mem _ hx)
    unfold restP at h3 ⊢
    simp only [List.flatMap_cons, List.length_append, List.length_cons]
    omega
theorem restP_take (b : Bx) (l : List Bx) (k : Nat) (h : k < l.length) : restP (l.take (k + 1)) b = restP (l.take k) b ++ mnL (l[k]?.getD []) b := by
  unfold restP
  rw [← List.take_append_getElem h, List.flatMap_append]
  simp [h]
/-- behind the parts of a dimension so far -/
def ok2 (l b : Bx) (d : Nat) (o : List Bx) : Nat → List Bx
  | 0 => o
  | 1 => o ++ cut1 l d (pLow l b d)
  | _ => o ++ cut1 l d (pLow l b d) ++ cut1 l d (pHigh l b d)
set_option maxRecDepth 100000 in
set_option maxHeartbeats 4000000 in
theorem rest_ac (l : List Bx) (b : Bx) (hl : l.length ≤ 1000000) (hb : OkB b) (ha : ∀ a ∈ l, OkB a ∧ a.length = b.length) : AC Try.prog 93 [.list (bxs l), .list (sps b)] [] [] (.list (bxs (restP l b))) := by
  have h3 : ∀ a ∈ l, a.length ≤ 3 := fun a h => (ha a h).1.len
  have hr6 : ∀ k, (restP (l.take k) b).length ≤ 6 * l.length := fun k => by
    have h1 := restP_len b (l.take k) fun a h => h3 a (List.mem_of_mem_take h)
    have h2 : (l.take k).length ≤ l.length := by simp; omega
    omega
  refine kspans_rest.ac (n0 := 0) (by simp) ⟨.list _, .list _, trivial⟩ trivial rfl ?_
  unfold cspans_rest
  refine aw_seq (aw_region ?_)
  simp (config := {maxSteps := 10000000}) (disch := first | exact okYes (by kernel_rfl) | omega) only [thenQ, List.map, List.length, Nat.zero_add, Nat.reduceMul, envOf, ARun_none, AOpRun, aexec, Option.isSome, hget_n, Bool.false_eq_true, ↓reduceIte, AGo_ok, St.app, putO, eput_c, Nat.reduceBEq, eput_n, cond_false, hups, hput_n, ARun_nil, dropE_c, inL_n, dropE_n]
  refine aw_seq (aw_seq (aw_region ?_))
  simp (config := {maxSteps := 10000000}) (disch := first | exact okYes (by kernel_rfl) | omega) only [thenQ, List.length, Nat.zero_add, Nat.reduceAdd, Nat.reduceMul, ARun_none, AOpRun, aexec, FSt.ev, St.F, ↓eget_h, AGo_ok, St.app, putO, eput_c, Nat.reduceBEq, eput_n, cond_false, hups, List.map, eget_c, bxs_len, ARun_nil, dropE_c, inL_n, dropE_n]
  refine aw_block (aw_loop (fun k : Nat => ⟨[(1, .list (sps b)), (4, .ptr 0 0), (8, .list (bxs l)), (9, .val (.int .i64 l.length)), (10, .val (.int .i64 k))], [(0, [.vec 40 (restP (l.take k) b).length 1]), (40, bcells (restP (l.take k) b))], 48⟩) (fun k => k ≤ l.length) (fun k => l.length - k) ⟨0, by omega, ?_⟩ ?_)
  · refine wk_to [] [(0, 0), (40, 40)] (by kernel_rfl) (by kernel_rfl) (by kernel_rfl) (by kernel_rfl) (by kernel_rfl) ?_ ?_ <;> repeat' (first | exact trivial | exact vrl_flat _ (by first | exact icells_in _ | exact rcells_in _ | exact scells_in _ | exact bcells_in _ | assumption) | exact vr_val _ | exact vr_list _ | exact vr_at _ | exact vr_nil | exact vr_cap0 | exact vr_vec _ _ _ _ rfl | exact vr_own _ _ _ _ _ rfl | exact vr_ptr _ _ _ rfl | exact vr_nilv _ _ _ rfl | exact vr_bot _ | exact vr_cap0v _ _ _ rfl | exact vr_cap0l | apply vr_agg | apply vr_tup | apply vr_fn | refine vr_yld _ _ _ rfl ?_ | exact Ren.bot _ | exact Ren.val _ | exact Ren.list _ | exact Ren.at_ _ | exact Ren.ptr _ _ _ rfl | refine Ren.yld _ _ _ _ _ rfl rfl (RenL.get ?_).2 (fun _ _ _ h => h) | refine vr_fl _ _ _ _ _ (by decide) rfl ?_ ?_ ?_ ?_ | refine And.intro ⟨_, rfl, .inl ⟨_, rfl, by decide, ?_⟩⟩ ?_ | refine And.intro ⟨_, rfl, _, rfl, by decide, ?_⟩ ?_ | refine And.intro ⟨_, rfl, .inr ⟨rfl, rfl, of_decide_eq_true (by kernel_rfl)⟩⟩ ?_ | apply And.intro)
  · intro k hk
    refine aw_seq (aw_region ?_)
    simp (config := {maxSteps := 10000000}) (disch := first | exact okYes (by kernel_rfl) | omega) only [thenQ, List.length, Nat.zero_add, Nat.reduceMul, Nat.reduceAdd, ARun_none, AOpRun, aexec, FSt.ev, St.F, eget_c, Nat.reduceBEq, ↓eget_h, cond_false, isSh, Bool.false_eq_true, ↓reduceIte, Option.map, abin, AGo_ok, St.app, putO, eput_c, eput_n, hups, List.map, ARun_nil, dropE_c, inL_n, dropE_n]
    refine aw_seq (aw_cond rfl (fun hc => ?_) (fun hc => ?_))
    · have hk' : k < l.length := by have := of_decide_eq_true hc; omega
      have hga := bxs_gd l k hk'
      have hta := restP_take b l k hk'
      have hr7 := hr6 (k + 1)
      have hoa := ha (l[k]?.getD []) (by simp [hk'])
      generalize hae : l[k]?.getD [] = a at hga hta hoa
      generalize hoe : restP (l.take k) b = outs at hta
      have hlo : outs.length ≤ 6 * l.length := by rw [← hoe]; exact hr6 k
      refine aw_skip (aw_seq (aw_block (aw_seq (aw_region ?_))))
      simp (config := {maxSteps := 10000000}) (disch := first | exact okYes (by kernel_rfl) | omega) only [thenQ, List.length, Nat.zero_add, Nat.reduceAdd, Nat.reduceMul, ARun_none, AOpRun, aexec, FSt.ev, St.F, eget_c, Nat.reduceBEq, ↓eget_h, cond_false, Int.natCast_nonneg, bxs_all, and_self, ↓reduceIte, opt1, Option.map, Int.toNat_natCast, hga, AGo_ok, St.app, putO, eput_c, eput_n, hups, List.map, run1, List.getElem?_cons_zero, ARun_nil, dropE_c, inL_c, inL_n, beq_self_eq_true, cond_true, dropE_n]
      refine aw_seq (aw_region ?_)
      simp (config := {maxSteps := 10000000}) (disch := first | exact okYes (by kernel_rfl) | omega) only [thenQ, List.length, Nat.zero_add, Nat.reduceAdd, Nat.reduceMul, ARun_none, AOpRun, aexec, FSt.ev, St.F, eget_c, Nat.reduceBEq, ↓eget_h, cond_false, AGo_ok, St.app, putO, eput_c, eput_n, hups, List.map]
      refine acallH (minus_ac a b) [] (VwL.refl _) (.inl rfl) (by simp) (by simp) (by simp) (by intro g hg _; simp at hg; rcases hg with rfl | rfl <;> rfl) (by kernel_rfl) (by kernel_rfl) ?_
      simp (config := {maxSteps := 10000000}) (disch := first | exact okYes (by kernel_rfl) | omega) only [Nat.reduceAdd, St.app, putO, eput_c, Nat.reduceBEq, eput_n, cond_false, hups, hput_c, hput_n, List.map, List.append_nil, ARun_nil, dropE_c, inL_c, inL_n, beq_self_eq_true, cond_true, dropE_n]
      refine aw_block (aw_range [0] [(1, .list (sps b)), (4, .ptr 0 0), (8, .list (bxs l)), (9, .val (.int .i64 l.length)), (10, .val (.int .i64 k))] [.bot, .bot, .bot, .bot, .ptr 0 0] kspans_minus_S1 rfl (by simp) ⟨.inl rfl, .inl rfl, .inl rfl, .inl rfl, .inr rfl, trivial⟩ rfl rfl (by simp) ⟨.inr ⟨rfl, .list _⟩, .inr ⟨rfl, .ptr _ _ (by simp)⟩, .inr ⟨rfl, .list _⟩, .inr ⟨rfl, .val _⟩, .inr ⟨rfl, .val _⟩, trivial⟩ (fun r hr => ?_))
      unfold cspans_minus_S1
      refine aw_seq (aw_region ?_)
      simp (config := {maxSteps := 10000000}) (disch := first | exact okYes (by kernel_rfl) | omega) only [Nat.reduceAdd, thenQ, List.length, Nat.zero_add, Nat.reduceMul, List.nil_append, envOf, ARun_none, AOpRun, aexec, Option.map, run1, FSt.ev, St.F, eget_c, Nat.reduceBEq, ↓eget_h, cond_false, hget_c, ↓hget_h, List.getElem?_cons_zero, AGo_ok, St.app, putO, eput_c, eput_n, hups, List.map]
      refine acallH (clone1_ac a hoa.1.pos (by have := hoa.1.len; omega)) [] (VwL.refl _) (.inl rfl) (by simp) (by simp) (by simp) (by intro g hg _; simp at hg; subst hg; rfl) (by kernel_rfl) (by kernel_rfl) ?_
      simp (config := {maxSteps := 10000000}) (disch := first | exact okYes (by kernel_rfl) | omega) only [Nat.reduceAdd, St.app, putO, eput_c, Nat.reduceBEq, eput_n, cond_false, hups, hput_c, hput_n, List.map, List.append_nil, ARun_none, AOpRun, aexec, FSt.ev, St.F, eget_c, ↓eget_h, AGo_ok, ARun_nil, dropE_c, inL_c, inL_n, beq_self_eq_true, cond_true, dropE_n]
      refine aw_seq (aw_region ?_)
      simp (config := {maxSteps := 10000000}) (disch := first | exact okYes (by kernel_rfl) | omega) only [thenQ, List.length, Nat.zero_add, Nat.reduceAdd, Nat.reduceMul, ARun_none, AOpRun, aexec, FSt.ev, St.F, eget_c, Nat.reduceBEq, ↓eget_h, cond_false, AGo_ok, St.app, putO, eput_c, eput_n, hups, List.map, ARun_nil, dropE_c, inL_c, inL_n, beq_self_eq_true, cond_true, dropE_n]
      have hal : (a.length : Int) ≤ 3 := by have := hoa.1.len; omega
      refine aw_block (aw_loop (fun p : Nat × Bx × List Bx => ⟨[(0, .yld 104 r [.bot, .bot, .bot, .bot, .ptr 0 0]), (2, .ptr 97 0), (4, .vec 120 a.length 2), (12, .val (.int .i64 a.length)), (13, .val (.int .i64 p.1))],
        [(0, [.vec 40 (outs ++ p.2.2).length 1]), (40, bcells (outs ++ p.2.2)), (97, [.list (sps b)]), (120, scells p.2.1)], 200⟩) (fun p => p.1 ≤ a.length ∧ p.2.1.length = a.length ∧ p.2.2 ++ mnGo b (a.length - p.1) p.2.1 p.1 = mnL a b) (fun p => a.length - p.1) ⟨(0, a, []), ⟨by omega, rfl, rfl⟩, ?_⟩ ?_)
      · simp only [List.append_nil]
        refine wk_to [] [(0, 0), (40, 40), (97, 97), (120, 120), (104, 104)] (by kernel_rfl) (by kernel_rfl) (by kernel_rfl) (by kernel_rfl) (by kernel_rfl) ?_ ?_ <;> repeat' (first | exact trivial | exact vrl_flat _ (by first | exact icells_in _ | exact rcells_in _ | exact scells_in _ | exact bcells_in _ | assumption) | exact vr_val _ | exact vr_list _ | exact vr_at _ | exact vr_nil | exact vr_cap0 | exact vr_vec _ _ _ _ rfl | exact vr_own _ _ _ _ _ rfl | exact vr_ptr _ _ _ rfl | exact vr_nilv _ _ _ rfl | exact vr_bot _ | exact vr_cap0v _ _ _ rfl | exact vr_cap0l | apply vr_agg | apply vr_tup | apply vr_fn | refine vr_yld _ _ _ rfl ?_ | exact Ren.bot _ | exact Ren.val _ | exact Ren.list _ | exact Ren.at_ _ | exact Ren.ptr _ _ _ rfl | refine Ren.yld _ _ _ _ _ rfl rfl (RenL.get ?_).2 (fun _ _ _ h => h) | refine vr_fl _ _ _ _ _ (by decide) rfl ?_ ?_ ?_ ?_ | refine And.intro ⟨_, rfl, .inl ⟨_, rfl, by decide, ?_⟩⟩ ?_ | refine And.intro ⟨_, rfl, _, rfl, by decide, ?_⟩ ?_ | refine And.intro ⟨_, rfl, .inr ⟨rfl, rfl, of_decide_eq_true (by kernel_rfl)⟩⟩ ?_ | apply And.intro)
      · rintro ⟨d, left, o⟩ ⟨hd, hll, hmn⟩
        simp only at hd hll hmn
        refine aw_seq (aw_region ?_)
        simp (config := {maxSteps := 10000000}) (disch := first | exact okYes (by kernel_rfl) | omega) only [thenQ, List.length, Nat.zero_add, Nat.reduceMul, Nat.reduceAdd, ARun_none, AOpRun, aexec, FSt.ev, St.F, eget_c, Nat.reduceBEq, ↓eget_h, cond_false, isSh, Bool.false_eq_true, ↓reduceIte, Option.map, abin, AGo_ok, St.app, putO, eput_c, eput_n, hups, List.map, ARun_nil, dropE_c, inL_n, dropE_n]
        refine aw_seq (aw_cond rfl (fun hc => ?_) (fun hc => ?_))
        · have hd' : d < a.length := by have := of_decide_eq_true hc; omega
          have hdI : (d : Int) < (a.length : Int) := by omega
          have hl2 : d < left.length := by omega
          have hdb : d < b.length := by have := hoa.2; omega
          have b1 := hb.low d hdb
          have b2 := hb.le d hdb
          have b3 := hb.high d hdb
          refine aw_skip (aw_seq (aw_block (aw_seq (aw_region ?_))))
          simp (config := {maxSteps := 10000000}) (disch := first | exact okYes (by kernel_rfl) | omega) only [thenQ, List.length, Nat.zero_add, Nat.reduceAdd, Nat.reduceMul, ARun_none, AOpRun, aexec, FSt.ev, St.F, eget_c, Nat.reduceBEq, ↓eget_h, cond_false, AGo_ok, St.app, putO, eput_c, eput_n, hups, List.map, ARun_nil, dropE_c, inL_c, inL_n, beq_self_eq_true, cond_true, dropE_n]
          refine aw_seq (aw_seq (aw_region ?_))
          simp (config := {maxSteps := 10000000}) (disch := first | exact okYes (by kernel_rfl) | omega) only [thenQ, List.length, Nat.zero_add, Nat.reduceAdd, Nat.reduceMul, hdI, decide_true, ARun_none, AOpRun, aexec, FSt.ev, St.F, eget_c, Nat.reduceBEq, ↓eget_h, cond_false, AGo_ok, St.app, putO, eput_c, eput_n, hups, List.map, Int.natCast_nonneg, and_self, ↓reduceIte, Int.toNat_natCast, Nat.add_zero, Option.map, run1, hget_c, ↓hget_h, sc_lo left d hl2, sc_hi left d hl2, List.getElem?_cons_zero, sps_all, opt1, sps_gd b d hdb, List.drop, isSh, Bool.false_eq_true, abin, fits, foldI, mn2, fillD, D.isBot, D.cells, ne_eq, not_true_eq_false, Nat.reduceGT, or_self, splice, List.take, List.nil_append, List.cons_append, List.append_nil, mx2, ARun_nil, dropE_c, inL_c, inL_n, beq_self_eq_true, cond_true, dropE_n]
          have hfit : d * 2 + 2 ≤ (scells left).length := by rw [scells_len]; omega
          have hol2 : o.length ≤ 6 := by
            have h1 := mnL_len a b
            rw [← hmn, List.length_append] at h1
            have := hoa.1.len
            omega
          have hok : ∀ j, (outs ++ ok2 left b d o j).length ≤ 6 * l.length + 8 := fun j => by
            have h1 := cut1_len left d (pLow left b d)
            have h2 := cut1_len left d (pHigh left b d)
            have h3 : (ok2 left b d o j).length ≤ o.length + 2 := by unfold ok2; split <;> simp <;> omega
            rw [List.length_append]; omega
          have hcl := clone2_ac left (by omega) (by omega)
          rw [hll] at hcl
          refine aw_block (aw_loop (fun j : Nat => ⟨[(0, .yld 104 r [.bot, .bot, .bot, .bot, .ptr 0 0]), (2, .ptr 97 0), (4, .vec 120 a.length 2), (5, .val (.int .i64 d)), (12, .val (.int .i64 a.length)), (13, .val (.int .i64 d)),
              (52, .agg [.val (.int .i64 (pLow left b d).1), .val (.int .i64 (pLow left b d).2), .val (.int .i64 (pHigh left b d).1), .val (.int .i64 (pHigh left b d).2)]), (53, .val (.int .i64 j))],
            [(0, [.vec 40 (outs ++ ok2 left b d o j).length 1]), (40, bcells (outs ++ ok2 left b d o j)), (97, [.list (sps b)]), (120, scells left)], 300⟩) (fun j => j ≤ 2) (fun j => 2 - j) ⟨0, by omega, ?_⟩ ?_)
          · simp only [ok2]
            refine wk_to [] [(0, 0), (40, 40), (97, 97), (120, 120), (104, 104)] (by kernel_rfl) (by kernel_rfl) (by kernel_rfl) (by kernel_rfl) (by kernel_rfl) ?_ ?_ <;> repeat' (first | exact trivial | exact vrl_flat _ (by first | exact icells_in _ | exact rcells_in _ | exact scells_in _ | exact bcells_in _ | assumption) | exact vr_val _ | exact vr_list _ | exact vr_at _ | exact vr_nil | exact vr_cap0 | exact vr_vec _ _ _ _ rfl | exact vr_own _ _ _ _ _ rfl | exact vr_ptr _ _ _ rfl | exact vr_nilv _ _ _ rfl | exact vr_bot _ | exact vr_cap0v _ _ _ rfl | exact vr_cap0l | apply vr_agg | apply vr_tup | apply vr_fn | refine vr_yld _ _ _ rfl ?_ | exact Ren.bot _ | exact Ren.val _ | exact Ren.list _ | exact Ren.at_ _ | exact Ren.ptr _ _ _ rfl | refine Ren.yld _ _ _ _ _ rfl rfl (RenL.get ?_).2 (fun _ _ _ h => h) | refine vr_fl _ _ _ _ _ (by decide) rfl ?_ ?_ ?_ ?_ | refine And.intro ⟨_, rfl, .inl ⟨_, rfl, by decide, ?_⟩⟩ ?_ | refine And.intro ⟨_, rfl, _, rfl, by decide, ?_⟩ ?_ | refine And.intro ⟨_, rfl, .inr ⟨rfl, rfl, of_decide_eq_true (by kernel_rfl)⟩⟩ ?_ | apply And.intro)
          · intro j hj
            rcases (by omega : j = 0 ∨ j = 1 ∨ j = 2) with rfl | rfl | rfl
            · refine aw_seq (aw_region ?_)
              simp (config := {maxSteps := 10000000}) (disch := first | exact okYes (by kernel_rfl) | omega) only [thenQ, Nat.reduceSub, List.length, Nat.zero_add, Nat.reduceMul, Nat.reduceAdd, cast_lit, ARun_none, AOpRun, aexec, FSt.ev, St.F, eget_c, Nat.reduceBEq, ↓eget_h, cond_false, isSh, Bool.false_eq_true, ↓reduceIte, Option.map, abin, Int.reduceLT, decide_true, AGo_ok, St.app, putO, eput_c, eput_n, hups, List.map, ARun_nil, dropE_c, inL_n, dropE_n]
              refine aw_seq (aw_cond rfl (fun _ => ?_) (fun hc => nomatch hc))
              refine aw_skip (aw_seq (aw_block (aw_seq (aw_region ?_))))
              simp (config := {maxSteps := 10000000}) (disch := first | exact okYes (by kernel_rfl) | omega) only [thenQ, List.length, Nat.zero_add, Nat.reduceAdd, Nat.reduceMul, ARun_none, AOpRun, aexec, FSt.ev, St.F, eget_c, Nat.reduceBEq, ↓eget_h, cond_false, D.isAgg, Int.le_refl, cast_lit, Int.reduceLT, Int.toNat_zero, D.cells, Nat.reduceLeDiff, and_self, ↓reduceIte, List.drop, List.take, AGo_ok, St.app, putO, eput_c, eput_n, hups, List.map, Option.isSome, hget_c, hget_n, Bool.false_eq_true, hput_c, hput_n, ↓hget_h, D.isBot, List.all, D.leaf, Bool.and_true, splice, List.nil_append, List.append_nil, beq_self_eq_true, cond_true, ARun_nil, dropE_c, inL_c, inL_n, dropE_n]
              refine aw_seq (aw_seq (aw_region ?_))
              simp (config := {maxSteps := 10000000}) (disch := first | exact okYes (by kernel_rfl) | omega) only [thenQ, List.length, Nat.zero_add, Nat.reduceAdd, Nat.reduceMul, ARun_none, AOpRun, aexec, FSt.ev, St.F, eget_c, Nat.reduceBEq, ↓eget_h, cond_false, AGo_ok, St.app, putO, eput_c, eput_n, hups, List.map, Option.map, run1, hget_c, ↓hget_h, List.getElem?_cons_zero, List.getElem?_cons_succ, isSh, Bool.false_eq_true, ↓reduceIte, abin, ARun_nil, dropE_c, inL_c, inL_n, beq_self_eq_true, cond_true, dropE_n]
              refine aw_cond rfl (fun hc => ?_) (fun hc => ?_)
              · have hx : cut1 left d (pLow left b d) = [] := if_pos (of_decide_eq_true hc)
                refine aw_exit ?_
                simp only [thenQ, blockQ, if_true]
                refine aw_region ?_
                simp (config := {maxSteps := 10000000}) (disch := first | exact okYes (by kernel_rfl) | omega) only [thenQ, List.length, Nat.zero_add, Nat.reduceAdd, Nat.reduceMul, ARun_none, AOpRun, aexec, FSt.ev, St.F, eget_c, Nat.reduceBEq, ↓eget_h, cond_false, isSh, Bool.false_eq_true, ↓reduceIte, Option.map, abin, Int.reduceAdd, fits, AGo_ok, St.app, putO, eput_c, eput_n, hups, List.map, beq_self_eq_true, cond_true, ARun_nil, dropE_c, inL_c, inL_n, dropE_n]
                refine ⟨1, by omega, by omega, ?_⟩
                simp only [ok2, hx, List.append_nil]
                refine wk_to [] [(0, 0), (40, 40), (97, 97), (120, 120), (104, 104)] (by kernel_rfl) (by kernel_rfl) (by kernel_rfl) (by kernel_rfl) (by kernel_rfl) ?_ ?_ <;> repeat' (first | exact trivial | exact vrl_flat _ (by first | exact icells_in _ | exact rcells_in _ | exact scells_in _ | exact bcells_in _ | assumption) | exact vr_val _ | exact vr_list _ | exact vr_at _ | exact vr_nil | exact vr_cap0 | exact vr_vec _ _ _ _ rfl | exact vr_own _ _ _ _ _ rfl | exact vr_ptr _ _ _ rfl | exact vr_nilv _ _ _ rfl | exact vr_bot _ | exact vr_cap0v _ _ _ rfl | exact vr_cap0l | apply vr_agg | apply vr_tup | apply vr_fn | refine vr_yld _ _ _ rfl ?_ | exact Ren.bot _ | exact Ren.val _ | exact Ren.list _ | exact Ren.at_ _ | exact Ren.ptr _ _ _ rfl | refine Ren.yld _ _ _ _ _ rfl rfl (RenL.get ?_).2 (fun _ _ _ h => h) | refine vr_fl _ _ _ _ _ (by decide) rfl ?_ ?_ ?_ ?_ | refine And.intro ⟨_, rfl, .inl ⟨_, rfl, by decide, ?_⟩⟩ ?_ | refine And.intro ⟨_, rfl, _, rfl, by decide, ?_⟩ ?_ | refine And.intro ⟨_, rfl, .inr ⟨rfl, rfl, of_decide_eq_true (by kernel_rfl)⟩⟩ ?_ | apply And.intro)
              · have hx : cut1 left d (pLow left b d) = [left.set d (pLow left b d)] := if_neg (of_decide_eq_false hc)
                refine aw_skip (aw_seq (aw_region ?_))
                simp (config := {maxSteps := 10000000}) (disch := first | exact okYes (by kernel_rfl) | omega) only [thenQ, List.length, Nat.zero_add, Nat.reduceAdd, Nat.reduceMul, ARun_none, AOpRun, aexec, FSt.ev, St.F, eget_c, Nat.reduceBEq, ↓eget_h, cond_false, AGo_ok, St.app, putO, eput_c, eput_n, hups, List.map]
                refine acallH hcl [] (VwL.refl _) (.inl rfl) (by simp) (by simp) (by intro x hx; simp at hx; subst hx; rfl) (by intro g hg hn; simp at hg hn; rcases hg with rfl | rfl <;> first | rfl | exact absurd rfl hn) (by kernel_rfl) (by kernel_rfl) ?_
                simp (config := {maxSteps := 10000000}) (disch := first | exact okYes (by kernel_rfl) | omega) only [Nat.reduceAdd, St.app, putO, eput_c, Nat.reduceBEq, eput_n, cond_false, hups, hput_c, hput_n, beq_self_eq_true, cond_true, List.map, List.append_nil, ARun_none, AOpRun, aexec, FSt.ev, St.F, eget_c, ↓eget_h, AGo_ok, ARun_nil, dropE_c, inL_c, inL_n, dropE_n]
                refine aw_seq (aw_region ?_)
                simp (config := {maxSteps := 10000000}) (disch := first | exact okYes (by kernel_rfl) | omega) only [thenQ, List.length, Nat.zero_add, Nat.reduceAdd, Nat.reduceMul, ARun_none, AOpRun, aexec, FSt.ev, St.F, eget_c, Nat.reduceBEq, ↓eget_h, cond_false, AGo_ok, St.app, putO, eput_c, eput_n, hups, List.map, hget_c, ↓hget_h, Nat.reduceLeDiff, ↓reduceIte, List.drop, List.take, Int.natCast_nonneg, hdI, and_self, Int.toNat_natCast, D.isBot, D.cells, hfit, List.all, D.leaf, Bool.and_true, splice, sc_t2 left d _ _ hl2, hput_c, beq_self_eq_true, hput_n, cond_true, ARun_nil, dropE_c, inL_c, inL_n, dropE_n]
                refine aw_wk (s' := ⟨[(0, .yld 104 r [.bot, .bot, .bot, .bot, .ptr 0 0]), (2, .ptr 97 0), (4, .vec 120 a.length 2), (5, .val (.int .i64 d)), (8, .list (sps (left.set d (pLow left b d)))), (12, .val (.int .i64 a.length)), (13, .val (.int .i64 d)), (52, .agg [.val (.int .i64 (pLow left b d).1), .val (.int .i64 (pLow left b d).2), .val (.int .i64 (pHigh left b d).1), .val (.int .i64 (pHigh left b d).2)]), (53, .val (.int .i64 0))], [(0, [.vec 40 (outs ++ ok2 left b d o 0).length 1]), (40, bcells (outs ++ ok2 left b d o 0)), (97, [.list (sps b)]), (120, scells left)], 500⟩) ?_ ?_
                · refine wk_to [380] [(0, 0), (40, 40), (97, 97), (120, 120), (104, 104)] (by kernel_rfl) (by kernel_rfl) (by kernel_rfl) (by kernel_rfl) (by kernel_rfl) ?_ ?_ <;> repeat' (first | exact trivial | exact vrl_flat _ (by first | exact icells_in _ | exact rcells_in _ | exact scells_in _ | exact bcells_in _ | assumption) | exact vr_val _ | exact vr_list _ | exact vr_at _ | exact vr_nil | exact vr_cap0 | exact vr_vec _ _ _ _ rfl | exact vr_own _ _ _ _ _ rfl | exact vr_ptr _ _ _ rfl | exact vr_nilv _ _ _ rfl | exact vr_bot _ | exact vr_cap0v _ _ _ rfl | exact vr_cap0l | apply vr_agg | apply vr_tup | apply vr_fn | refine vr_yld _ _ _ rfl ?_ | exact Ren.bot _ | exact Ren.val _ | exact Ren.list _ | exact Ren.at_ _ | exact Ren.ptr _ _ _ rfl | refine Ren.yld _ _ _ _ _ rfl rfl (RenL.get ?_).2 (fun _ _ _ h => h) | refine vr_fl _ _ _ _ _ (by decide) rfl ?_ ?_ ?_ ?_ | refine And.intro ⟨_, rfl, .inl ⟨_, rfl, by decide, ?_⟩⟩ ?_ | refine And.intro ⟨_, rfl, _, rfl, by decide, ?_⟩ ?_ | refine And.intro ⟨_, rfl, .inr ⟨rfl, rfl, of_decide_eq_true (by kernel_rfl)⟩⟩ ?_ | apply And.intro)
                  all_goals first | exact sps_two _ | exact (sps_len _).trans (by simp [hll]) | exact sps_flat _ | exact scells_in _
                refine aw_seq (aw_region_yield hr [⟨some 67, .mv (.tmp 0), none, []⟩, ⟨some 68, .mv (.tmp 8), none, []⟩] [⟨some 70, .un .not (.tmp 69), none, []⟩] ?_)
                simp (config := {maxSteps := 10000000}) (disch := first | exact okYes (by kernel_rfl) | omega) only [List.length, Nat.zero_add, Nat.reduceAdd, Nat.reduceMul, ARun_none, AOpRun, aexec, FSt.ev, St.F, ↓eget_h, AGo_ok, St.app, putO, eput_c, Nat.reduceBEq, eput_n, cond_false, hups, List.map, eget_c, ARun_nil]
                refine yieldK [0, 104, 97, 120] [(0, .yld 104 r [.bot, .bot, .bot, .bot, .ptr 0 0]), (2, .ptr 97 0), (4, .vec 120 a.length 2), (5, .val (.int .i64 d)), (12, .val (.int .i64 a.length)), (13, .val (.int .i64 d)), (52, .agg [.val (.int .i64 (pLow left b d).1), .val (.int .i64 (pLow left b d).2), .val (.int .i64 (pHigh left b d).1), .val (.int .i64 (pHigh left b d).2)]), (53, .val (.int .i64 0))] [.list (sps (left.set d (pLow left b d)))] rfl rfl hr rfl rfl rfl (by simp [hpY, noY, bcells_noY, scells_noY]) (by simp)
                  ⟨.inr ⟨rfl, .yld _ _ _ (by simp) (by intro d hd; simp at hd; rcases hd with rfl | rfl; exact .bot; exact .ptr _ _ (by simp))⟩, .inr ⟨rfl, .ptr _ _ (by simp)⟩, .inr ⟨rfl, .vec _ _ _ (by simp)⟩, .inr ⟨rfl, .val _⟩, .inr ⟨rfl, .val _⟩, .inr ⟨rfl, .val _⟩, .inr ⟨rfl, .agg _ (by intro d hd; simp at hd; rcases hd with rfl | rfl | rfl | rfl <;> exact .val _)⟩, .inr ⟨rfl, .val _⟩, trivial⟩ ?_
                unfold cspans_rest_B17
                have hol : (outs ++ ok2 left b d o 0).length ≤ 10000000 := by have := hok 0; omega
                have hot : (bcells (outs ++ ok2 left b d o 0)).take (outs ++ ok2 left b d o 0).length = bcells (outs ++ ok2 left b d o 0) := take_all _ _ (bcells_len _)
                have hbl := bcells_len (outs ++ ok2 left b d o 0)
                refine aw_block (aw_region ?_)
                simp (config := {maxSteps := 10000000}) (disch := first | exact okYes (by kernel_rfl) | omega) only [blockQ, List.length, Nat.zero_add, Nat.reduceAdd, Nat.reduceMul, bodyE, asgE, parE, envOf, eput_c, Nat.reduceBEq, eput_n, cond_false, eget_c, ↓eget_h, ARun_none, AOpRun, aexec, Option.map, run1, FSt.ev, St.F, hget_c, beq_self_eq_true, hget_n, cond_true, List.getElem?_cons_zero, AGo_ok, St.app, putO, hups, List.map, Option.isSome, Bool.false_eq_true, ↓reduceIte, fillD, D.isBot, D.cells, ne_eq, not_true_eq_false, Nat.reduceGT, or_self, splice, List.take, List.nil_append, List.drop, List.append_nil, hput_c, hput_n, base, ↓hget_h, Nat.mul_one, hbl, Nat.le_refl, and_self, hot, elems, List.all, D.leaf, Bool.and_true, and_true, ups, List.cons_append]
                refine ago_if (by omega) ?_
                simp (config := {maxSteps := 10000000}) (disch := first | exact okYes (by kernel_rfl) | omega) only [AGo_ok, Nat.reduceAdd, St.app, putO, eput_c, Nat.reduceBEq, eput_n, cond_false, hups, hput_c, hput_n, hdel_c, beq_self_eq_true, hdel_n, cond_true, List.map, ARun_none, AOpRun, aexec, FSt.ev, St.F, eget_c, ↓eget_h, hget_c, hget_n, D.isBot, D.cells, List.length, Nat.zero_add, Nat.reduceLeDiff, List.all, D.leaf, Bool.and_true, and_self, ↓reduceIte, splice, List.take, List.nil_append, List.drop, List.append_nil, ARun_nil, dropE_c, inL_c, inL_n, dropE_n]
                refine yieldQ (by simp [hpY, noY, bcells_noY, scells_noY]) (of_decide_eq_true (by kernel_rfl)) ?_
                simp (config := {maxSteps := 10000000}) (disch := first | exact okYes (by kernel_rfl) | omega) only [Nat.reduceAdd, Nat.reduceMul, Nat.reduceSub, thenQ, List.length, Nat.zero_add, putO, eput_c, Nat.reduceBEq, eput_n, cond_false, ARun_none, AOpRun, aexec, FSt.ev, St.F, eget_c, ↓eget_h, Bool.not_true, AGo_ok, St.app, hups, List.map, ARun_nil, dropE_c, inL_c, inL_n, beq_self_eq_true, cond_true, dropE_n]
                refine aw_cond rfl (fun hc => nomatch hc) (fun _ => ?_)
                refine aw_skip ?_
                simp only [thenQ, blockQ, if_true]
                refine aw_region ?_
                simp (config := {maxSteps := 10000000}) (disch := first | exact okYes (by kernel_rfl) | omega) only [thenQ, List.length, Nat.zero_add, Nat.reduceAdd, Nat.reduceMul, ARun_none, AOpRun, aexec, FSt.ev, St.F, eget_c, Nat.reduceBEq, ↓eget_h, cond_false, isSh, Bool.false_eq_true, ↓reduceIte, Option.map, abin, Int.reduceAdd, fits, AGo_ok, St.app, putO, eput_c, eput_n, hups, List.map, beq_self_eq_true, cond_true, ARun_nil, dropE_c, inL_c, inL_n, dropE_n]
                refine ⟨1, by omega, by omega, ?_⟩
                have hbe : bcells (outs ++ ok2 left b d o 1) = bcells (outs ++ ok2 left b d o 0) ++ [.list (sps (left.set d (pLow left b d)))] := by rw [bcells_app]; simp only [ok2, hx, List.append_assoc]
                have hle : (outs ++ ok2 left b d o 1).length = (outs ++ ok2 left b d o 0).length + 1 := by simp only [ok2, hx, List.length_append, List.length_cons, List.length_nil]; omega
                rw [hbe, hle]
                have hcin : ∀ x ∈ bcells (outs ++ ok2 left b d o 0) ++ [.list (sps (left.set d (pLow left b d)))], In (fun _ => False) x := by
                  rw [bcells_app]; exact bcells_in _
                refine wk_to [] [(0, 0), (40, 540), (97, 97), (120, 120), (104, 104)] (by kernel_rfl) (by kernel_rfl) (by kernel_rfl) (by kernel_rfl) (by kernel_rfl) ?_ ?_ <;> repeat' (first | exact trivial | exact vrl_flat _ (by first | exact icells_in _ | exact rcells_in _ | exact scells_in _ | exact bcells_in _ | assumption) | exact vr_val _ | exact vr_list _ | exact vr_at _ | exact vr_nil | exact vr_cap0 | exact vr_vec _ _ _ _ rfl | exact vr_own _ _ _ _ _ rfl | exact vr_ptr _ _ _ rfl | exact vr_nilv _ _ _ rfl | exact vr_bot _ | exact vr_cap0v _ _ _ rfl | exact vr_cap0l | apply vr_agg | apply vr_tup | apply vr_fn | refine vr_yld _ _ _ rfl ?_ | exact Ren.bot _ | exact Ren.val _ | exact Ren.list _ | exact Ren.at_ _ | exact Ren.ptr _ _ _ rfl | refine Ren.yld _ _ _ _ _ rfl rfl (RenL.get ?_).2 (fun _ _ _ h => h) | refine vr_fl _ _ _ _ _ (by decide) rfl ?_ ?_ ?_ ?_ | refine And.intro ⟨_, rfl, .inl ⟨_, rfl, by decide, ?_⟩⟩ ?_ | refine And.intro ⟨_, rfl, _, rfl, by decide, ?_⟩ ?_ | refine And.intro ⟨_, rfl, .inr ⟨rfl, rfl, of_decide_eq_true (by kernel_rfl)⟩⟩ ?_ | apply And.intro)
            · refine aw_seq (aw_region ?_)
              simp (config := {maxSteps := 10000000}) (disch := first | exact okYes (by kernel_rfl) | omega) only [thenQ, Nat.reduceSub, List.length, Nat.zero_add, Nat.reduceMul, Nat.reduceAdd, cast_lit, ARun_none, AOpRun, aexec, FSt.ev, St.F, eget_c, Nat.reduceBEq, ↓eget_h, cond_false, isSh, Bool.false_eq_true, ↓reduceIte, Option.map, abin, Int.reduceLT, decide_true, AGo_ok, St.app, putO, eput_c, eput_n, hups, List.map, ARun_nil, dropE_c, inL_n, dropE_n]
              refine aw_seq (aw_cond rfl (fun _ => ?_) (fun hc => nomatch hc))
              refine aw_skip (aw_seq (aw_block (aw_seq (aw_region ?_))))
              simp (config := {maxSteps := 10000000}) (disch := first | exact okYes (by kernel_rfl) | omega) only [thenQ, List.length, Nat.zero_add, Nat.reduceAdd, Nat.reduceMul, ARun_none, AOpRun, aexec, FSt.ev, St.F, eget_c, Nat.reduceBEq, ↓eget_h, cond_false, D.isAgg, Int.reduceLE, cast_lit, Int.reduceLT, Int.reduceToNat, D.cells, Nat.reduceLeDiff, and_self, ↓reduceIte, List.drop, List.take, AGo_ok, St.app, putO, eput_c, eput_n, hups, List.map, Option.isSome, hget_c, hget_n, Bool.false_eq_true, hput_c, hput_n, ↓hget_h, D.isBot, List.all, D.leaf, Bool.and_true, splice, List.nil_append, List.append_nil, beq_self_eq_true, cond_true, ARun_nil, dropE_c, inL_c, inL_n, dropE_n]
              refine aw_seq (aw_seq (aw_region ?_))
              simp (config := {maxSteps := 10000000}) (disch := first | exact okYes (by kernel_rfl) | omega) only [thenQ, List.length, Nat.zero_add, Nat.reduceAdd, Nat.reduceMul, ARun_none, AOpRun, aexec, FSt.ev, St.F, eget_c, Nat.reduceBEq, ↓eget_h, cond_false, AGo_ok, St.app, putO, eput_c, eput_n, hups, List.map, Option.map, run1, hget_c, ↓hget_h, List.getElem?_cons_zero, List.getElem?_cons_succ, isSh, Bool.false_eq_true, ↓reduceIte, abin, ARun_nil, dropE_c, inL_c, inL_n, beq_self_eq_true, cond_true, dropE_n]
              refine aw_cond rfl (fun hc => ?_) (fun hc => ?_)
              · have hx : cut1 left d (pHigh left b d) = [] := if_pos (of_decide_eq_true hc)
                refine aw_exit ?_
                simp only [thenQ, blockQ, if_true]
                refine aw_region ?_
                simp (config := {maxSteps := 10000000}) (disch := first | exact okYes (by kernel_rfl) | omega) only [thenQ, List.length, Nat.zero_add, Nat.reduceAdd, Nat.reduceMul, ARun_none, AOpRun, aexec, FSt.ev, St.F, eget_c, Nat.reduceBEq, ↓eget_h, cond_false, isSh, Bool.false_eq_true, ↓reduceIte, Option.map, abin, Int.reduceAdd, fits, AGo_ok, St.app, putO, eput_c, eput_n, hups, List.map, beq_self_eq_true, cond_true, ARun_nil, dropE_c, inL_c, inL_n, dropE_n]
                refine ⟨2, by omega, by omega, ?_⟩
                simp only [ok2, hx, List.append_nil]
                refine wk_to [] [(0, 0), (40, 40), (97, 97), (120, 120), (104, 104)] (by kernel_rfl) (by kernel_rfl) (by kernel_rfl) (by kernel_rfl) (by kernel_rfl) ?_ ?_ <;> repeat' (first | exact trivial | exact vrl_flat _ (by first | exact icells_in _ | exact rcells_in _ | exact scells_in _ | exact bcells_in _ | assumption) | exact vr_val _ | exact vr_list _ | exact vr_at _ | exact vr_nil | exact vr_cap0 | exact vr_vec _ _ _ _ rfl | exact vr_own _ _ _ _ _ rfl | exact vr_ptr _ _ _ rfl | exact vr_nilv _ _ _ rfl | exact vr_bot _ | exact vr_cap0v _ _ _ rfl | exact vr_cap0l | apply vr_agg | apply vr_tup | apply vr_fn | refine vr_yld _ _ _ rfl ?_ | exact Ren.bot _ | exact Ren.val _ | exact Ren.list _ | exact Ren.at_ _ | exact Ren.ptr _ _ _ rfl | refine Ren.yld _ _ _ _ _ rfl rfl (RenL.get ?_).2 (fun _ _ _ h => h) | refine vr_fl _ _ _ _ _ (by decide) rfl ?_ ?_ ?_ ?_ | refine And.intro ⟨_, rfl, .inl ⟨_, rfl, by decide, ?_⟩⟩ ?_ | refine And.intro ⟨_, rfl, _, rfl, by decide, ?_⟩ ?_ | refine And.intro ⟨_, rfl, .inr ⟨rfl, rfl, of_decide_eq_true (by kernel_rfl)⟩⟩ ?_ | apply And.intro)
              · have hx : cut1 left d (pHigh left b d) = [left.set d (pHigh left b d)] := if_neg (of_decide_eq_false hc)
                refine aw_skip (aw_seq (aw_region ?_))
                simp (config := {maxSteps := 10000000}) (disch := first | exact okYes (by kernel_rfl) | omega) only [thenQ, List.length, Nat.zero_add, Nat.reduceAdd, Nat.reduceMul, ARun_none, AOpRun, aexec, FSt.ev, St.F, eget_c, Nat.reduceBEq, ↓eget_h, cond_false, AGo_ok, St.app, putO, eput_c, eput_n, hups, List.map]
                refine acallH hcl [] (VwL.refl _) (.inl rfl) (by simp) (by simp) (by intro x hx; simp at hx; subst hx; rfl) (by intro g hg hn; simp at hg hn; rcases hg with rfl | rfl <;> first | rfl | exact absurd rfl hn) (by kernel_rfl) (by kernel_rfl) ?_
                simp (config := {maxSteps := 10000000}) (disch := first | exact okYes (by kernel_rfl) | omega) only [Nat.reduceAdd, St.app, putO, eput_c, Nat.reduceBEq, eput_n, cond_false, hups, hput_c, hput_n, beq_self_eq_true, cond_true, List.map, List.append_nil, ARun_none, AOpRun, aexec, FSt.ev, St.F, eget_c, ↓eget_h, AGo_ok, ARun_nil, dropE_c, inL_c, inL_n, dropE_n]
                refine aw_seq (aw_region ?_)
                simp (config := {maxSteps := 10000000}) (disch := first | exact okYes (by kernel_rfl) | omega) only [thenQ, List.length, Nat.zero_add, Nat.reduceAdd, Nat.reduceMul, ARun_none, AOpRun, aexec, FSt.ev, St.F, eget_c, Nat.reduceBEq, ↓eget_h, cond_false, AGo_ok, St.app, putO, eput_c, eput_n, hups, List.map, hget_c, ↓hget_h, Nat.reduceLeDiff, ↓reduceIte, List.drop, List.take, Int.natCast_nonneg, hdI, and_self, Int.toNat_natCast, D.isBot, D.cells, hfit, List.all, D.leaf, Bool.and_true, splice, sc_t2 left d _ _ hl2, hput_c, beq_self_eq_true, hput_n, cond_true, ARun_nil, dropE_c, inL_c, inL_n, dropE_n]
                refine aw_wk (s' := ⟨[(0, .yld 104 r [.bot, .bot, .bot, .bot, .ptr 0 0]), (2, .ptr 97 0), (4, .vec 120 a.length 2), (5, .val (.int .i64 d)), (8, .list (sps (left.set d (pHigh left b d)))), (12, .val (.int .i64 a.length)), (13, .val (.int .i64 d)), (52, .agg [.val (.int .i64 (pLow left b d).1), .val (.int .i64 (pLow left b d).2), .val (.int .i64 (pHigh left b d).1), .val (.int .i64 (pHigh left b d).2)]), (53, .val (.int .i64 1))], [(0, [.vec 40 (outs ++ ok2 left b d o 1).length 1]), (40, bcells (outs ++ ok2 left b d o 1)), (97, [.list (sps b)]), (120, scells left)], 500⟩) ?_ ?_
                · refine wk_to [380] [(0, 0), (40, 40), (97, 97), (120, 120), (104, 104)] (by kernel_rfl) (by kernel_rfl) (by kernel_rfl) (by kernel_rfl) (by kernel_rfl) ?_ ?_ <;> repeat' (first | exact trivial | exact vrl_flat _ (by first | exact icells_in _ | exact rcells_in _ | exact scells_in _ | exact bcells_in _ | assumption) | exact vr_val _ | exact vr_list _ | exact vr_at _ | exact vr_nil | exact vr_cap0 | exact vr_vec _ _ _ _ rfl | exact vr_own _ _ _ _ _ rfl | exact vr_ptr _ _ _ rfl | exact vr_nilv _ _ _ rfl | exact vr_bot _ | exact vr_cap0v _ _ _ rfl | exact vr_cap0l | apply vr_agg | apply vr_tup | apply vr_fn | refine vr_yld _ _ _ rfl ?_ | exact Ren.bot _ | exact Ren.val _ | exact Ren.list _ | exact Ren.at_ _ | exact Ren.ptr _ _ _ rfl | refine Ren.yld _ _ _ _ _ rfl rfl (RenL.get ?_).2 (fun _ _ _ h => h) | refine vr_fl _ _ _ _ _ (by decide) rfl ?_ ?_ ?_ ?_ | refine And.intro ⟨_, rfl, .inl ⟨_, rfl, by decide, ?_⟩⟩ ?_ | refine And.intro ⟨_, rfl, _, rfl, by decide, ?_⟩ ?_ | refine And.intro ⟨_, rfl, .inr ⟨rfl, rfl, of_decide_eq_true (by kernel_rfl)⟩⟩ ?_ | apply And.intro)
                  all_goals first | exact sps_two _ | exact (sps_len _).trans (by simp [hll]) | exact sps_flat _ | exact scells_in _
                refine aw_seq (aw_region_yield hr [⟨some 67, .mv (.tmp 0), none, []⟩, ⟨some 68, .mv (.tmp 8), none, []⟩] [⟨some 70, .un .not (.tmp 69), none, []⟩] ?_)
                simp (config := {maxSteps := 10000000}) (disch := first | exact okYes (by kernel_rfl) | omega) only [List.length, Nat.zero_add, Nat.reduceAdd, Nat.reduceMul, ARun_none, AOpRun, aexec, FSt.ev, St.F, ↓eget_h, AGo_ok, St.app, putO, eput_c, Nat.reduceBEq, eput_n, cond_false, hups, List.map, eget_c, ARun_nil]
                refine yieldK [0, 104, 97, 120] [(0, .yld 104 r [.bot, .bot, .bot, .bot, .ptr 0 0]), (2, .ptr 97 0), (4, .vec 120 a.length 2), (5, .val (.int .i64 d)), (12, .val (.int .i64 a.length)), (13, .val (.int .i64 d)), (52, .agg [.val (.int .i64 (pLow left b d).1), .val (.int .i64 (pLow left b d).2), .val (.int .i64 (pHigh left b d).1), .val (.int .i64 (pHigh left b d).2)]), (53, .val (.int .i64 1))] [.list (sps (left.set d (pHigh left b d)))] rfl rfl hr rfl rfl rfl (by simp [hpY, noY, bcells_noY, scells_noY]) (by simp)
                  ⟨.inr ⟨rfl, .yld _ _ _ (by simp) (by intro d hd; simp at hd; rcases hd with rfl | rfl; exact .bot; exact .ptr _ _ (by simp))⟩, .inr ⟨rfl, .ptr _ _ (by simp)⟩, .inr ⟨rfl, .vec _ _ _ (by simp)⟩, .inr ⟨rfl, .val _⟩, .inr ⟨rfl, .val _⟩, .inr ⟨rfl, .val _⟩, .inr ⟨rfl, .agg _ (by intro d hd; simp at hd; rcases hd with rfl | rfl | rfl | rfl <;> exact .val _)⟩, .inr ⟨rfl, .val _⟩, trivial⟩ ?_
                unfold cspans_rest_B17
                have hol : (outs ++ ok2 left b d o 1).length ≤ 10000000 := by have := hok 1; omega
                have hot : (bcells (outs ++ ok2 left b d o 1)).take (outs ++ ok2 left b d o 1).length = bcells (outs ++ ok2 left b d o 1) := take_all _ _ (bcells_len _)
                have hbl := bcells_len (outs ++ ok2 left b d o 1)
                refine aw_block (aw_region ?_)
                simp (config := {maxSteps := 10000000}) (disch := first | exact okYes (by kernel_rfl) | omega) only [blockQ, List.length, Nat.zero_add, Nat.reduceAdd, Nat.reduceMul, bodyE, asgE, parE, envOf, eput_c, Nat.reduceBEq, eput_n, cond_false, eget_c, ↓eget_h, ARun_none, AOpRun, aexec, Option.map, run1, FSt.ev, St.F, hget_c, beq_self_eq_true, hget_n, cond_true, List.getElem?_cons_zero, AGo_ok, St.app, putO, hups, List.map, Option.isSome, Bool.false_eq_true, ↓reduceIte, fillD, D.isBot, D.cells, ne_eq, not_true_eq_false, Nat.reduceGT, or_self, splice, List.take, List.nil_append, List.drop, List.append_nil, hput_c, hput_n, base, ↓hget_h, Nat.mul_one, hbl, Nat.le_refl, and_self, hot, elems, List.all, D.leaf, Bool.and_true, and_true, ups, List.cons_append]
                refine ago_if (by omega) ?_
                simp (config := {maxSteps := 10000000}) (disch := first | exact okYes (by kernel_rfl) | omega) only [AGo_ok, Nat.reduceAdd, St.app, putO, eput_c, Nat.reduceBEq, eput_n, cond_false, hups, hput_c, hput_n, hdel_c, beq_self_eq_true, hdel_n, cond_true, List.map, ARun_none, AOpRun, aexec, FSt.ev, St.F, eget_c, ↓eget_h, hget_c, hget_n, D.isBot, D.cells, List.length, Nat.zero_add, Nat.reduceLeDiff, List.all, D.leaf, Bool.and_true, and_self, ↓reduceIte, splice, List.take, List.nil_append, List.drop, List.append_nil, ARun_nil, dropE_c, inL_c, inL_n, dropE_n]
                refine yieldQ (by simp [hpY, noY, bcells_noY, scells_noY]) (of_decide_eq_true (by kernel_rfl)) ?_
                simp (config := {maxSteps := 10000000}) (disch := first | exact okYes (by kernel_rfl) | omega) only [Nat.reduceAdd, Nat.reduceMul, Nat.reduceSub, thenQ, List.length, Nat.zero_add, putO, eput_c, Nat.reduceBEq, eput_n, cond_false, ARun_none, AOpRun, aexec, FSt.ev, St.F, eget_c, ↓eget_h, Bool.not_true, AGo_ok, St.app, hups, List.map, ARun_nil, dropE_c, inL_c, inL_n, beq_self_eq_true, cond_true, dropE_n]
                refine aw_cond rfl (fun hc => nomatch hc) (fun _ => ?_)
                refine aw_skip ?_
                simp only [thenQ, blockQ, if_true]
                refine aw_region ?_
                simp (config := {maxSteps := 10000000}) (disch := first | exact okYes (by kernel_rfl) | omega) only [thenQ, List.length, Nat.zero_add, Nat.reduceAdd, Nat.reduceMul, ARun_none, AOpRun, aexec, FSt.ev, St.F, eget_c, Nat.reduceBEq, ↓eget_h, cond_false, isSh, Bool.false_eq_true, ↓reduceIte, Option.map, abin, Int.reduceAdd, fits, AGo_ok, St.app, putO, eput_c, eput_n, hups, List.map, beq_self_eq_true, cond_true, ARun_nil, dropE_c, inL_c, inL_n, dropE_n]
                refine ⟨2, by omega, by omega, ?_⟩
                have hbe : bcells (outs ++ ok2 left b d o 2) = bcells (outs ++ ok2 left b d o 1) ++ [.list (sps (left.set d (pHigh left b d)))] := by rw [bcells_app]; simp only [ok2, hx, List.append_assoc]
                have hle : (outs ++ ok2 left b d o 2).length = (outs ++ ok2 left b d o 1).length + 1 := by simp only [ok2, hx, List.length_append, List.length_cons, List.length_nil]; omega
                rw [hbe, hle]
                have hcin : ∀ x ∈ bcells (outs ++ ok2 left b d o 1) ++ [.list (sps (left.set d (pHigh left b d)))], In (fun _ => False) x := by
                  rw [bcells_app]; exact bcells_in _
                refine wk_to [] [(0, 0), (40, 540), (97, 97), (120, 120), (104, 104)] (by kernel_rfl) (by kernel_rfl) (by kernel_rfl) (by kernel_rfl) (by kernel_rfl) ?_ ?_ <;> repeat' (first | exact trivial | exact vrl_flat _ (by first | exact icells_in _ | exact rcells_in _ | exact scells_in _ | exact bcells_in _ | assumption) | exact vr_val _ | exact vr_list _ | exact vr_at _ | exact vr_nil | exact vr_cap0 | exact vr_vec _ _ _ _ rfl | exact vr_own _ _ _ _ _ rfl | exact vr_ptr _ _ _ rfl | exact vr_nilv _ _ _ rfl | exact vr_bot _ | exact vr_cap0v _ _ _ rfl | exact vr_cap0l | apply vr_agg | apply vr_tup | apply vr_fn | refine vr_yld _ _ _ rfl ?_ | exact Ren.bot _ | exact Ren.val _ | exact Ren.list _ | exact Ren.at_ _ | exact Ren.ptr _ _ _ rfl | refine Ren.yld _ _ _ _ _ rfl rfl (RenL.get ?_).2 (fun _ _ _ h => h) | refine vr_fl _ _ _ _ _ (by decide) rfl ?_ ?_ ?_ ?_ | refine And.intro ⟨_, rfl, .inl ⟨_, rfl, by decide, ?_⟩⟩ ?_ | refine And.intro ⟨_, rfl, _, rfl, by decide, ?_⟩ ?_ | refine And.intro ⟨_, rfl, .inr ⟨rfl, rfl, of_decide_eq_true (by kernel_rfl)⟩⟩ ?_ | apply And.intro)
            · refine aw_seq (aw_region ?_)
              simp (config := {maxSteps := 10000000}) (disch := first | exact okYes (by kernel_rfl) | omega) only [thenQ, Nat.reduceSub, List.length, Nat.zero_add, Nat.reduceMul, Nat.reduceAdd, cast_lit, ARun_none, AOpRun, aexec, FSt.ev, St.F, eget_c, Nat.reduceBEq, ↓eget_h, cond_false, isSh, Bool.false_eq_true, ↓reduceIte, Option.map, abin, Int.reduceLT, decide_false, AGo_ok, St.app, putO, eput_c, eput_n, hups, List.map, ARun_nil, dropE_c, inL_n, dropE_n]
              refine aw_seq (aw_cond rfl (fun hc => nomatch hc) (fun _ => ?_))
              refine aw_exit ?_
              simp only [thenQ, blockQ, if_true]
              have hf1 : d * 2 + 1 ≤ (scells left).length := by omega
              have hf2 : ∀ x, d * 2 + 1 + 1 ≤ (scells (left.set d x)).length := fun x => by rw [scells_len, List.length_set]; omega
              refine aw_seq (aw_region ?_)
              simp (config := {maxSteps := 10000000}) (disch := first | exact okYes (by kernel_rfl) | omega) only [thenQ, List.length, Nat.zero_add, Nat.reduceAdd, Nat.reduceMul, ARun_none, AOpRun, aexec, FSt.ev, St.F, eget_c, Nat.reduceBEq, ↓eget_h, cond_false, AGo_ok, St.app, putO, eput_c, eput_n, hups, List.map, Int.natCast_nonneg, hdI, and_self, ↓reduceIte, Int.toNat_natCast, Nat.add_zero, Option.map, run1, hget_c, ↓hget_h, sc_lo left d hl2, List.getElem?_cons_zero, sps_all, opt1, sps_gd b d hdb, List.drop, foldI, mx2, sc_hi left d hl2, Bool.false_eq_true, mn2, D.isBot, D.cells, hf1, List.all, D.leaf, Bool.and_true, splice, sc_tlo left d _ hl2, hput_c, beq_self_eq_true, hput_n, cond_true, hf2, sc_t3 left d _ _ _ hl2, ARun_nil, dropE_c, inL_c, inL_n, dropE_n]
              have hsucc : a.length - d = (a.length - (d + 1)) + 1 := by omega
              refine aw_seq (aw_region ?_)
              simp (config := {maxSteps := 10000000}) (disch := first | exact okYes (by kernel_rfl) | omega) only [thenQ, List.length, Nat.zero_add, Nat.reduceAdd, Nat.reduceMul, ARun_none, AOpRun, aexec, FSt.ev, St.F, eget_c, Nat.reduceBEq, ↓eget_h, cond_false, AGo_ok, St.app, putO, eput_c, eput_n, hups, List.map, Int.natCast_nonneg, hdI, and_self, ↓reduceIte, Int.toNat_natCast, Nat.add_zero, Option.map, run1, hget_c, ↓hget_h, sc_lo2 left d _ _ hl2, sc_hi2 left d _ _ hl2, isSh, Bool.false_eq_true, abin, ARun_nil, dropE_c, inL_c, inL_n, beq_self_eq_true, cond_true, dropE_n]
              refine aw_cond rfl (fun hc => ?_) (fun hc => ?_)
              · have hgt : (pMid left b d).1 > (pMid left b d).2 := of_decide_eq_true hc
                have hfin : outs ++ ok2 left b d o 2 = restP (l.take (k + 1)) b := by
                  rw [hta, ← hmn, hsucc]
                  unfold mnGo
                  rw [if_pos hgt]
                  simp only [ok2, List.append_nil, List.append_assoc]
                refine aw_ret ?_
                simp only [thenQ, blockQ]
                refine rangeQ (.inr rfl) (by simp [hpY, noY, bcells_noY, scells_noY]) ?_
                simp only [thenQ, blockQ, if_true]
                refine aw_region ?_
                simp (config := {maxSteps := 10000000}) (disch := first | exact okYes (by kernel_rfl) | omega) only [thenQ, List.length, Nat.zero_add, Nat.reduceAdd, Nat.reduceMul, ARun_none, AOpRun, aexec, FSt.ev, St.F, eget_c, Nat.reduceBEq, ↓eget_h, cond_false, isSh, Bool.false_eq_true, ↓reduceIte, Option.map, abin, fits, AGo_ok, St.app, putO, eput_c, eput_n, hups, List.map, beq_self_eq_true, cond_true, ARun_nil, dropE_c, inL_c, inL_n, dropE_n]
                refine ⟨k + 1, hk', by omega, ?_⟩
                rw [← hfin]
                refine wk_to [] [(0, 0), (40, 40)] (by kernel_rfl) (by kernel_rfl) (by kernel_rfl) (by kernel_rfl) (by kernel_rfl) ?_ ?_ <;> repeat' (first | exact trivial | exact vrl_flat _ (by first | exact icells_in _ | exact rcells_in _ | exact scells_in _ | exact bcells_in _ | assumption) | exact vr_val _ | exact vr_list _ | exact vr_at _ | exact vr_nil | exact vr_cap0 | exact vr_vec _ _ _ _ rfl | exact vr_own _ _ _ _ _ rfl | exact vr_ptr _ _ _ rfl | exact vr_nilv _ _ _ rfl | exact vr_bot _ | exact vr_cap0v _ _ _ rfl | exact vr_cap0l | apply vr_agg | apply vr_tup | apply vr_fn | refine vr_yld _ _ _ rfl ?_ | exact Ren.bot _ | exact Ren.val _ | exact Ren.list _ | exact Ren.at_ _ | exact Ren.ptr _ _ _ rfl | refine Ren.yld _ _ _ _ _ rfl rfl (RenL.get ?_).2 (fun _ _ _ h => h) | refine vr_fl _ _ _ _ _ (by decide) rfl ?_ ?_ ?_ ?_ | refine And.intro ⟨_, rfl, .inl ⟨_, rfl, by decide, ?_⟩⟩ ?_ | refine And.intro ⟨_, rfl, _, rfl, by decide, ?_⟩ ?_ | refine And.intro ⟨_, rfl, .inr ⟨rfl, rfl, of_decide_eq_true (by kernel_rfl)⟩⟩ ?_ | apply And.intro)
              · have hgt : ¬ (pMid left b d).1 > (pMid left b d).2 := of_decide_eq_false hc
                refine aw_skip ?_
                simp only [thenQ, blockQ, if_true]
                refine aw_region ?_
                simp (config := {maxSteps := 10000000}) (disch := first | exact okYes (by kernel_rfl) | omega) only [thenQ, List.length, Nat.zero_add, Nat.reduceAdd, Nat.reduceMul, ARun_none, AOpRun, aexec, FSt.ev, St.F, eget_c, Nat.reduceBEq, ↓eget_h, cond_false, isSh, Bool.false_eq_true, ↓reduceIte, Option.map, abin, fits, AGo_ok, St.app, putO, eput_c, eput_n, hups, List.map, beq_self_eq_true, cond_true, ARun_nil, dropE_c, inL_c, inL_n, dropE_n]
                refine ⟨(d + 1, left.set d (pMid left b d), ok2 left b d o 2), ⟨hd', by simp only [List.length_set]; exact hll, ?_⟩, by simp only; omega, ?_⟩
                · rw [hsucc] at hmn
                  unfold mnGo at hmn
                  rw [if_neg hgt] at hmn
                  simp only [ok2, List.append_assoc] at hmn ⊢
                  exact hmn
                · simp only
                  refine wk_to [] [(0, 0), (40, 40), (97, 97), (120, 120), (104, 104)] (by kernel_rfl) (by kernel_rfl) (by kernel_rfl) (by kernel_rfl) (by kernel_rfl) ?_ ?_ <;> repeat' (first | exact trivial | exact vrl_flat _ (by first | exact icells_in _ | exact rcells_in _ | exact scells_in _ | exact bcells_in _ | assumption) | exact vr_val _ | exact vr_list _ | exact vr_at _ | exact vr_nil | exact vr_cap0 | exact vr_vec _ _ _ _ rfl | exact vr_own _ _ _ _ _ rfl | exact vr_ptr _ _ _ rfl | exact vr_nilv _ _ _ rfl | exact vr_bot _ | exact vr_cap0v _ _ _ rfl | exact vr_cap0l | apply vr_agg | apply vr_tup | apply vr_fn | refine vr_yld _ _ _ rfl ?_ | exact Ren.bot _ | exact Ren.val _ | exact Ren.list _ | exact Ren.at_ _ | exact Ren.ptr _ _ _ rfl | refine Ren.yld _ _ _ _ _ rfl rfl (RenL.get ?_).2 (fun _ _ _ h => h) | refine vr_fl _ _ _ _ _ (by decide) rfl ?_ ?_ ?_ ?_ | refine And.intro ⟨_, rfl, .inl ⟨_, rfl, by decide, ?_⟩⟩ ?_ | refine And.intro ⟨_, rfl, _, rfl, by decide, ?_⟩ ?_ | refine And.intro ⟨_, rfl, .inr ⟨rfl, rfl, of_decide_eq_true (by kernel_rfl)⟩⟩ ?_ | apply And.intro)
        · have hd' : d = a.length := by have := of_decide_eq_false hc; omega
          subst hd'
          rw [Nat.sub_self] at hmn
          have hfin : outs ++ o = restP (l.take (k + 1)) b := by rw [hta, ← hmn]; simp [mnGo]
          refine aw_exit ?_
          simp only [thenQ, blockQ, if_true]
          refine rangeQ (.inl rfl) (by simp [hpY, noY, bcells_noY, scells_noY]) ?_
          simp only [thenQ, blockQ, if_true]
          refine aw_region ?_
          simp (config := {maxSteps := 10000000}) (disch := first | exact okYes (by kernel_rfl) | omega) only [thenQ, List.length, Nat.zero_add, Nat.reduceAdd, Nat.reduceMul, ARun_none, AOpRun, aexec, FSt.ev, St.F, eget_c, Nat.reduceBEq, ↓eget_h, cond_false, isSh, Bool.false_eq_true, ↓reduceIte, Option.map, abin, fits, AGo_ok, St.app, putO, eput_c, eput_n, hups, List.map, beq_self_eq_true, cond_true, ARun_nil, dropE_c, inL_c, inL_n, dropE_n]
          refine ⟨k + 1, hk', by omega, ?_⟩
          rw [← hfin]
          refine wk_to [] [(0, 0), (40, 40)] (by kernel_rfl) (by kernel_rfl) (by kernel_rfl) (by kernel_rfl) (by kernel_rfl) ?_ ?_ <;> repeat' (first | exact trivial | exact vrl_flat _ (by first | exact icells_in _ | exact rcells_in _ | exact scells_in _ | exact bcells_in _ | assumption) | exact vr_val _ | exact vr_list _ | exact vr_at _ | exact vr_nil | exact vr_cap0 | exact vr_vec _ _ _ _ rfl | exact vr_own _ _ _ _ _ rfl | exact vr_ptr _ _ _ rfl | exact vr_nilv _ _ _ rfl | exact vr_bot _ | exact vr_cap0v _ _ _ rfl | exact vr_cap0l | apply vr_agg | apply vr_tup | apply vr_fn | refine vr_yld _ _ _ rfl ?_ | exact Ren.bot _ | exact Ren.val _ | exact Ren.list _ | exact Ren.at_ _ | exact Ren.ptr _ _ _ rfl | refine Ren.yld _ _ _ _ _ rfl rfl (RenL.get ?_).2 (fun _ _ _ h => h) | refine vr_fl _ _ _ _ _ (by decide) rfl ?_ ?_ ?_ ?_ | refine And.intro ⟨_, rfl, .inl ⟨_, rfl, by decide, ?_⟩⟩ ?_ | refine And.intro ⟨_, rfl, _, rfl, by decide, ?_⟩ ?_ | refine And.intro ⟨_, rfl, .inr ⟨rfl, rfl, of_decide_eq_true (by kernel_rfl)⟩⟩ ?_ | apply And.intro)
    · have hk' : k = l.length := by have := of_decide_eq_false hc; omega
      subst hk'
      refine aw_exit ?_
      simp only [thenQ, blockQ, if_true]
      refine aw_seq (aw_region ?_)
      simp (config := {maxSteps := 10000000}) (disch := first | exact okYes (by kernel_rfl) | omega) only [thenQ, List.length, Nat.zero_add, Nat.reduceAdd, Nat.reduceMul, List.take_length, ARun_none, AOpRun, aexec, Option.map, run1, FSt.ev, St.F, eget_c, Nat.reduceBEq, ↓eget_h, cond_false, hget_c, beq_self_eq_true, hget_n, cond_true, List.getElem?_cons_zero, AGo_ok, St.app, putO, eput_c, eput_n, hups, List.map, D.isBot, D.cells, Nat.reduceLeDiff, List.all, D.leaf, Bool.and_true, and_self, ↓reduceIte, splice, List.take, List.nil_append, List.drop, List.append_nil, hput_c, hput_n, ARun_nil, dropE_c, inL_c, inL_n, dropE_n]
      refine aw_ret ?_
      refine end_to [40] [] (by first | exact .inl rfl | exact .inr rfl) rfl (by kernel_rfl) (by kernel_rfl) (by kernel_rfl) ?_ ?_ <;> repeat' (first | exact trivial | exact vrl_flat _ (by first | exact icells_in _ | exact rcells_in _ | exact scells_in _ | exact bcells_in _ | assumption) | exact vr_val _ | exact vr_list _ | exact vr_at _ | exact vr_nil | exact vr_cap0 | exact vr_vec _ _ _ _ rfl | exact vr_own _ _ _ _ _ rfl | exact vr_ptr _ _ _ rfl | exact vr_nilv _ _ _ rfl | exact vr_bot _ | exact vr_cap0v _ _ _ rfl | exact vr_cap0l | apply vr_agg | apply vr_tup | apply vr_fn | refine vr_yld _ _ _ rfl ?_ | exact Ren.bot _ | exact Ren.val _ | exact Ren.list _ | exact Ren.at_ _ | exact Ren.ptr _ _ _ rfl | refine Ren.yld _ _ _ _ _ rfl rfl (RenL.get ?_).2 (fun _ _ _ h => h) | refine vr_fl _ _ _ _ _ (by decide) rfl ?_ ?_ ?_ ?_ | refine And.intro ⟨_, rfl, .inl ⟨_, rfl, by decide, ?_⟩⟩ ?_ | refine And.intro ⟨_, rfl, _, rfl, by decide, ?_⟩ ?_ | refine And.intro ⟨_, rfl, .inr ⟨rfl, rfl, of_decide_eq_true (by kernel_rfl)⟩⟩ ?_ | apply And.intro)
      all_goals first | exact bxs_one _ | exact bxs_len _ | exact bxs_flat _ | exact bcells_in _
end Go.Proofs.Ytfaiogajaaclcaa
