/- What is left of a box without others: the reference's left. No conditions. -/
import Derived.Test.YtfaiogajaaclcaaLCn2
set_option linter.unusedSimpArgs false
set_option linter.unusedVariables false
namespace Go.Proofs.Ytfaiogajaaclcaa
open Go.RowKit Lift

theorem rst_take (b : Bx) (l : List Bx) (k : Nat) (h : k < l.length) : rst (l.take (k + 1)) b = rst (l.take k) b ++ mnL (l[k]?.getD []) b := by
  unfold rst
  rw [← List.take_append_getElem h, List.flatMap_append]
  simp [h]
theorem rst_len (b : Bx) : ∀ (l : List Bx), (∀ a ∈ l, a.length ≤ 3) → (rst l b).length ≤ 6 * l.length
  | [], _ => by simp [rst]
  | a :: l, h => by
    have h1 := mnL_len a b
    have h2 := h a (List.mem_cons_self ..)
    have h3 := rst_len b l fun x hx => h x (List.mem_cons_of_mem _ hx)
    unfold rst at h3 ⊢
    simp only [List.flatMap_cons, List.length_append, List.length_cons]
    omega
theorem leftR_cnt {n : Nat} (hn : n ≤ 3) : ∀ (R : List Bx) (x : Bx), x.length = n → (leftR R x).length ≤ 6 ^ R.length
  | [], x, _ => by simp [leftR]
  | b :: R, x, h => by
    have h1 := leftR_cnt hn R x h
    have h2 := rst_len b (leftR R x) fun a ha => by rw [leftR_len R x h a ha]; exact hn
    have e : leftR (b :: R) x = rst (leftR R x) b := rfl
    rw [e, List.length_cons, Nat.pow_succ]
    omega
theorem pow6 : ∀ k, k ≤ 8 → 6 ^ k ≤ 1679616 := by
  intro k hk
  exact Nat.le_trans (Nat.pow_le_pow_right (by omega) hk) (by decide)
theorem left_succ (L : List Bx) (x : Bx) (i : Nat) (h : i < L.length) : leftR (L.take (i + 1)).reverse x = rst (leftR (L.take i).reverse x) (L[i]?.getD []) := by
  have hrev : (L.take (i + 1)).reverse = L[i]?.getD [] :: (L.take i).reverse := by
    rw [← List.take_append_getElem h]; simp [h]
  rw [hrev]; rfl
theorem chk_zero {d : Nat} {l : List Bx} (h : chk d l = 0) : ∀ b ∈ l, OkB b ∧ b.length = d := by
  unfold chk at h
  split at h
  · rename_i h1
    split at h
    · rename_i h2
      intro b hb
      have e1 := List.all_eq_true.1 h1 b hb
      have e2 := List.all_eq_true.1 h2 b hb
      exact ⟨boxE_zero (by simpa using e1), by simpa using e2⟩
    · omega
  · omega
set_option maxRecDepth 100000 in
set_option maxHeartbeats 2000000 in
theorem left_ac (x : Bx) (L : List Bx) (hL : L.length ≤ 8) (hx : OkB x) (hb : ∀ b ∈ L, OkB b ∧ b.length = x.length) : AC Try.prog 96 [.list (sps x), .list (bxs L)] [] [] (.list (bxs (leftR L.reverse x))) := by
  refine kref01_left.ac (n0 := 0) (by simp) ⟨.list _, .list _, trivial⟩ trivial rfl ?_
  unfold cref01_left
  refine aw_seq (aw_region ?_)
  simp (config := {maxSteps := 10000000}) (disch := first | exact okYes (by kernel_rfl) | omega) only [thenQ, List.map, List.length, Nat.zero_add, Nat.reduceMul, envOf, ARun_none, AOpRun, aexec, FSt.ev, AGo_ok, St.app, putO, eput_c, Nat.reduceBEq, eput_n, cond_false, hups, ARun_nil, dropE_c, inL_n, dropE_n]
  refine aw_seq (aw_region ?_)
  simp (config := {maxSteps := 10000000}) (disch := first | exact okYes (by kernel_rfl) | omega) only [thenQ, List.length, Nat.zero_add, Nat.reduceAdd, Nat.reduceMul, ARun_none, AOpRun, aexec, FSt.ev, St.F, ↓eget_h, AGo_ok, St.app, putO, eput_c, Nat.reduceBEq, eput_n, cond_false, hups, List.map, Option.isSome, hget_n, Bool.false_eq_true, ↓reduceIte, Option.map, fillD, D.isBot, eget_c, D.cells, ne_eq, not_true_eq_false, Nat.reduceGT, or_self, splice, List.take, List.nil_append, List.drop, List.append_nil, hput_n, ARun_nil, dropE_c, inL_c, inL_n, beq_self_eq_true, cond_true, dropE_n]
  refine aw_seq (aw_seq (aw_region ?_))
  simp (config := {maxSteps := 10000000}) (disch := first | exact okYes (by kernel_rfl) | omega) only [thenQ, List.length, Nat.zero_add, Nat.reduceMul, Nat.reduceAdd, ARun_none, AOpRun, aexec, FSt.ev, AGo_ok, St.app, putO, eput_c, Nat.reduceBEq, eput_n, cond_false, hups, List.map, ARun_nil, dropE_c, inL_n, dropE_n]
  refine aw_block (aw_loop (fun i : Nat => ⟨[(1, .list (bxs L)), (5, .list (bxs (leftR (L.take i).reverse x))), (6, .val (.int .i64 i))], [], 100⟩) (fun i => i ≤ L.length) (fun i => L.length - i) ⟨0, by omega, ?_⟩ ?_)
  · have hcin : ∀ y ∈ ([.list (sps x)] : List D), In (fun _ => False) y := by intro y hy; simp at hy; subst hy; exact .list _
    refine wk_to [16] [] (by kernel_rfl) (by kernel_rfl) (by kernel_rfl) (by kernel_rfl) (by kernel_rfl) ?_ ?_ <;> repeat' (first | exact trivial | exact vrl_flat _ (by first | exact icells_in _ | exact rcells_in _ | exact scells_in _ | exact bcells_in _ | assumption) | exact vr_val _ | exact vr_list _ | exact vr_at _ | exact vr_nil | exact vr_cap0 | exact vr_vec _ _ _ _ rfl | exact vr_own _ _ _ _ _ rfl | exact vr_ptr _ _ _ rfl | exact vr_nilv _ _ _ rfl | exact vr_bot _ | exact vr_cap0v _ _ _ rfl | exact vr_cap0l | apply vr_agg | apply vr_tup | apply vr_fn | refine vr_yld _ _ _ rfl ?_ | exact Ren.bot _ | exact Ren.val _ | exact Ren.list _ | exact Ren.at_ _ | exact Ren.ptr _ _ _ rfl | refine Ren.yld _ _ _ _ _ rfl rfl (RenL.get ?_).2 (fun _ _ _ h => h) | refine vr_fl _ _ _ _ _ (by decide) rfl ?_ ?_ ?_ ?_ | refine And.intro ⟨_, rfl, .inl ⟨_, rfl, by decide, ?_⟩⟩ ?_ | refine And.intro ⟨_, rfl, _, rfl, by decide, ?_⟩ ?_ | refine And.intro ⟨_, rfl, .inr ⟨rfl, rfl, of_decide_eq_true (by kernel_rfl)⟩⟩ ?_ | apply And.intro)
    all_goals first | exact bxs_one _ | rfl | exact hcin
  · intro i hi
    refine aw_seq (aw_seq (aw_region ?_))
    simp (config := {maxSteps := 10000000}) (disch := first | exact okYes (by kernel_rfl) | omega) only [thenQ, List.length, Nat.zero_add, Nat.reduceAdd, Nat.reduceMul, ARun_none, AOpRun, aexec, FSt.ev, St.F, eget_c, Nat.reduceBEq, ↓eget_h, cond_false, AGo_ok, St.app, putO, eput_c, eput_n, hups, List.map, bxs_len, isSh, Bool.false_eq_true, ↓reduceIte, Option.map, abin, ARun_nil, dropE_c, inL_c, inL_n, beq_self_eq_true, cond_true, dropE_n]
    refine aw_cond rfl (fun hc => ?_) (fun hc => ?_)
    · have hi' : i < L.length := by have := of_decide_eq_true hc; omega
      have hb0 := hb (L[i]?.getD []) (by simp [hi'])
      have hsucc := left_succ L x i hi'
      have hcnt := leftR_cnt hx.len (L.take i).reverse x rfl
      have hcnt2 := pow6 (L.take i).reverse.length (by simp; omega)
      have hok := leftR_ok (L.take i).reverse x hx
      have hln := leftR_len (L.take i).reverse x rfl
      have hbg := bxs_gd L i hi'
      generalize L[i]?.getD [] = b at *
      generalize leftR (L.take i).reverse x = now at *
      have hnow : now.length ≤ 1679616 := by omega
      refine aw_skip (aw_seq (aw_block (aw_seq (aw_region ?_))))
      simp (config := {maxSteps := 10000000}) (disch := first | exact okYes (by kernel_rfl) | omega) only [thenQ, List.length, Nat.zero_add, Nat.reduceMul, Nat.reduceAdd, ARun_none, AOpRun, aexec, FSt.ev, AGo_ok, St.app, putO, eput_c, Nat.reduceBEq, eput_n, cond_false, hups, List.map, ARun_nil, dropE_c, inL_n, dropE_n]
      refine aw_seq (aw_seq (aw_region ?_))
      simp (config := {maxSteps := 10000000}) (disch := first | exact okYes (by kernel_rfl) | omega) only [thenQ, List.length, Nat.zero_add, Nat.reduceMul, Nat.reduceAdd, ARun_none, AOpRun, aexec, FSt.ev, AGo_ok, St.app, putO, eput_c, Nat.reduceBEq, eput_n, cond_false, hups, List.map, ARun_nil, dropE_c, inL_n, dropE_n]
      refine aw_block (aw_loop (fun k : Nat => ⟨[(1, .list (bxs L)), (5, .list (bxs now)), (6, .val (.int .i64 i)), (7, .vec 40 (rst (now.take k) b).length 1), (8, .val (.int .i64 k))], [(40, bcells (rst (now.take k) b))], 300⟩) (fun k => k ≤ now.length) (fun k => now.length - k) ⟨0, by omega, ?_⟩ ?_)
      · refine wk_to [] [(40, 200)] (by kernel_rfl) (by kernel_rfl) (by kernel_rfl) (by kernel_rfl) (by kernel_rfl) ?_ ?_ <;> repeat' (first | exact trivial | exact vrl_flat _ (by first | exact icells_in _ | exact rcells_in _ | exact scells_in _ | exact bcells_in _ | assumption) | exact vr_val _ | exact vr_list _ | exact vr_at _ | exact vr_nil | exact vr_cap0 | exact vr_vec _ _ _ _ rfl | exact vr_own _ _ _ _ _ rfl | exact vr_ptr _ _ _ rfl | exact vr_nilv _ _ _ rfl | exact vr_bot _ | exact vr_cap0v _ _ _ rfl | exact vr_cap0l | apply vr_agg | apply vr_tup | apply vr_fn | refine vr_yld _ _ _ rfl ?_ | exact Ren.bot _ | exact Ren.val _ | exact Ren.list _ | exact Ren.at_ _ | exact Ren.ptr _ _ _ rfl | refine Ren.yld _ _ _ _ _ rfl rfl (RenL.get ?_).2 (fun _ _ _ h => h) | refine vr_fl _ _ _ _ _ (by decide) rfl ?_ ?_ ?_ ?_ | refine And.intro ⟨_, rfl, .inl ⟨_, rfl, by decide, ?_⟩⟩ ?_ | refine And.intro ⟨_, rfl, _, rfl, by decide, ?_⟩ ?_ | refine And.intro ⟨_, rfl, .inr ⟨rfl, rfl, of_decide_eq_true (by kernel_rfl)⟩⟩ ?_ | apply And.intro)
      · intro k hk
        refine aw_seq (aw_seq (aw_region ?_))
        simp (config := {maxSteps := 10000000}) (disch := first | exact okYes (by kernel_rfl) | omega) only [thenQ, List.length, Nat.zero_add, Nat.reduceAdd, Nat.reduceMul, ARun_none, AOpRun, aexec, FSt.ev, St.F, eget_c, Nat.reduceBEq, ↓eget_h, cond_false, AGo_ok, St.app, putO, eput_c, eput_n, hups, List.map, bxs_len, isSh, Bool.false_eq_true, ↓reduceIte, Option.map, abin, ARun_nil, dropE_c, inL_c, inL_n, beq_self_eq_true, cond_true, dropE_n]
        refine aw_cond rfl (fun hc => ?_) (fun hc => ?_)
        · have hk' : k < now.length := by have := of_decide_eq_true hc; omega
          have hm : now[k]?.getD [] ∈ now := by simp [hk']
          have hya := hok _ hm
          have hyl := hln _ hm
          have htk := rst_take b now k hk'
          have hrl := rst_len b (now.take k) fun a ha => (hok a (List.mem_of_mem_take ha)).len
          have hrl2 : (now.take k).length ≤ now.length := by simp; omega
          have hyg := bxs_gd now k hk'
          generalize now[k]?.getD [] = y at *
          generalize rst (now.take k) b = t at *
          have e1 : minE y b = 0 := by
            have h1 := okB_E hya
            have h2 := okB_E hb0.1
            unfold minE
            rw [if_neg (by omega), if_neg (by omega), if_neg (by omega)]
          have e2 : minV y b = mnL y b := by unfold minV; rw [e1, if_pos rfl]
          have hmin := rminus_ac y b
          rw [e1, e2] at hmin
          have hml := mnL_len y b
          have hyl3 := hya.len
          have hot : (bcells t).take t.length = bcells t := take_all _ _ (bcells_len _)
          have hbc := bcells_len t
          refine aw_skip (aw_seq (aw_block (aw_seq (aw_region ?_))))
          simp (config := {maxSteps := 10000000}) (disch := first | exact okYes (by kernel_rfl) | omega) only [thenQ, List.length, Nat.zero_add, Nat.reduceAdd, Nat.reduceMul, ARun_none, AOpRun, aexec, FSt.ev, St.F, eget_c, Nat.reduceBEq, ↓eget_h, cond_false, AGo_ok, St.app, putO, eput_c, eput_n, hups, List.map, Int.natCast_nonneg, bxs_all, and_self, ↓reduceIte, opt1, Option.map, Int.toNat_natCast, hyg, run1, List.getElem?_cons_zero, hbg]
          refine acall0 hmin ?_
          simp (config := {maxSteps := 10000000}) (disch := first | exact okYes (by kernel_rfl) | omega) only [Nat.reduceAdd, St.app, putO, dI, eput_c, Nat.reduceBEq, eput_n, cond_false, hups, ARun_none, AOpRun, aexec, FSt.ev, St.F, eget_c, ↓eget_h, AGo_ok, List.map, opt1, Option.map, List.getElem?_cons_zero, List.getElem?_cons_succ, ARun_nil, dropE_c, inL_c, inL_n, beq_self_eq_true, cond_true, dropE_n]
          refine aw_region ?_
          simp (config := {maxSteps := 10000000}) (disch := first | exact okYes (by kernel_rfl) | omega) only [blockQ, thenQ, List.length, Nat.zero_add, Nat.reduceAdd, Nat.reduceMul, ARun_none, AOpRun, aexec, FSt.ev, St.F, eget_c, Nat.reduceBEq, ↓eget_h, cond_false, AGo_ok, St.app, putO, eput_c, eput_n, hups, List.map, base, hget_c, beq_self_eq_true, hget_n, cond_true, Nat.mul_one, hbc, Nat.le_refl, and_self, ↓reduceIte, hot, elems, bxs_all, bxs_len, bxs_flat, Option.isSome, bcells_leaf, and_true, ups, List.cons_append, List.nil_append]
          refine ago_if (by omega) ?_
          simp (config := {maxSteps := 10000000}) (disch := first | exact okYes (by kernel_rfl) | omega) only [AGo_ok, Nat.reduceAdd, St.app, putO, eput_c, Nat.reduceBEq, eput_n, cond_false, hups, hput_c, hput_n, hdel_c, beq_self_eq_true, hdel_n, cond_true, List.map, ARun_none, AOpRun, aexec, FSt.ev, St.F, eget_c, ↓eget_h, ARun_nil, dropE_c, inL_c, inL_n, dropE_n]
          refine aw_region ?_
          simp (config := {maxSteps := 10000000}) (disch := first | exact okYes (by kernel_rfl) | omega) only [thenQ, List.length, Nat.zero_add, Nat.reduceAdd, Nat.reduceMul, ARun_none, AOpRun, aexec, FSt.ev, St.F, eget_c, Nat.reduceBEq, ↓eget_h, cond_false, AGo_ok, St.app, putO, eput_c, eput_n, hups, List.map, isSh, Bool.false_eq_true, ↓reduceIte, Option.map, abin, fits, beq_self_eq_true, cond_true, ARun_nil, dropE_c, inL_c, inL_n, dropE_n]
          refine ⟨k + 1, hk', by omega, ?_⟩
          have hbe : bcells (t ++ mnL y b) = bcells t ++ bcells (mnL y b) := by simp [bcells]
          rw [htk, List.length_append, hbe]
          have hcin : ∀ z ∈ bcells t ++ bcells (mnL y b), In (fun _ => False) z := by rw [← hbe]; exact bcells_in _
          refine wk_to [] [(40, 460)] (by kernel_rfl) (by kernel_rfl) (by kernel_rfl) (by kernel_rfl) (by kernel_rfl) ?_ ?_ <;> repeat' (first | exact trivial | exact vrl_flat _ (by first | exact icells_in _ | exact rcells_in _ | exact scells_in _ | exact bcells_in _ | assumption) | exact vr_val _ | exact vr_list _ | exact vr_at _ | exact vr_nil | exact vr_cap0 | exact vr_vec _ _ _ _ rfl | exact vr_own _ _ _ _ _ rfl | exact vr_ptr _ _ _ rfl | exact vr_nilv _ _ _ rfl | exact vr_bot _ | exact vr_cap0v _ _ _ rfl | exact vr_cap0l | apply vr_agg | apply vr_tup | apply vr_fn | refine vr_yld _ _ _ rfl ?_ | exact Ren.bot _ | exact Ren.val _ | exact Ren.list _ | exact Ren.at_ _ | exact Ren.ptr _ _ _ rfl | refine Ren.yld _ _ _ _ _ rfl rfl (RenL.get ?_).2 (fun _ _ _ h => h) | refine vr_fl _ _ _ _ _ (by decide) rfl ?_ ?_ ?_ ?_ | refine And.intro ⟨_, rfl, .inl ⟨_, rfl, by decide, ?_⟩⟩ ?_ | refine And.intro ⟨_, rfl, _, rfl, by decide, ?_⟩ ?_ | refine And.intro ⟨_, rfl, .inr ⟨rfl, rfl, of_decide_eq_true (by kernel_rfl)⟩⟩ ?_ | apply And.intro)
        · have hk' : k = now.length := by have := of_decide_eq_false hc; omega
          subst hk'
          refine aw_exit ?_
          simp only [thenQ, blockQ, if_true, List.take_length]
          refine aw_region ?_
          simp (config := {maxSteps := 10000000}) (disch := first | exact okYes (by kernel_rfl) | omega) only [blockQ, thenQ, List.length, Nat.zero_add, Nat.reduceAdd, Nat.reduceMul, ARun_none, AOpRun, aexec, FSt.ev, St.F, eget_c, Nat.reduceBEq, ↓eget_h, cond_false, AGo_ok, St.app, putO, eput_c, eput_n, hups, List.map, beq_self_eq_true, cond_true, ARun_nil, dropE_c, inL_c, inL_n, dropE_n]
          refine aw_region ?_
          simp (config := {maxSteps := 10000000}) (disch := first | exact okYes (by kernel_rfl) | omega) only [thenQ, List.length, Nat.zero_add, Nat.reduceAdd, Nat.reduceMul, ARun_none, AOpRun, aexec, FSt.ev, St.F, eget_c, Nat.reduceBEq, ↓eget_h, cond_false, AGo_ok, St.app, putO, eput_c, eput_n, hups, List.map, isSh, Bool.false_eq_true, ↓reduceIte, Option.map, abin, fits, beq_self_eq_true, cond_true, ARun_nil, dropE_c, inL_c, inL_n, dropE_n]
          refine ⟨i + 1, hi', by omega, ?_⟩
          rw [hsucc]
          refine wk_to [40] [] (by kernel_rfl) (by kernel_rfl) (by kernel_rfl) (by kernel_rfl) (by kernel_rfl) ?_ ?_ <;> repeat' (first | exact trivial | exact vrl_flat _ (by first | exact icells_in _ | exact rcells_in _ | exact scells_in _ | exact bcells_in _ | assumption) | exact vr_val _ | exact vr_list _ | exact vr_at _ | exact vr_nil | exact vr_cap0 | exact vr_vec _ _ _ _ rfl | exact vr_own _ _ _ _ _ rfl | exact vr_ptr _ _ _ rfl | exact vr_nilv _ _ _ rfl | exact vr_bot _ | exact vr_cap0v _ _ _ rfl | exact vr_cap0l | apply vr_agg | apply vr_tup | apply vr_fn | refine vr_yld _ _ _ rfl ?_ | exact Ren.bot _ | exact Ren.val _ | exact Ren.list _ | exact Ren.at_ _ | exact Ren.ptr _ _ _ rfl | refine Ren.yld _ _ _ _ _ rfl rfl (RenL.get ?_).2 (fun _ _ _ h => h) | refine vr_fl _ _ _ _ _ (by decide) rfl ?_ ?_ ?_ ?_ | refine And.intro ⟨_, rfl, .inl ⟨_, rfl, by decide, ?_⟩⟩ ?_ | refine And.intro ⟨_, rfl, _, rfl, by decide, ?_⟩ ?_ | refine And.intro ⟨_, rfl, .inr ⟨rfl, rfl, of_decide_eq_true (by kernel_rfl)⟩⟩ ?_ | apply And.intro)
          all_goals first | exact bxs_one _ | exact bxs_len _ | exact bxs_flat _ | exact bcells_in _
    · have hi' : i = L.length := by have := of_decide_eq_false hc; omega
      subst hi'
      refine aw_exit (aw_seq (aw_region ?_))
      simp (config := {maxSteps := 10000000}) (disch := first | exact okYes (by kernel_rfl) | omega) only [thenQ, List.length, Nat.zero_add, Nat.reduceAdd, Nat.reduceMul, List.take_length, ARun_none, AOpRun, aexec, FSt.ev, St.F, eget_c, Nat.reduceBEq, ↓eget_h, cond_false, AGo_ok, St.app, putO, eput_c, eput_n, hups, List.map, ARun_nil, dropE_c, inL_c, inL_n, beq_self_eq_true, cond_true, dropE_n]
      refine aw_ret ?_
      refine end_to [] [] (by first | exact .inl rfl | exact .inr rfl) rfl (by kernel_rfl) (by kernel_rfl) (by kernel_rfl) ?_ ?_ <;> repeat' (first | exact trivial | exact vrl_flat _ (by first | exact icells_in _ | exact rcells_in _ | exact scells_in _ | exact bcells_in _ | assumption) | exact vr_val _ | exact vr_list _ | exact vr_at _ | exact vr_nil | exact vr_cap0 | exact vr_vec _ _ _ _ rfl | exact vr_own _ _ _ _ _ rfl | exact vr_ptr _ _ _ rfl | exact vr_nilv _ _ _ rfl | exact vr_bot _ | exact vr_cap0v _ _ _ rfl | exact vr_cap0l | apply vr_agg | apply vr_tup | apply vr_fn | refine vr_yld _ _ _ rfl ?_ | exact Ren.bot _ | exact Ren.val _ | exact Ren.list _ | exact Ren.at_ _ | exact Ren.ptr _ _ _ rfl | refine Ren.yld _ _ _ _ _ rfl rfl (RenL.get ?_).2 (fun _ _ _ h => h) | refine vr_fl _ _ _ _ _ (by decide) rfl ?_ ?_ ?_ ?_ | refine And.intro ⟨_, rfl, .inl ⟨_, rfl, by decide, ?_⟩⟩ ?_ | refine And.intro ⟨_, rfl, _, rfl, by decide, ?_⟩ ?_ | refine And.intro ⟨_, rfl, .inr ⟨rfl, rfl, of_decide_eq_true (by kernel_rfl)⟩⟩ ?_ | apply And.intro)
end Go.Proofs.Ytfaiogajaaclcaa
