/- Texts of the law RecordPacked, part 10. No conditions. -/
import Derived.Test.YtdcodicoclecnaaPRecordPacked09
/- record: whether a claim holds with proofs. No conditions. -/
set_option linter.unusedSimpArgs false
set_option linter.unusedVariables false
namespace Go.Proofs.Ytdcodicoclecnaa
open Go Go.RowKit Lift

theorem clV_any {x : Clm} {h : List Bool} {cn : Nat → Bool} (ha : x.any = true) : ((x.needs.map fun n => h[n.toNat]?.getD false) ++ x.proofs.map fun n => cn n.toNat).any (fun b => b == true) = clV x h cn := by
  unfold clV
  rw [if_pos ha, List.any_append, List.any_map, List.any_map]
  congr 1 <;> (congr 1; funext n; simp)
theorem clV_all {x : Clm} {h : List Bool} {cn : Nat → Bool} (ha : x.any = false) : (!((x.needs.map fun n => h[n.toNat]?.getD false) ++ x.proofs.map fun n => cn n.toNat).any (fun b => b == false)) = clV x h cn := by
  unfold clV
  rw [ha, if_neg (by simp), List.any_append, List.any_map, List.any_map, Bool.not_or, List.not_any_eq_all_not, List.not_any_eq_all_not]
  congr 1 <;> (congr 1; funext n; simp)
theorem bcl_app (A B : List Bool) : bcl A ++ bcl B = bcl (A ++ B) := by simp [bcl]
theorem asc_short {l : List Int} {b : Int} (h : Asc l b) (hb : b ≤ 20) : l.length ≤ 100 := by
  have key : ∀ i, i < l.length → (i : Int) ≤ l[i]?.getD 0 := fun i => by
    induction i with
    | zero => intro hi; have := (h 0 hi).1; omega
    | succ i ih =>
      intro hi
      have h1 := ih (by omega)
      have h2 := (h (i + 1) hi).2.2 (by omega)
      rw [Nat.add_sub_cancel] at h2
      omega
  rcases Nat.eq_zero_or_pos l.length with h0 | h0
  · omega
  · have h1 := key (l.length - 1) (by omega)
    have h2 := (h (l.length - 1) (by omega)).2.1
    omega
theorem bcl_ne {l : List Bool} (h : 0 < l.length) : (bcl l).isEmpty = false := by cases l with
  | nil => simp at h
  | cons a l => rfl
set_option maxRecDepth 100000 in
set_option maxHeartbeats 8000000 in
theorem holds_ac (c : Cas) (hc : CasOk c) (cl : Nat) (hcl : cl < c.cl.length) (p : Nat) (hp : p < 4096) : AC Try.prog 83 [casD c, dI cl, dI p] [] [] (dB (holdC c cl p.testBit)) := by
  refine krecord_holds.ac (n0 := 0) (by simp) ⟨in_cas _ _, .val _, .val _, trivial⟩ trivial rfl ?_
  unfold crecord_holds casD
  have n1 := hc.n1
  have n2 := hc.n2
  have e0 : ((cl : Int) + 1).toNat = cl + 1 := by omega
  refine aw_seq (aw_region ?_)
  simp (config := {maxSteps := 10000000}) (disch := first | exact okYes (by kernel_rfl) | omega) only [thenQ, List.map, dB, List.length, Nat.zero_add, Nat.reduceAdd, Nat.reduceMul, envOf, dI, ARun_none, AOpRun, aexec, D.isBot, FSt.ev, St.F, ↓eget_h, Bool.false_eq_true, Option.isSome, hget_n, or_self, ↓reduceIte, D.cells, AGo_ok, St.app, putO, eput_c, Nat.reduceBEq, eput_n, cond_false, hups, hput_n, ARun_nil, dropE_c, inL_n, dropE_n]
  refine aw_seq (aw_region ?_)
  have hm1 : (0 : Int) ≤ (cl : Int) + 1 := by omega
  have hm2 : ((cl : Int) + 1) * 1 ≤ 2 ^ 48 := by omega
  have hm3 : (cl : Int) + 1 < 2 ^ 62 := by omega
  have hf0 : hlF c p.testBit (cl + 1) 0 = List.replicate (cl + 1) false := hlF_zero c p.testBit (cl + 1)
  simp (config := {maxSteps := 10000000}) (disch := first | exact okYes (by kernel_rfl) | omega) only [thenQ, List.length, Nat.zero_add, Nat.reduceAdd, Nat.reduceMul, ARun_none, AOpRun, aexec, FSt.ev, St.F, eget_c, Nat.reduceBEq, ↓eget_h, cond_false, AGo_ok, St.app, putO, eput_c, eput_n, hups, List.map, isSh, Bool.false_eq_true, ↓reduceIte, Option.map, abin, fits, hm1, cast_lit, hm2, hm3, Option.isSome, hget_c, hget_n, and_self, e0, rep_bc, ← hf0, hput_c, hput_n, ↓hget_h, D.isBot, D.cells, Nat.reduceLeDiff, List.all, D.leaf, Bool.and_true, splice, List.take, List.nil_append, List.drop, List.append_nil, beq_self_eq_true, cond_true, ARun_nil, dropE_c, inL_c, inL_n, dropE_n]
  refine aw_seq (aw_seq (aw_region ?_))
  have hm4 : (cl : Int) + 1 ≤ (c.cl.length : Int) := by omega
  have e1 : ((cl : Int) + 1 - 0).toNat = cl + 1 := by omega
  have ca := cls_all c.cl
  simp (config := {maxSteps := 10000000}) (disch := first | exact okYes (by kernel_rfl) | omega) only [thenQ, List.length, Nat.zero_add, Nat.reduceAdd, Nat.reduceMul, ARun_none, AOpRun, aexec, FSt.ev, St.F, eget_c, Nat.reduceBEq, ↓eget_h, cond_false, AGo_ok, St.app, putO, eput_c, eput_n, hups, List.map, Option.map, run1, hget_c, beq_self_eq_true, hget_n, cond_true, List.getElem?_cons_zero, isSh, Bool.false_eq_true, ↓reduceIte, abin, fits, asI, cls_len, Int.le_refl, hm1, hm4, ca, and_self, e1, Int.toNat_zero, List.drop, ARun_nil, dropE_c, inL_c, inL_n, dropE_n]
  have hSl : ((cls c.cl).take (cl + 1)).length = cl + 1 := by rw [List.length_take, cls_len]; omega
  have hSa : ((cls c.cl).take (cl + 1)).all (fun x => x.length == 3) = true := List.all_eq_true.2 fun x hx => List.all_eq_true.1 ca x (List.mem_of_mem_take hx)
  have hSg : ∀ k, k < cl + 1 → ((cls c.cl).take (cl + 1))[k]? = some (clC (clAt c k)) := fun k hk => by rw [List.getElem?_take_of_lt hk]; exact cls_gd c.cl k (by omega)
  generalize (cls c.cl).take (cl + 1) = S at *
  simp (config := {maxSteps := 10000000}) (disch := first | exact okYes (by kernel_rfl) | omega) only [hSl]
  refine aw_block ?_
  refine aw_loop (fun k : Nat => ⟨[(1, dI cl), (2, dI p), (7, .ptr 16 0), (18, .list S), (19, dI ((cl : Int) + 1)), (20, dI k)], [(16, [.vec 24 (cl + 1) 1]), (24, bcl (hlF c p.testBit (cl + 1) k))], 400⟩) (fun k => k ≤ cl + 1) (fun k => cl + 1 - k) ⟨0, by omega, ?_⟩ ?_
  · refine wk_to [] [(16, 40), (24, 32)] (by kernel_rfl) (by kernel_rfl) (by kernel_rfl) (by kernel_rfl) (by kernel_rfl) ?_ ?_ <;> repeat' (first | exact trivial | exact vr_val _ | exact vr_list _ | exact vr_vec _ _ _ _ rfl | exact vr_ptr _ _ _ rfl | refine And.intro ⟨_, rfl, .inl ⟨_, rfl, by decide, ?_⟩⟩ ?_ | apply And.intro)
    all_goals exact vrl_flat _ (bcl_in _)
  intro k hk
  by_cases hk2 : k < cl + 1
  case neg =>
    obtain rfl : k = cl + 1 := by omega
    have g1 := bc_gd (hlF c p.testBit (cl + 1) (cl + 1)) cl (by rw [hlF_len]; omega)
    rw [hlF_get c p.testBit (cl + 1) (cl + 1) cl (by omega) (by omega)] at g1
    have g2 := bcl_len (hlF c p.testBit (cl + 1) (cl + 1))
    rw [hlF_len] at g2
    have q : decide (((cl + 1 : Nat) : Int) < (cl : Int) + 1) = false := decide_eq_false (by omega)
    have q2 : (cl : Int) < ((cl + 1 : Nat) : Int) := by omega
    have q3 : (0 : Int) ≤ (cl : Int) := by omega
    show AWb _ _ _ _ _ _ _
    (have hg : (987654321 : Nat) - 987654321 = 0 := rfl; have hr := hg; repeat' (first | refine aw_seq ?_ | (refine aw_skip ?_; try simp only [thenQ, blockQ, if_true, if_false, Nat.reduceEqDiff, reduceCtorEq]) | (refine aw_exit ?_; try simp only [thenQ, blockQ, if_true, if_false, Nat.reduceEqDiff, reduceCtorEq]) | refine aw_ret ?_ | refine aw_block ?_ | refine aw_condT rfl ?_ | refine aw_condF rfl ?_ | ((first | refine aw_region ?_ | refine ago_if (by omega) ?_ | skip); simp (config := {maxSteps := 10000000}) (disch := first | exact okYes (by kernel_rfl) | omega) only [thenQ, dI, List.length, Nat.zero_add, Nat.mul_one, Nat.reduceAdd, ARun_none, AOpRun, aexec, FSt.ev, St.F, eget_c, Nat.reduceBEq, ↓eget_h, cond_false, isSh, Bool.false_eq_true, ↓reduceIte, Option.map, abin, q, AGo_ok, St.app, putO, eput_c, eput_n, hups, List.map, ARun_nil, dropE_c, inL_n, dropE_n, Nat.reduceMul, run1, hget_c, beq_self_eq_true, hget_n, cond_true, Nat.add_zero, List.getElem?_cons_zero, q3, q2, and_self, Int.toNat_natCast, ↓hget_h, g1, inL_c])))
    all_goals (refine end_to [] [] (by first | exact .inl rfl | exact .inr rfl) rfl (by kernel_rfl) (by kernel_rfl) (by kernel_rfl) ?_ ?_ <;> repeat' (first | exact trivial | exact vr_val _))
  have g1 := hSg k hk2
  unfold clC at g1
  obtain ⟨as1, as2⟩ := hc.asc k (by omega)
  have hsu := hlF_succ c p.testBit (cl + 1) k hk2
  have hdl := hlF_len c p.testBit (cl + 1) k
  have eA : (clAt c k).needs.map (fun n => (hlF c p.testBit (cl + 1) k)[n.toNat]?.getD false) = (clAt c k).needs.map (fun n => (hlK c p.testBit k)[n.toNat]?.getD false) := by
    refine List.map_congr_left fun n hn => ?_
    have := asc_lt as1 hn
    exact hlF_get c p.testBit (cl + 1) k n.toNat (by omega) (by omega)
  have va := clV_any (x := clAt c k) (h := hlK c p.testBit k) (cn := p.testBit)
  have vl := clV_all (x := clAt c k) (h := hlK c p.testBit k) (cn := p.testBit)
  have l1 : (clAt c k).needs.length ≤ 100 := asc_short as1 (by omega)
  have l2 : (clAt c k).proofs.length ≤ 100 := asc_short as2 (by omega)
  have pk1 := pick1_ac (hlF c p.testBit (cl + 1) k) (bcl_ne (by omega)) (clAt c k).needs (by omega) (fun j hj => by have := as1 j hj; omega)
  have pk2 := pick2_ac p hp (clAt c k).proofs (by omega) (fun j hj => by have := as2 j hj; omega)
  rw [eA, hdl] at pk1
  have hAl : ((clAt c k).needs.map (fun n => (hlK c p.testBit k)[n.toNat]?.getD false)).length = (clAt c k).needs.length := List.length_map ..
  have hBl : ((clAt c k).proofs.map (fun n => p.testBit n.toNat)).length = (clAt c k).proofs.length := List.length_map ..
  generalize (clAt c k).needs.map (fun n => (hlK c p.testBit k)[n.toNat]?.getD false) = A at *
  generalize (clAt c k).proofs.map (fun n => p.testBit n.toNat) = B at *
  generalize clV (clAt c k) (hlK c p.testBit k) p.testBit = V at *
  generalize clAt c k = x at *
  generalize hlF c p.testBit (cl + 1) k = H at *
  have ki : (k : Int) < (cl : Int) + 1 := by omega
  refine aw_seq (aw_region ?_)
  simp (config := {maxSteps := 10000000}) (disch := first | exact okYes (by kernel_rfl) | omega) only [thenQ, dI, List.length, Nat.zero_add, Nat.reduceMul, Nat.reduceAdd, ARun_none, AOpRun, aexec, FSt.ev, St.F, eget_c, Nat.reduceBEq, ↓eget_h, cond_false, isSh, Bool.false_eq_true, ↓reduceIte, Option.map, abin, ki, decide_true, AGo_ok, St.app, putO, eput_c, eput_n, hups, List.map, ARun_nil, dropE_c, inL_n, dropE_n]
  refine aw_seq (aw_condT rfl (aw_skip ?_))
  refine aw_seq (aw_block (aw_seq (aw_region ?_)))
  simp (config := {maxSteps := 10000000}) (disch := first | exact okYes (by kernel_rfl) | omega) only [thenQ, List.length, Nat.zero_add, Nat.reduceAdd, Nat.reduceMul, ARun_none, AOpRun, aexec, FSt.ev, St.F, eget_c, Nat.reduceBEq, ↓eget_h, cond_false, AGo_ok, St.app, putO, eput_c, eput_n, hups, List.map, Int.natCast_nonneg, hSa, and_self, ↓reduceIte, opt1, Option.map, Int.toNat_natCast, g1, dB, Nat.reduceLeDiff, List.take, Option.isSome, hget_c, hget_n, Bool.false_eq_true, hput_c, hput_n, ↓hget_h, D.isBot, D.cells, List.all, D.leaf, Bool.and_true, splice, List.nil_append, List.drop, List.append_nil, beq_self_eq_true, cond_true, ARun_nil, dropE_c, inL_c, inL_n, dropE_n]
  refine aw_wk (s' := ⟨[(1, dI cl), (2, dI p), (7, .ptr 16 0), (8, dI k), (9, .ptr 40 0), (18, .list S), (19, dI ((cl : Int) + 1)), (20, dI k)], [(16, [.vec 24 (cl + 1) 1]), (24, bcl H), (40, [.list (ints x.needs), .list (ints x.proofs), dB x.any])], 72⟩) ?_ ?_
  · unfold dI dB
    refine wk_to [] [(16, 16), (24, 24), (40, 432)] (by kernel_rfl) (by kernel_rfl) (by kernel_rfl) (by kernel_rfl) (by kernel_rfl) ?_ ?_ <;> repeat' (first | exact trivial | exact vr_val _ | exact vr_list _ | exact vr_vec _ _ _ _ rfl | exact vr_ptr _ _ _ rfl | refine And.intro ⟨_, rfl, .inl ⟨_, rfl, by decide, ?_⟩⟩ ?_ | apply And.intro)
    all_goals exact vrl_flat _ (bcl_in _)
  refine aw_seq (aw_region ?_)
  simp (config := {maxSteps := 10000000}) (disch := first | exact okYes (by kernel_rfl) | omega) only [thenQ, List.length, Nat.zero_add, Nat.reduceAdd, Nat.reduceMul, dI, dB, ARun_none, AOpRun, aexec, FSt.ev, St.F, eget_c, Nat.reduceBEq, ↓eget_h, cond_false, AGo_ok, St.app, putO, eput_c, eput_n, hups, List.map, Option.map, run1, hget_c, ↓hget_h, List.getElem?_cons_zero]
  refine acallB pk1 (by repeat' (first | exact trivial | exact rfl | refine And.intro ?_ ?_)) (by kernel_rfl) (by kernel_rfl) (by kernel_rfl) ?_
  simp (config := {maxSteps := 10000000}) (disch := first | exact okYes (by kernel_rfl) | omega) only [Nat.reduceAdd, St.app, putO, eput_c, Nat.reduceBEq, eput_n, cond_false, hups, hput_c, hput_n, beq_self_eq_true, cond_true, List.map, List.append_nil, ARun_none, AOpRun, aexec, FSt.ev, St.F, eget_c, ↓eget_h, Nat.zero_add, AGo_ok, Option.map, run1, hget_c, ↓hget_h, List.getElem?_cons_succ, List.getElem?_cons_zero]
  refine acallB pk2 (by repeat' (first | exact trivial | exact rfl | refine And.intro ?_ ?_)) (by kernel_rfl) (by kernel_rfl) (by kernel_rfl) ?_
  have hac : (bcl A).length = x.needs.length := by rw [bcl_len]; exact hAl
  have hat : (bcl A).take x.needs.length = bcl A := List.take_of_length_le (by omega)
  have hbc : (bcl B).length = x.proofs.length := by rw [bcl_len]; exact hBl
  have hbt : (bcl B).take x.proofs.length = bcl B := List.take_of_length_le (by omega)
  have hbl := bcl_leaf B
  simp (config := {maxSteps := 10000000}) (disch := first | exact okYes (by kernel_rfl) | omega) only [Nat.reduceAdd, St.app, putO, eput_c, Nat.reduceBEq, eput_n, cond_false, hups, hput_c, hput_n, List.map, List.append_nil, ARun_none, AOpRun, aexec, base, FSt.ev, St.F, eget_c, ↓eget_h, hget_c, ↓hget_h, Nat.mul_one, hac, Nat.le_refl, and_self, ↓reduceIte, hat, elems, hbc, hbt, Option.isSome, Nat.reduceMul, hget_n, hbl, and_true, ups, List.cons_append, List.nil_append]
  refine ago_if (by omega) ?_
  simp (config := {maxSteps := 10000000}) (disch := first | exact okYes (by kernel_rfl) | omega) only [AGo_ok, Nat.reduceAdd, St.app, putO, eput_c, Nat.reduceBEq, eput_n, cond_false, hups, hput_c, hput_n, hdel_c, beq_self_eq_true, hdel_n, cond_true, List.map, ARun_none, AOpRun, aexec, FSt.ev, St.F, eget_c, ↓eget_h, ARun_nil, dropE_c, inL_c, inL_n, dropE_n]
  rw [bcl_app]
  have hL : (A ++ B).length = x.needs.length + x.proofs.length := by simp [hAl, hBl]
  refine aw_wk (s' := ⟨[(1, dI cl), (2, dI p), (7, .ptr 16 0), (8, dI k), (9, .ptr 40 0), (10, .vec 144 (x.needs.length + x.proofs.length) 1), (18, .list S), (19, dI ((cl : Int) + 1)), (20, dI k)], [(16, [.vec 24 (cl + 1) 1]), (24, bcl H), (40, [.list (ints x.needs), .list (ints x.proofs), dB x.any]), (144, bcl (A ++ B))], 200⟩) ?_ ?_
  · unfold dI dB
    refine wk_to [] [(16, 16), (24, 24), (40, 40), (144, 144)] (by kernel_rfl) (by kernel_rfl) (by kernel_rfl) (by kernel_rfl) (by kernel_rfl) ?_ ?_ <;> repeat' (first | exact trivial | exact vr_val _ | exact vr_list _ | exact vr_vec _ _ _ _ rfl | exact vr_ptr _ _ _ rfl | refine And.intro ⟨_, rfl, .inl ⟨_, rfl, by decide, ?_⟩⟩ ?_ | apply And.intro)
    all_goals exact vrl_flat _ (bcl_in _)
  have ct := cbool_ac (A ++ B) true (by omega)
  have cf := cbool_ac (A ++ B) false (by omega)
  generalize A ++ B = L at *
  have hHc : (bcl H).length = cl + 1 := (bcl_len H).trans hdl
  have hHk : k + 1 ≤ cl + 1 := by omega
  have hHb := bc_t H k V (by omega)
  have hcin := bcl_in (H.set k V)
  have k0 : (0 : Int) ≤ (k : Int) := by omega
  have k1 : (k : Int) < ((cl + 1 : Nat) : Int) := by omega
  have hfin : ∀ s : St, Wk [] s ⟨[(1, dI cl), (2, dI p), (7, .ptr 16 0), (18, .list S), (19, dI ((cl : Int) + 1)), (20, dI ((k + 1 : Nat) : Int))], [(16, [.vec 24 (cl + 1) 1]), (24, bcl (H.set k V))], 400⟩ → ∃ j, j ≤ cl + 1 ∧ cl + 1 - j < cl + 1 - k ∧ Wk [] s ⟨[(1, dI cl), (2, dI p), (7, .ptr 16 0), (18, .list S), (19, dI ((cl : Int) + 1)), (20, dI j)], [(16, [.vec 24 (cl + 1) 1]), (24, bcl (hlF c p.testBit (cl + 1) j))], 400⟩ := fun s hs => ⟨k + 1, by omega, by omega, by rw [hsu]; exact hs⟩
  cases ha : x.any with
  | true =>
    rw [va ha] at ct
    refine aw_seq (aw_region ?_)
    simp (config := {maxSteps := 10000000}) (disch := first | exact okYes (by kernel_rfl) | omega) only [thenQ, List.length, Nat.zero_add, Nat.reduceAdd, Nat.reduceMul, dI, dB, ARun_none, AOpRun, aexec, FSt.ev, St.F, eget_c, Nat.reduceBEq, ↓eget_h, cond_false, AGo_ok, St.app, putO, eput_c, eput_n, hups, List.map, Option.map, run1, hget_c, ↓hget_h, List.getElem?_cons_succ, List.getElem?_cons_zero, ARun_nil, dropE_c, inL_c, inL_n, beq_self_eq_true, cond_true, dropE_n]
    refine aw_condT rfl (aw_region ?_)
    simp (config := {maxSteps := 10000000}) (disch := first | exact okYes (by kernel_rfl) | omega) only [blockQ, thenQ, List.length, Nat.zero_add, Nat.reduceAdd, Nat.reduceMul, ARun_none, AOpRun, aexec, Option.map, run1, FSt.ev, St.F, eget_c, Nat.reduceBEq, ↓eget_h, cond_false, hget_c, beq_self_eq_true, hget_n, cond_true, List.getElem?_cons_zero, AGo_ok, St.app, putO, eput_c, eput_n, hups, List.map]
    refine acall ct [144] ⟨vec_bools L (by simp) rfl hL, .refl _, trivial⟩ (.inr (.val _)) (by intro g hg; simp at hg; subst hg; exact ⟨_, rfl⟩) (by kernel_rfl) ?_
    simp (config := {maxSteps := 10000000}) (disch := first | exact okYes (by kernel_rfl) | omega) only [Nat.reduceAdd, St.app, putO, dB, eput_c, Nat.reduceBEq, eput_n, cond_false, hups, ARun_none, AOpRun, aexec, FSt.ev, St.F, eget_c, ↓eget_h, k0, k1, and_self, ↓reduceIte, Int.toNat_natCast, Nat.mul_one, AGo_ok, List.map, hget_c, ↓hget_h, D.isBot, D.cells, List.length, Nat.zero_add, hHc, hHk, List.all, D.leaf, Bool.and_true, splice, hHb, hput_c, beq_self_eq_true, hput_n, cond_true, ARun_nil, dropE_c, inL_c, inL_n, dropE_n]
    refine aw_region ?_
    simp (config := {maxSteps := 10000000}) (disch := first | exact okYes (by kernel_rfl) | omega) only [thenQ, List.length, Nat.zero_add, Nat.reduceAdd, Nat.reduceMul, ARun_none, AOpRun, aexec, FSt.ev, St.F, eget_c, Nat.reduceBEq, ↓eget_h, cond_false, isSh, Bool.false_eq_true, ↓reduceIte, Option.map, abin, fits, AGo_ok, St.app, putO, eput_c, eput_n, hups, List.map, beq_self_eq_true, cond_true, ARun_nil, dropE_c, inL_c, inL_n, dropE_n]
    refine hfin _ ?_
    unfold dI
    refine wk_to [] [(16, 16), (24, 24)] (by kernel_rfl) (by kernel_rfl) (by kernel_rfl) (by kernel_rfl) (by kernel_rfl) ?_ ?_ <;> repeat' (first | exact trivial | exact vr_val _ | exact vr_list _ | exact vr_vec _ _ _ _ rfl | exact vr_ptr _ _ _ rfl | refine And.intro ⟨_, rfl, .inl ⟨_, rfl, by decide, ?_⟩⟩ ?_ | apply And.intro | exact vrl_flat _ (by first | exact icells_in _ | exact rcells_in _ | exact scells_in _ | exact bcells_in _ | assumption) | fail)
    all_goals exact vrl_flat _ hcin
  | false =>
    refine aw_seq (aw_region ?_)
    simp (config := {maxSteps := 10000000}) (disch := first | exact okYes (by kernel_rfl) | omega) only [thenQ, List.length, Nat.zero_add, Nat.reduceAdd, Nat.reduceMul, dI, dB, ARun_none, AOpRun, aexec, FSt.ev, St.F, eget_c, Nat.reduceBEq, ↓eget_h, cond_false, AGo_ok, St.app, putO, eput_c, eput_n, hups, List.map, Option.map, run1, hget_c, ↓hget_h, List.getElem?_cons_succ, List.getElem?_cons_zero, ARun_nil, dropE_c, inL_c, inL_n, beq_self_eq_true, cond_true, dropE_n]
    refine aw_condF rfl (aw_region ?_)
    simp (config := {maxSteps := 10000000}) (disch := first | exact okYes (by kernel_rfl) | omega) only [blockQ, thenQ, List.length, Nat.zero_add, Nat.reduceAdd, Nat.reduceMul, ARun_none, AOpRun, aexec, Option.map, run1, FSt.ev, St.F, eget_c, Nat.reduceBEq, ↓eget_h, cond_false, hget_c, beq_self_eq_true, hget_n, cond_true, List.getElem?_cons_zero, AGo_ok, St.app, putO, eput_c, eput_n, hups, List.map]
    refine acall cf [144] ⟨vec_bools L (by simp) rfl hL, .refl _, trivial⟩ (.inr (.val _)) (by intro g hg; simp at hg; subst hg; exact ⟨_, rfl⟩) (by kernel_rfl) ?_
    have vf := vl ha
    generalize (L.any fun b => b == false) = W at *
    subst vf
    simp (config := {maxSteps := 10000000}) (disch := first | exact okYes (by kernel_rfl) | omega) only [Nat.reduceAdd, St.app, putO, dB, eput_c, Nat.reduceBEq, eput_n, cond_false, hups, ARun_none, AOpRun, aexec, FSt.ev, St.F, eget_c, ↓eget_h, AGo_ok, List.map, k0, k1, and_self, ↓reduceIte, Int.toNat_natCast, Nat.mul_one, hget_c, ↓hget_h, D.isBot, D.cells, List.length, Nat.zero_add, hHc, hHk, List.all, D.leaf, Bool.and_true, splice, hHb, hput_c, beq_self_eq_true, hput_n, cond_true, ARun_nil, dropE_c, inL_c, inL_n, dropE_n]
    refine aw_region ?_
    simp (config := {maxSteps := 10000000}) (disch := first | exact okYes (by kernel_rfl) | omega) only [thenQ, List.length, Nat.zero_add, Nat.reduceAdd, Nat.reduceMul, ARun_none, AOpRun, aexec, FSt.ev, St.F, eget_c, Nat.reduceBEq, ↓eget_h, cond_false, isSh, Bool.false_eq_true, ↓reduceIte, Option.map, abin, fits, AGo_ok, St.app, putO, eput_c, eput_n, hups, List.map, beq_self_eq_true, cond_true, ARun_nil, dropE_c, inL_c, inL_n, dropE_n]
    refine hfin _ ?_
    unfold dI
    refine wk_to [] [(16, 16), (24, 24)] (by kernel_rfl) (by kernel_rfl) (by kernel_rfl) (by kernel_rfl) (by kernel_rfl) ?_ ?_ <;> repeat' (first | exact trivial | exact vr_val _ | exact vr_list _ | exact vr_vec _ _ _ _ rfl | exact vr_ptr _ _ _ rfl | refine And.intro ⟨_, rfl, .inl ⟨_, rfl, by decide, ?_⟩⟩ ?_ | apply And.intro | exact vrl_flat _ (by first | exact icells_in _ | exact rcells_in _ | exact scells_in _ | exact bcells_in _ | assumption) | fail)
    all_goals exact vrl_flat _ hcin
end Go.Proofs.Ytdcodicoclecnaa
/- record: until when a claim holds. No conditions. -/
set_option linter.unusedSimpArgs false
set_option linter.unusedVariables false
namespace Go.Proofs.Ytdcodicoclecnaa
open Go Go.RowKit Lift

/-- the first tick from t on in which h fails, at most so many ticks behind -/
def untF (h : Nat → Bool) : Nat → Nat → Nat
  | 0, t => t
  | n + 1, t => if h t = true then untF h n (t + 1) else t
/-- whether a claim holds in a tick -/
def hAtT (c : Cas) (cl : Nat) (t : Nat) : Bool := holdC c cl (cntT c (t : Int))
def untT (c : Cas) (cl tk : Nat) : Nat := untF (hAtT c cl) (2001 - tk) tk
theorem cntN_fun (c : Cas) (tick : Int) : (cntN c tick).testBit = cntT c tick := funext fun j => cntN_test c tick j
theorem cntN_lt {c : Cas} (hc : CasOk c) (tick : Int) : cntN c tick < 4096 := bits_small _ hc.n2 (Nat.le_refl _)
theorem clmE_ok {c : Cas} {claim tick : Int} (h : clmE c claim tick 122 1 = 0) : CasOk c ∧ ∃ cl tk : Nat, claim = cl ∧ tick = tk ∧ cl < c.cl.length ∧ tk ≤ 2000 := by
  unfold clmE at h
  by_cases hc : CasOk c
  · rw [casE_ok hc, if_neg (by simp)] at h
    split at h
    · rename_i h1
      exact ⟨hc, claim.toNat, tick.toNat, by omega, by omega, by omega, by omega⟩
    · omega
  · rw [casE_no hc, if_pos (by omega)] at h; omega
set_option maxRecDepth 100000 in
set_option maxHeartbeats 4000000 in
theorem until_ok (c : Cas) (hi : CasIn c) (cl tk : Nat) (h0 : clmE c cl tk 122 1 = 0) : AC Try.prog 37 [casD c, dI cl, dI tk] [] [] (if untT c cl tk = tk then .tup [dI 0, dI 3] else .tup [dI ((untT c cl tk : Nat) - 1 : Int), dI 0]) := by
  refine krecord_Until.ac (n0 := 0) (by simp) ⟨in_cas _ _, .val _, .val _, trivial⟩ trivial rfl ?_
  obtain ⟨hc, cl', tk', e1, e2, hcl, htk⟩ := clmE_ok h0
  obtain rfl : cl = cl' := by omega
  obtain rfl : tk = tk' := by omega
  have ck := ccheck_ac c hi cl tk
  rw [h0] at ck
  have hh := fun t : Nat => holds_ac c hc cl hcl (cntN c t) (cntN_lt hc t)
  have cc := fun t : Nat => counting_ac c hc.n2 (t : Int)
  unfold crecord_Until
  unfold casD at *
  (have hg : (987654321 : Nat) - 987654321 = 0 := rfl; have hr := hg; repeat' (first | refine aw_seq ?_ | (refine aw_skip ?_; try simp only [thenQ, blockQ, if_true, if_false, Nat.reduceEqDiff, reduceCtorEq]) | (refine aw_exit ?_; try simp only [thenQ, blockQ, if_true, if_false, Nat.reduceEqDiff, reduceCtorEq]) | refine aw_ret ?_ | refine aw_block ?_ | refine aw_condT rfl ?_ | refine aw_condF rfl ?_ | ((first | refine aw_region ?_ | refine acall0 (ck) ?_ | refine ago_if (by omega) ?_ | skip); simp (config := {maxSteps := 10000000}) (disch := first | exact okYes (by kernel_rfl) | omega) only [thenQ, List.map, dI, List.length, Nat.zero_add, Nat.reduceAdd, Nat.reduceMul, envOf, ARun_none, AOpRun, aexec, D.isBot, FSt.ev, St.F, ↓eget_h, Bool.false_eq_true, Option.isSome, hget_n, or_self, ↓reduceIte, D.cells, AGo_ok, St.app, putO, eput_c, Nat.reduceBEq, eput_n, cond_false, hups, hput_n, ARun_nil, dropE_c, inL_n, dropE_n, eget_c, hget_c, beq_self_eq_true, cond_true, Nat.reduceLeDiff, List.drop, List.take, inL_c, isSh, Option.map, abin, bne_self_eq_false])))
  refine aw_loop (fun t : Nat => ⟨[(1, dI cl), (2, dI tk), (3, .ptr 0 0), (9, dI t)], [(0, [.list (cls c.cl), .list (sps c.pf)])], 400⟩) (fun t => tk ≤ t ∧ t ≤ 2001 ∧ untF (hAtT c cl) (2001 - t) t = untT c cl tk) (fun t => 2001 - t) ⟨tk, ⟨by omega, by omega, rfl⟩, ?_⟩ ?_
  · refine wk_to [] [(0, 0)] (by kernel_rfl) (by kernel_rfl) (by kernel_rfl) (by kernel_rfl) (by kernel_rfl) ?_ ?_ <;> repeat' (first | exact trivial | exact vr_val _ | exact vr_list _ | exact vr_ptr _ _ _ rfl | refine And.intro ⟨_, rfl, .inl ⟨_, rfl, by decide, ?_⟩⟩ ?_ | apply And.intro)
  rintro t ⟨ht1, ht2, hu⟩
  have ht := hh t
  rw [cntN_fun] at ht
  have ct := cc t
  generalize cntN c t = p at ht ct
  by_cases hle : t ≤ 2000
  case neg =>
    obtain rfl : t = 2001 := by omega
    have e : untT c cl tk = 2001 := by rw [← hu]; rfl
    rw [e, if_neg (by omega)]
    (have hg : (987654321 : Nat) - 987654321 = 0 := rfl; have hr := hg; repeat' (first | refine aw_seq ?_ | (refine aw_skip ?_; try simp only [thenQ, blockQ, if_true, if_false, Nat.reduceEqDiff, reduceCtorEq]) | (refine aw_exit ?_; try simp only [thenQ, blockQ, if_true, if_false, Nat.reduceEqDiff, reduceCtorEq]) | refine aw_ret ?_ | refine aw_block ?_ | refine aw_condT rfl ?_ | refine aw_condF rfl ?_ | (refine aw_cond rfl (fun hg => ?_) (fun hg => ?_) <;> (try (have hq := hg; simp only [Bool.not_eq_true', Bool.not_eq_false', Bool.and_eq_true, Bool.and_eq_false_iff, Bool.or_eq_true, Bool.or_eq_false_iff, decide_eq_true_eq, decide_eq_false_iff_not, bne_iff_ne, beq_iff_eq, beq_eq_false_iff_ne, bne_eq_false_iff_eq, ne_eq, Int.not_lt, Int.not_le, Decidable.not_not] at hq)) <;> (try (have hr := hg; simp only [decide_eq_true_eq, decide_eq_false_iff_not] at hr)) <;> (try (exfalso; omega))) | ((first | refine aw_region ?_ | refine ago_if (by omega) ?_ | skip); simp (config := {maxSteps := 10000000}) (disch := first | exact okYes (by kernel_rfl) | omega) only [thenQ, hg, dI, cast_lit, Int.reduceSub, List.length, Nat.zero_add, Nat.reduceAdd, Nat.reduceMul, ARun_none, AOpRun, aexec, FSt.ev, St.F, eget_c, Nat.reduceBEq, ↓eget_h, cond_false, AGo_ok, St.app, putO, eput_c, eput_n, hups, List.map, isSh, Bool.false_eq_true, ↓reduceIte, Option.map, abin, Int.reduceLE, decide_false, ARun_some, AG_ft, ARun_nil, dropE_c, inL_c, inL_n, beq_self_eq_true, cond_true, dropE_n, fits])))
    all_goals (refine end_to [] [] (by first | exact .inl rfl | exact .inr rfl) rfl (by kernel_rfl) (by kernel_rfl) (by kernel_rfl) ?_ ?_ <;> repeat' (first | exact trivial | exact vr_val _ | apply vr_tup | apply And.intro))
  have q1 : decide ((t : Int) ≤ 2000) = true := decide_eq_true (by omega)
  cases hv : holdC c cl (cntT c (t : Int)) with
  | false =>
    rw [hv] at ht
    have e : untT c cl tk = t := by
      rw [← hu, show 2001 - t = (2000 - t) + 1 by omega]
      unfold untF
      rw [if_neg (by unfold hAtT; simp [hv])]
    rw [e]
    by_cases hte : t = tk
    · subst hte
      rw [if_pos rfl]
      (have hg : (987654321 : Nat) - 987654321 = 0 := rfl; have hr := hg; repeat' (first | refine aw_seq ?_ | (refine aw_skip ?_; try simp only [thenQ, blockQ, if_true, if_false, Nat.reduceEqDiff, reduceCtorEq]) | (refine aw_exit ?_; try simp only [thenQ, blockQ, if_true, if_false, Nat.reduceEqDiff, reduceCtorEq]) | refine aw_ret ?_ | refine aw_block ?_ | refine aw_condT rfl ?_ | refine aw_condF rfl ?_ | ((first | refine aw_region ?_ | refine acall0 (ct) ?_ | refine acall0 (ht) ?_ | refine ago_if (by omega) ?_ | skip); simp (config := {maxSteps := 10000000}) (disch := first | exact okYes (by kernel_rfl) | omega) only [thenQ, dI, List.length, Nat.zero_add, Nat.reduceAdd, Nat.reduceMul, ARun_none, AOpRun, aexec, FSt.ev, St.F, eget_c, Nat.reduceBEq, ↓eget_h, cond_false, AGo_ok, St.app, putO, eput_c, eput_n, hups, List.map, isSh, Bool.false_eq_true, ↓reduceIte, Option.map, abin, q1, ARun_some, AG_tt, hget_c, beq_self_eq_true, hget_n, cond_true, Nat.reduceLeDiff, List.drop, List.take, dB, ARun_nil, dropE_c, inL_c, inL_n, dropE_n])))
      all_goals (refine end_to [] [] (by first | exact .inl rfl | exact .inr rfl) rfl (by kernel_rfl) (by kernel_rfl) (by kernel_rfl) ?_ ?_ <;> repeat' (first | exact trivial | exact vr_val _ | apply vr_tup | apply And.intro))
    · rw [if_neg hte]
      have q2 : ((t : Int) == (tk : Int)) = false := by simp only [beq_eq_false_iff_ne]; omega
      (have hg : (987654321 : Nat) - 987654321 = 0 := rfl; have hr := hg; repeat' (first | refine aw_seq ?_ | (refine aw_skip ?_; try simp only [thenQ, blockQ, if_true, if_false, Nat.reduceEqDiff, reduceCtorEq]) | (refine aw_exit ?_; try simp only [thenQ, blockQ, if_true, if_false, Nat.reduceEqDiff, reduceCtorEq]) | refine aw_ret ?_ | refine aw_block ?_ | refine aw_condT rfl ?_ | refine aw_condF rfl ?_ | ((first | refine aw_region ?_ | refine acall0 (ct) ?_ | refine acall0 (ht) ?_ | refine ago_if (by omega) ?_ | skip); simp (config := {maxSteps := 10000000}) (disch := first | exact okYes (by kernel_rfl) | omega) only [thenQ, dI, List.length, Nat.zero_add, Nat.reduceAdd, Nat.reduceMul, ARun_none, AOpRun, aexec, FSt.ev, St.F, eget_c, Nat.reduceBEq, ↓eget_h, cond_false, AGo_ok, St.app, putO, eput_c, eput_n, hups, List.map, isSh, Bool.false_eq_true, ↓reduceIte, Option.map, abin, q1, ARun_some, AG_tt, hget_c, beq_self_eq_true, hget_n, cond_true, Nat.reduceLeDiff, List.drop, List.take, dB, ARun_nil, dropE_c, inL_c, inL_n, dropE_n, q2, fits])))
      all_goals (refine end_to [] [] (by first | exact .inl rfl | exact .inr rfl) rfl (by kernel_rfl) (by kernel_rfl) (by kernel_rfl) ?_ ?_ <;> repeat' (first | exact trivial | exact vr_val _ | apply vr_tup | apply And.intro))
  | true =>
    rw [hv] at ht
    have e : untF (hAtT c cl) (2001 - (t + 1)) (t + 1) = untT c cl tk := by
      rw [← hu, show 2001 - t = (2001 - (t + 1)) + 1 by omega]
      conv => rhs; unfold untF
      rw [if_pos (by unfold hAtT; exact hv)]
    (have hg : (987654321 : Nat) - 987654321 = 0 := rfl; have hr := hg; repeat' (first | refine aw_seq ?_ | (refine aw_skip ?_; try simp only [thenQ, blockQ, if_true, if_false, Nat.reduceEqDiff, reduceCtorEq]) | (refine aw_exit ?_; try simp only [thenQ, blockQ, if_true, if_false, Nat.reduceEqDiff, reduceCtorEq]) | refine aw_ret ?_ | refine aw_block ?_ | refine aw_condT rfl ?_ | refine aw_condF rfl ?_ | ((first | refine aw_region ?_ | refine acall0 (ct) ?_ | refine acall0 (ht) ?_ | refine ago_if (by omega) ?_ | skip); simp (config := {maxSteps := 10000000}) (disch := first | exact okYes (by kernel_rfl) | omega) only [thenQ, dI, List.length, Nat.zero_add, Nat.reduceAdd, Nat.reduceMul, ARun_none, AOpRun, aexec, FSt.ev, St.F, eget_c, Nat.reduceBEq, ↓eget_h, cond_false, AGo_ok, St.app, putO, eput_c, eput_n, hups, List.map, isSh, Bool.false_eq_true, ↓reduceIte, Option.map, abin, q1, ARun_some, AG_tt, hget_c, beq_self_eq_true, hget_n, cond_true, Nat.reduceLeDiff, List.drop, List.take, dB, ARun_nil, dropE_c, inL_c, inL_n, dropE_n, blockQ, fits])))
    refine ⟨t + 1, ⟨by omega, by omega, e⟩, by omega, ?_⟩
    refine wk_to [] [(0, 0)] (by kernel_rfl) (by kernel_rfl) (by kernel_rfl) (by kernel_rfl) (by kernel_rfl) ?_ ?_ <;> repeat' (first | exact trivial | exact vr_val _ | exact vr_list _ | exact vr_ptr _ _ _ rfl | refine And.intro ⟨_, rfl, .inl ⟨_, rfl, by decide, ?_⟩⟩ ?_ | apply And.intro)
end Go.Proofs.Ytdcodicoclecnaa
/- law12: the example and what is made of it. No conditions. -/
set_option linter.unusedSimpArgs false
set_option linter.unusedVariables false
namespace Go.Proofs.Ytdcodicoclecnaa
open Go Go.RowKit Lift

def exL : Lay := ⟨4, 100, 200, 300, 400, [⟨1, 0, 8, true, 1, 2, 10, 1, 0⟩, ⟨2, 4, 3, false, 5, 1, 0, 2, 1⟩, ⟨3, 0, 1, false, 1, 1, 0, 1, 0⟩]⟩
def exF : List (List Int) := [[100, 4, 0, 0], [200, 254, 48, 1], [300, 6, 0, 0]]
def exC : Cas := ⟨[⟨[], [0, 1], false⟩, ⟨[0], [2], true⟩, ⟨[0, 1], [], false⟩], [(0, 10), (5, 20), (8, 30)]⟩
theorem exC_ok : CasOk exC := ⟨by decide, by decide, by decide, by decide⟩
theorem exC_in : CasIn exC := ⟨by decide, by decide, fun i => by
  rcases i with _ | _ | _ | i <;> simp [exC, clAt, cl0], fun i => by
  rcases i with _ | _ | _ | i <;> simp [exC, clAt, cl0]⟩
theorem exU : untT exC 1 5 = 31 := by decide
theorem exE : clmE exC ((1 : Nat) : Int) ((5 : Nat) : Int) 122 1 = 0 := by
  unfold clmE
  rw [casE_ok exC_ok]
  decide
theorem exL_in : LayIn exL := ⟨by decide, fun k hk => by
  rcases (by have : exL.fl.length = 3 := rfl
             omega : k = 0 ∨ k = 1 ∨ k = 2) with rfl | rfl | rfl <;> decide⟩
def isV : D → Bool
  | .val _ => true
  | .list _ => true
  | _ => false
theorem vals_in {S : Nat → Prop} {c : List D} (h : c.all isV = true) : ∀ d ∈ c, In S d := fun d hd => by
  have := List.all_eq_true.1 h d hd
  cases d <;> first | exact .val _ | exact .list _ | (simp [isV] at this)
set_option maxRecDepth 100000 in
set_option maxHeartbeats 4000000 in
theorem example_ac : AC Try.prog 64 [] [] [] (.tup [layD exL, .list (rows exF), casD exC]) := by
  refine klaw12_Example.ac (n0 := 0) (by simp) trivial trivial rfl ?_
  unfold claw12_Example
  refine aw_seq (aw_region ?_)
  simp (config := {maxSteps := 10000000}) (disch := first | exact okYes (by kernel_rfl) | omega) only [thenQ, List.map, List.length, Nat.zero_add, Nat.reduceAdd, Nat.reduceMul, envOf, ARun_none, AOpRun, aexec, Option.isSome, hget_n, Bool.false_eq_true, ↓reduceIte, AGo_ok, St.app, putO, eput_n, hups, hput_n, FSt.ev, eput_c, Nat.reduceBEq, cond_false, hget_c, hput_c, ARun_nil, dropE_c, inL_n, dropE_n]
  refine aw_seq (aw_region ?_)
  simp (config := {maxSteps := 10000000}) (disch := first | exact okYes (by kernel_rfl) | omega) only [thenQ, List.length, Nat.zero_add, Nat.reduceAdd, Nat.reduceMul, ARun_none, AOpRun, aexec, Option.map, fillD, D.isBot, FSt.ev, Bool.false_eq_true, D.cells, ne_eq, not_true_eq_false, Nat.reduceGT, or_self, ↓reduceIte, splice, List.take, List.nil_append, List.drop, List.cons_append, List.append_nil, AGo_ok, St.app, putO, eput_c, Nat.reduceBEq, eput_n, cond_false, hups, List.map, Option.isSome, hget_c, hget_n, St.F, eget_c, ↓eget_h, hput_c, hput_n, ↓hget_h, Nat.reduceLeDiff, List.all, D.leaf, Bool.and_true, and_self, beq_self_eq_true, cond_true, ARun_nil, dropE_c, inL_c, inL_n, dropE_n]
  refine aw_wk (s' := ⟨[(0, .ptr 0 0), (2, .ptr 16 0), (3, .ptr 32 0)], [(0, [.val (.int .i64 0), .val (.int .i64 0), .val (.int .i64 0), .val (.int .i64 0), .val (.int .i64 0), .val (.slice none 0 0)]), (16, [.val (.slice none 0 0), .val (.slice none 0 0)]), (32, layC exL)], 100⟩) ?_ ?_
  · unfold layC dI exL
    refine wk_to [56] [(0, 0), (16, 16), (32, 72)] (by kernel_rfl) (by kernel_rfl) (by kernel_rfl) (by kernel_rfl) (by kernel_rfl) ?_ ?_ <;> repeat' (first | exact trivial | exact vr_val _ | exact vr_ptr _ _ _ rfl | refine vr_fl _ _ _ _ _ (by decide) rfl ?_ ?_ ?_ ?_ | refine And.intro ⟨_, rfl, .inl ⟨_, rfl, by decide, ?_⟩⟩ ?_ | apply And.intro)
    all_goals first | exact fls_nine _ | exact rfl | exact vals_in rfl
  refine aw_seq (aw_region_cut [⟨some 11, .buildSl 1 2 [(.val (.int .i64 0)), (.val (.int .i64 0))] [(0, 1, (.const (.int .i64 0))), (1, 1, (.const (.int .i64 1)))], none, []⟩,
     ⟨some 12, .build [(.val (.slice none 0 0)), (.val (.slice none 0 0)), (.val (.bool false))] [(1, 1, (.tmp 11))], none, []⟩,
     ⟨some 13, .buildSl 1 1 [(.val (.int .i64 0))] [(0, 1, (.const (.int .i64 0)))], none, []⟩,
     ⟨some 14, .buildSl 1 1 [(.val (.int .i64 0))] [(0, 1, (.const (.int .i64 2)))], none, []⟩,
     ⟨some 15, .build [(.val (.slice none 0 0)), (.val (.slice none 0 0)), (.val (.bool false))] [(0, 1, (.tmp 13)), (1, 1, (.tmp 14)), (2, 1, (.const (.bool true)))], none, []⟩,
     ⟨some 16, .buildSl 1 2 [(.val (.int .i64 0)), (.val (.int .i64 0))] [(0, 1, (.const (.int .i64 0))), (1, 1, (.const (.int .i64 1)))], none, []⟩,
     ⟨some 17, .build [(.val (.slice none 0 0)), (.val (.slice none 0 0)), (.val (.bool false))] [(0, 1, (.tmp 16))], none, []⟩]
    [⟨some 18, .buildSl 3 3 [(.val (.slice none 0 0)), (.val (.slice none 0 0)), (.val (.bool false)), (.val (.slice none 0 0)), (.val (.slice none 0 0)), (.val (.bool false)), (.val (.slice none 0 0)), (.val (.slice none 0 0)), (.val (.bool false))] [(0, 3, (.tmp 12)), (3, 3, (.tmp 15)), (6, 3, (.tmp 17))], none, []⟩,
     ⟨some 19, .build [(.val (.int .i64 0)), (.val (.int .i64 0))] [(1, 1, (.const (.int .i64 10)))], none, []⟩,
     ⟨some 20, .build [(.val (.int .i64 0)), (.val (.int .i64 0))] [(0, 1, (.const (.int .i64 5))), (1, 1, (.const (.int .i64 20)))], none, []⟩,
     ⟨some 21, .build [(.val (.int .i64 0)), (.val (.int .i64 0))] [(0, 1, (.const (.int .i64 8))), (1, 1, (.const (.int .i64 30)))], none, []⟩,
     ⟨some 22, .buildSl 2 3 [(.val (.int .i64 0)), (.val (.int .i64 0)), (.val (.int .i64 0)), (.val (.int .i64 0)), (.val (.int .i64 0)), (.val (.int .i64 0))] [(0, 2, (.tmp 19)), (2, 2, (.tmp 20)), (4, 2, (.tmp 21))], none, []⟩,
     ⟨some 23, .build [(.val (.slice none 0 0)), (.val (.slice none 0 0))] [(0, 1, (.tmp 18)), (1, 1, (.tmp 22))], none, []⟩,
     ⟨some 4, .mem [(.val (.slice none 0 0)), (.val (.slice none 0 0))], none, []⟩,
     ⟨none, .store 2 (.tmp 4) (.tmp 23), none, []⟩] ?_)
  simp (config := {maxSteps := 10000000}) (disch := first | exact okYes (by kernel_rfl) | omega) only [List.length, Nat.zero_add, Nat.reduceAdd, Nat.reduceMul, thenQ, ARun_none, AOpRun, aexec, Option.isSome, Option.map, fillD, D.isBot, FSt.ev, St.F, D.cells, ne_eq, Nat.reduceGT, or_false, splice, List.take, List.nil_append, hget_c, Nat.reduceBEq, hget_n, cond_false, Bool.false_eq_true, ↓reduceIte, not_true_eq_false, or_self, List.drop, List.cons_append, List.append_nil, AGo_ok, St.app, putO, eput_c, eput_n, hups, hput_c, hput_n, List.map, eget_c, ↓eget_h, ARun_nil]
  refine ⟨⟨[(0, .ptr 0 0), (2, .ptr 16 0), (3, .ptr 32 0), (12, .agg [.list (ints []), .list (ints [0, 1]), dB false]), (15, .agg [.list (ints [0]), .list (ints [2]), dB true]), (17, .agg [.list (ints [0, 1]), .list (ints []), dB false])], [(0, [.val (.int .i64 0), .val (.int .i64 0), .val (.int .i64 0), .val (.int .i64 0), .val (.int .i64 0), .val (.slice none 0 0)]), (16, [.val (.slice none 0 0), .val (.slice none 0 0)]), (32, layC exL)], 200⟩, ?_, of_decide_eq_true (by kernel_rfl), ?_⟩
  · unfold dB
    refine wk_to [100, 116, 124, 140] [(0, 0), (16, 16), (32, 32)] (by kernel_rfl) (by kernel_rfl) (by kernel_rfl) (by kernel_rfl) (by kernel_rfl) ?_ ?_ <;> repeat' (first | exact trivial | exact vr_val _ | exact vr_list _ | exact vr_nil | exact vr_ptr _ _ _ rfl | apply vr_agg | refine vr_fl _ _ _ _ _ (by decide) rfl ?_ ?_ ?_ ?_ | refine And.intro ⟨_, rfl, .inl ⟨_, rfl, by decide, ?_⟩⟩ ?_ | apply And.intro)
    all_goals first | exact ints_one _ | exact rfl | exact vals_in rfl | exact vrl_flat _ (vals_in rfl)
  simp (config := {maxSteps := 10000000}) (disch := first | exact okYes (by kernel_rfl) | omega) only [Nat.reduceSub, Nat.reduceAdd, hget_c, Nat.reduceBEq, hget_n, cond_false, Bool.false_eq_true, ↓reduceIte, eget_c, ↓eget_h, List.length, Nat.zero_add, not_true_eq_false, or_self, List.drop, List.cons_append, List.nil_append, Nat.reduceGT, List.take, List.append_nil, AGo_ok, St.app, putO, eput_c, eput_n, hups, hput_c, hput_n, List.map, ARun_none, AOpRun, aexec, Option.map, fillD, D.isBot, FSt.ev, D.cells, ne_eq, splice, Option.isSome, Nat.reduceMul, St.F, ↓hget_h, Nat.reduceLeDiff, List.all, D.leaf, Bool.and_true, and_self, beq_self_eq_true, cond_true, ARun_nil, dropE_c, inL_c, inL_n, dropE_n]
  refine aw_wk (s' := ⟨[(0, .ptr 0 0), (2, .ptr 16 0), (3, .ptr 32 0), (4, .ptr 40 0)], [(0, [.val (.int .i64 0), .val (.int .i64 0), .val (.int .i64 0), .val (.int .i64 0), .val (.int .i64 0), .val (.slice none 0 0)]), (16, [.val (.slice none 0 0), .val (.slice none 0 0)]), (32, layC exL), (40, [.list (cls exC.cl), .list (sps exC.pf)])], 400⟩) ?_ ?_
  · refine wk_to [200, 232] [(0, 0), (16, 16), (32, 32), (40, 248)] (by kernel_rfl) (by kernel_rfl) (by kernel_rfl) (by kernel_rfl) (by kernel_rfl) ?_ ?_ <;> repeat' (first | exact trivial | exact vr_val _ | exact vr_list _ | exact vr_ptr _ _ _ rfl | refine vr_fl _ _ _ _ _ (by decide) rfl ?_ ?_ ?_ ?_ | refine And.intro ⟨_, rfl, .inl ⟨_, rfl, by decide, ?_⟩⟩ ?_ | apply And.intro)
    all_goals first | exact cls_three _ | exact sps_two _ | exact rfl | exact vals_in rfl | exact vrl_flat _ (vals_in rfl)
  unfold layC exL
  refine aw_seq (aw_region ?_)
  simp (config := {maxSteps := 10000000}) (disch := first | exact okYes (by kernel_rfl) | omega) only [thenQ, List.length, Nat.zero_add, Nat.reduceAdd, Nat.reduceMul, dI, ARun_none, AOpRun, aexec, FSt.ev, St.F, eget_c, Nat.reduceBEq, ↓eget_h, cond_false, hget_c, ↓hget_h, Nat.reduceLeDiff, ↓reduceIte, List.drop, List.take, AGo_ok, St.app, putO, eput_c, eput_n, hups, List.map, Option.isSome, hget_n, Bool.false_eq_true, Option.map, fillD, D.isBot, D.cells, ne_eq, not_true_eq_false, Nat.reduceGT, or_self, splice, List.nil_append, List.cons_append, List.append_nil, hput_c, hput_n, beq_self_eq_true, cond_true, List.all, D.leaf, Bool.and_true, and_self, ARun_nil, dropE_c, inL_c, inL_n, dropE_n]
  refine aw_wk (s' := ⟨[(0, .ptr 0 0), (1, .vec 432 3 1), (2, .ptr 16 0)], [(0, layC exL), (16, [.list (cls exC.cl), .list (sps exC.pf)]), (432, [.list (ints [100, 4, 0, 0]), .list (ints [200, 254, 48, 1]), .list (ints [300, 6, 0, 0])])], 500⟩) ?_ ?_
  · unfold layC dI exL
    refine wk_to [408, 416, 424] [(0, 0), (16, 16), (432, 432)] (by kernel_rfl) (by kernel_rfl) (by kernel_rfl) (by kernel_rfl) (by kernel_rfl) ?_ ?_ <;> repeat' (first | exact trivial | exact vr_val _ | exact vr_list _ | exact vr_vec _ _ _ _ rfl | exact vr_ptr _ _ _ rfl | refine vr_fl _ _ _ _ _ (by decide) rfl ?_ ?_ ?_ ?_ | refine And.intro ⟨_, rfl, .inl ⟨_, rfl, by decide, ?_⟩⟩ ?_ | apply And.intro)
    all_goals first | exact ints_one _ | exact rfl | exact vals_in rfl | exact vrl_flat _ (vals_in rfl)
  refine aw_ret ?_
  unfold layD casD
  refine end_to [432] [] (by first | exact .inl rfl | exact .inr rfl) rfl (by kernel_rfl) (by kernel_rfl) (by kernel_rfl) ?_ ?_ <;> repeat' (first | exact trivial | exact vr_val _ | exact vr_list _ | apply vr_agg | apply vr_tup | refine vr_fl _ _ _ _ _ (by decide) rfl ?_ ?_ ?_ ?_ | apply And.intro)
  all_goals first | exact vals_in rfl | exact vrl_flat _ (vals_in rfl) | exact rfl | (intro e he; simp [rows, exF] at he; rcases he with rfl | rfl | rfl <;> rfl)
theorem exL_ok : LayOk exL := ⟨by decide, by decide, by decide, by decide, by decide, fun k hk => by
  rcases (by have : exL.fl.length = 3 := rfl
             omega : k = 0 ∨ k = 1 ∨ k = 2) with rfl | rfl | rfl <;> exact ⟨by decide, by decide, by decide, by decide, by decide, by decide, by decide, by decide, by decide, by decide, by decide, by decide, by decide, by decide⟩, fun i hi k hk s hs h1 h2 h3 => by
  have : exL.fl.length = 3 := rfl
  have h4 := h3.1
  rcases (by omega : i = 1 ∧ k = 0 ∨ i = 2 ∧ k = 0 ∨ i = 2 ∧ k = 1) with ⟨rfl, rfl⟩ | ⟨rfl, rfl⟩ | ⟨rfl, rfl⟩ <;> exact absurd h4 (by decide)⟩
theorem exF_in : FrIn exF := ⟨by decide, fun k => by
  unfold frm
  rcases k with _ | _ | _ | k <;> simp [exF, maxLen]⟩
theorem exP : pkS exL (fAt exL 0) exF 3 = (2, 26) := by decide
theorem exPk : peakR exL exF ((0 : Nat) : Int) = (2, 26, 0) := by
  have h : wfE exL exF [((0 : Nat) : Int)] = 0 := by
    unfold wfE
    rw [if_pos (tpE_ok exL_ok (by decide)), if_pos (by decide)]
  unfold peakR
  rw [if_pos h]
  have : pkS exL (fAt exL ((0 : Nat) : Int).toNat) exF exF.length = (2, 26) := exP
  rw [this, if_neg (by decide)]
set_option maxRecDepth 100000 in
set_option maxHeartbeats 4000000 in
theorem works_ac : AC Try.prog 16 [] [] [] (dB true) := by
  refine klaw12_works.ac (n0 := 0) (by simp) trivial trivial rfl ?_
  have ex := example_ac
  have pk := peak_ac exL exF ((0 : Nat) : Int) exL_in exF_in
  rw [exPk] at pk
  have un := until_ok exC exC_in 1 5 exE
  rw [exU, if_neg (by decide)] at un
  unfold claw12_works
  unfold layD casD layC at *
  (have hg : (987654321 : Nat) - 987654321 = 0 := rfl; have hr := hg; repeat' (first | refine aw_seq ?_ | (refine aw_skip ?_; try simp only [thenQ, blockQ, if_true, if_false, Nat.reduceEqDiff, reduceCtorEq]) | (refine aw_exit ?_; try simp only [thenQ, blockQ, if_true, if_false, Nat.reduceEqDiff, reduceCtorEq]) | refine aw_ret ?_ | refine aw_block ?_ | refine aw_condT rfl ?_ | refine aw_condF rfl ?_ | ((first | refine aw_region ?_ | refine acall0 (ex) ?_ | refine acall0 (pk) ?_ | refine acall0 (un) ?_ | refine ago_if (by omega) ?_ | skip); simp (config := {maxSteps := 10000000}) (disch := first | exact okYes (by kernel_rfl) | omega) only [thenQ, List.map, dB, List.length, Nat.zero_add, Nat.reduceMul, envOf, ARun_none, AOpRun, aexec, FSt.ev, AGo_ok, St.app, putO, eput_n, hups, ARun_nil, dropE_c, inL_n, dropE_n, cond_false, Nat.reduceAdd, dI, eput_c, Nat.reduceBEq, St.F, eget_c, ↓eget_h, opt1, Option.map, List.getElem?_cons_zero, List.getElem?_cons_succ, Option.isSome, hget_n, Bool.false_eq_true, ↓reduceIte, hput_n, hget_c, hput_c, beq_self_eq_true, cond_true, D.isBot, D.cells, Nat.reduceLeDiff, List.all, D.leaf, Bool.and_true, and_self, splice, List.take, List.nil_append, List.drop, List.append_nil, ↓hget_h, inL_c, cast_lit, Int.reduceSub, isSh, abin, ARun_some, AG_tt])))
  all_goals (refine end_to [] [] (by first | exact .inl rfl | exact .inr rfl) rfl (by kernel_rfl) (by kernel_rfl) (by kernel_rfl) ?_ ?_ <;> repeat' (first | exact trivial | exact vr_val _))
end Go.Proofs.Ytdcodicoclecnaa
/- law12: copies, comparisons, what is too large. No conditions. -/
set_option linter.unusedSimpArgs false
set_option linter.unusedVariables false
namespace Go.Proofs.Ytdcodicoclecnaa
open Go Go.RowKit Lift

theorem fc_all : ∀ l : List Fl, (flcells l).all isV = true
  | [] => rfl
  | f :: l => by
    have := fc_all l
    unfold flcells at *
    rw [List.flatMap_cons, List.all_append, this]; rfl
theorem fc_leaf : ∀ l : List Fl, (flcells l).all D.leaf = true
  | [] => rfl
  | f :: l => by
    have := fc_leaf l
    unfold flcells at *
    rw [List.flatMap_cons, List.all_append, this]; rfl
set_option maxRecDepth 100000 in
set_option maxHeartbeats 2000000 in
theorem copyL_ac (l : Lay) (hn : l.fl.length ≤ 1000) : AC Try.prog 31 [layD l] [] [] (layD l) := by
  refine kref12_CopyLayout.ac (n0 := 0) (by simp) ⟨in_layD _ _, trivial⟩ trivial rfl ?_
  unfold cref12_CopyLayout layD layC
  have a1 := fls_len l.fl
  have a2 := fls_all l.fl
  have a3 := fls_flat l.fl
  have a4 := fc_leaf l.fl
  refine aw_seq (aw_region ?_)
  simp (config := {maxSteps := 10000000}) (disch := first | exact okYes (by kernel_rfl) | omega) only [thenQ, List.map, dI, List.length, Nat.zero_add, Nat.reduceAdd, Nat.reduceMul, envOf, ARun_none, AOpRun, aexec, D.isBot, FSt.ev, St.F, ↓eget_h, Bool.false_eq_true, Option.isSome, hget_n, or_self, ↓reduceIte, D.cells, AGo_ok, St.app, putO, eput_c, Nat.reduceBEq, eput_n, cond_false, hups, hput_n, hget_c, hput_c, ARun_nil, dropE_c, inL_n, dropE_n]
  refine aw_seq (aw_region ?_)
  simp (config := {maxSteps := 10000000}) (disch := first | exact okYes (by kernel_rfl) | omega) only [thenQ, List.length, Nat.zero_add, Nat.reduceAdd, Nat.reduceMul, ARun_none, AOpRun, aexec, FSt.ev, St.F, eget_c, Nat.reduceBEq, ↓eget_h, cond_false, hget_c, beq_self_eq_true, hget_n, cond_true, Nat.reduceLeDiff, ↓reduceIte, List.drop, List.take, AGo_ok, St.app, putO, eput_c, eput_n, hups, List.map, Option.isSome, Bool.false_eq_true, hput_c, hput_n, ↓hget_h, D.isBot, D.cells, List.all, D.leaf, Bool.and_true, and_self, splice, List.nil_append, List.append_nil, ARun_nil, dropE_c, inL_c, inL_n, dropE_n]
  refine aw_seq (aw_region ?_)
  simp (config := {maxSteps := 10000000}) (disch := first | exact okYes (by kernel_rfl) | omega) only [thenQ, List.length, Nat.zero_add, Nat.reduceAdd, Nat.reduceMul, ARun_none, AOpRun, aexec, Option.isSome, hget_c, Nat.reduceBEq, hget_n, cond_false, Bool.false_eq_true, ↓reduceIte, Option.map, fillD, AGo_ok, St.app, putO, eput_c, eput_n, hups, hput_c, hput_n, List.map, FSt.ev, St.F, eget_c, ↓eget_h, run1, beq_self_eq_true, cond_true, List.getElem?_cons_succ, List.getElem?_cons_zero, base, ↓hget_h, Nat.zero_le, and_self, List.take, elems, a2, a1, a3, a4, and_true, ups, List.nil_append, List.cons_append]
  refine ago_if (by omega) ?_
  simp (config := {maxSteps := 10000000}) (disch := first | exact okYes (by kernel_rfl) | omega) only [AGo_ok, Nat.reduceAdd, St.app, putO, eput_c, Nat.reduceBEq, eput_n, cond_false, hups, hput_c, hput_n, hdel_c, beq_self_eq_true, hdel_n, cond_true, List.map, ARun_none, AOpRun, aexec, FSt.ev, St.F, eget_c, ↓eget_h, Nat.zero_add, hget_c, ↓hget_h, D.isBot, D.cells, List.length, Nat.reduceLeDiff, List.all, D.leaf, Bool.and_true, and_self, ↓reduceIte, splice, List.take, List.cons_append, List.nil_append, List.drop, List.append_nil, ARun_nil, dropE_c, inL_c, inL_n, dropE_n]
  refine aw_seq (aw_region ?_)
  simp (config := {maxSteps := 10000000}) (disch := first | exact okYes (by kernel_rfl) | omega) only [thenQ, List.length, Nat.zero_add, Nat.reduceAdd, Nat.reduceMul, ARun_none, AOpRun, aexec, FSt.ev, St.F, eget_c, Nat.reduceBEq, ↓eget_h, cond_false, hget_c, ↓hget_h, Nat.reduceLeDiff, ↓reduceIte, List.drop, List.take, AGo_ok, St.app, putO, eput_c, eput_n, hups, List.map, D.isBot, D.cells, List.all, D.leaf, Bool.and_true, and_self, splice, List.nil_append, List.append_nil, hput_c, beq_self_eq_true, hput_n, cond_true, ARun_nil, dropE_c, inL_c, inL_n, dropE_n]
  refine aw_ret ?_
  refine end_to [64] [] (by first | exact .inl rfl | exact .inr rfl) rfl (by kernel_rfl) (by kernel_rfl) (by kernel_rfl) ?_ ?_ <;> repeat' (first | exact trivial | exact vr_val _ | apply vr_agg | refine vr_fl _ _ _ _ _ (by decide) rfl ?_ ?_ ?_ ?_ | apply And.intro)
  all_goals first | exact fls_nine _ | exact fls_len _ | exact fls_flat _ | exact vals_in (fc_all _)
theorem same_no {α : Type} {a b : List α} {d : α} {k : Nat} (h : a[k]?.getD d ≠ b[k]?.getD d) : a ≠ b := fun e => h (by rw [e])
theorem same_yes {α : Type} {a b : List α} {d : α} (hl : a.length = b.length) (h : ∀ j, j < a.length → a[j]?.getD d = b[j]?.getD d) : a = b := by
  refine List.ext_getElem hl fun j h1 h2 => ?_
  have := h j h1
  simpa [h1, h2] using this
set_option maxRecDepth 100000 in
set_option maxHeartbeats 2000000 in
theorem sameI_ac (a b : List Int) (ha : a.length ≤ 1000000) (hb : b.length ≤ 1000000) : AC Try.prog 29 [.list (ints a), .list (ints b)] [] [] (dB (decide (a = b))) := by
  refine klaw12_sameInts.ac (n0 := 0) (by simp) ⟨.list _, .list _, trivial⟩ trivial rfl ?_
  unfold claw12_sameInts
  by_cases hl : a.length = b.length
  case neg =>
    have q : ((a.length : Int) != (b.length : Int)) = true := by simp only [bne_iff_ne, ne_eq]; omega
    rw [decide_eq_false (fun h => hl (by rw [h]))]
    (have hg : (987654321 : Nat) - 987654321 = 0 := rfl; have hr := hg; repeat' (first | refine aw_seq ?_ | (refine aw_skip ?_; try simp only [thenQ, blockQ, if_true, if_false, Nat.reduceEqDiff, reduceCtorEq]) | (refine aw_exit ?_; try simp only [thenQ, blockQ, if_true, if_false, Nat.reduceEqDiff, reduceCtorEq]) | refine aw_ret ?_ | refine aw_block ?_ | refine aw_condT rfl ?_ | refine aw_condF rfl ?_ | ((first | refine aw_region ?_ | refine ago_if (by omega) ?_ | skip); simp (config := {maxSteps := 10000000}) (disch := first | exact okYes (by kernel_rfl) | omega) only [thenQ, List.map, dB, List.length, Nat.zero_add, Nat.reduceMul, envOf, ARun_none, AOpRun, aexec, FSt.ev, AGo_ok, St.app, putO, eput_c, Nat.reduceBEq, eput_n, cond_false, hups, ARun_nil, dropE_c, inL_n, dropE_n, Nat.reduceAdd, St.F, ↓eget_h, eget_c, ints_len, isSh, Bool.false_eq_true, ↓reduceIte, Option.map, abin, q, inL_c, beq_self_eq_true, cond_true])))
    all_goals (refine end_to [] [] (by first | exact .inl rfl | exact .inr rfl) rfl (by kernel_rfl) (by kernel_rfl) (by kernel_rfl) ?_ ?_ <;> repeat' (first | exact trivial | exact vr_val _))
  have q : ((a.length : Int) != (b.length : Int)) = false := by simp only [bne_eq_false_iff_eq]; omega
  refine aw_seq (aw_region ?_)
  simp (config := {maxSteps := 10000000}) (disch := first | exact okYes (by kernel_rfl) | omega) only [thenQ, List.map, List.length, Nat.zero_add, Nat.reduceMul, envOf, ARun_none, AOpRun, aexec, FSt.ev, AGo_ok, St.app, putO, eput_c, Nat.reduceBEq, eput_n, cond_false, hups, ARun_nil, dropE_c, inL_n, dropE_n]
  refine aw_seq (aw_seq (aw_region ?_))
  simp (config := {maxSteps := 10000000}) (disch := first | exact okYes (by kernel_rfl) | omega) only [thenQ, List.length, Nat.zero_add, Nat.reduceAdd, Nat.reduceMul, ARun_none, AOpRun, aexec, FSt.ev, St.F, ↓eget_h, AGo_ok, St.app, putO, eput_c, Nat.reduceBEq, eput_n, cond_false, hups, List.map, eget_c, ints_len, isSh, Bool.false_eq_true, ↓reduceIte, Option.map, abin, q, ARun_nil, dropE_c, inL_c, inL_n, beq_self_eq_true, cond_true, dropE_n]
  refine aw_condF rfl (aw_skip ?_)
  refine aw_seq (aw_seq (aw_region ?_))
  simp (config := {maxSteps := 10000000}) (disch := first | exact okYes (by kernel_rfl) | omega) only [thenQ, List.length, Nat.zero_add, Nat.reduceMul, Nat.reduceAdd, ARun_none, AOpRun, aexec, FSt.ev, AGo_ok, St.app, putO, eput_c, Nat.reduceBEq, eput_n, cond_false, hups, List.map, ARun_nil, dropE_c, inL_n, dropE_n]
  refine aw_block (aw_loop (fun k : Nat => ⟨[(0, .list (ints a)), (1, .list (ints b)), (5, dI k)], [], 400⟩) (fun k => k ≤ a.length ∧ ∀ j, j < k → a[j]?.getD 0 = b[j]?.getD 0) (fun k => a.length - k) ⟨0, ⟨by omega, fun j hj => by omega⟩, ?_⟩ ?_)
  · refine wk_to [] [] (by kernel_rfl) (by kernel_rfl) (by kernel_rfl) (by kernel_rfl) (by kernel_rfl) ?_ ?_ <;> repeat' (first | exact trivial | exact vr_val _ | exact vr_list _ | apply And.intro)
  rintro k ⟨hk, hin⟩
  by_cases hk2 : k < a.length
  case neg =>
    obtain rfl : k = a.length := by omega
    rw [decide_eq_true (same_yes hl hin)]
    (have hg : (987654321 : Nat) - 987654321 = 0 := rfl; have hr := hg; repeat' (first | refine aw_seq ?_ | (refine aw_skip ?_; try simp only [thenQ, blockQ, if_true, if_false, Nat.reduceEqDiff, reduceCtorEq]) | (refine aw_exit ?_; try simp only [thenQ, blockQ, if_true, if_false, Nat.reduceEqDiff, reduceCtorEq]) | refine aw_ret ?_ | refine aw_block ?_ | refine aw_condT rfl ?_ | refine aw_condF rfl ?_ | (refine aw_cond rfl (fun hg => ?_) (fun hg => ?_) <;> (try (have hq := hg; simp only [Bool.not_eq_true', Bool.not_eq_false', Bool.and_eq_true, Bool.and_eq_false_iff, Bool.or_eq_true, Bool.or_eq_false_iff, decide_eq_true_eq, decide_eq_false_iff_not, bne_iff_ne, beq_iff_eq, beq_eq_false_iff_ne, bne_eq_false_iff_eq, ne_eq, Int.not_lt, Int.not_le, Decidable.not_not] at hq)) <;> (try (have hr := hg; simp only [decide_eq_true_eq, decide_eq_false_iff_not] at hr)) <;> (try (exfalso; omega))) | ((first | refine aw_region ?_ | refine ago_if (by omega) ?_ | skip); simp (config := {maxSteps := 10000000}) (disch := first | exact okYes (by kernel_rfl) | omega) only [thenQ, dI, dB, List.length, Nat.zero_add, Nat.reduceAdd, Nat.reduceMul, ARun_none, AOpRun, aexec, FSt.ev, St.F, eget_c, Nat.reduceBEq, ↓eget_h, cond_false, AGo_ok, St.app, putO, eput_c, eput_n, hups, List.map, ints_len, isSh, Bool.false_eq_true, ↓reduceIte, Option.map, abin, ARun_nil, dropE_c, inL_c, inL_n, beq_self_eq_true, cond_true, dropE_n, hr, decide_false])))
    all_goals (refine end_to [] [] (by first | exact .inl rfl | exact .inr rfl) rfl (by kernel_rfl) (by kernel_rfl) (by kernel_rfl) ?_ ?_ <;> repeat' (first | exact trivial | exact vr_val _))
  have g1 := ints_gd a k hk2
  have g2 := ints_gd b k (by omega)
  cases he : (a[k]?.getD 0 != b[k]?.getD 0) with
  | true =>
    rw [decide_eq_false (same_no (d := 0) (k := k) (by simpa using he))]
    (have hg : (987654321 : Nat) - 987654321 = 0 := rfl; have hr := hg; repeat' (first | refine aw_seq ?_ | (refine aw_skip ?_; try simp only [thenQ, blockQ, if_true, if_false, Nat.reduceEqDiff, reduceCtorEq]) | (refine aw_exit ?_; try simp only [thenQ, blockQ, if_true, if_false, Nat.reduceEqDiff, reduceCtorEq]) | refine aw_ret ?_ | refine aw_block ?_ | refine aw_condT rfl ?_ | refine aw_condF rfl ?_ | (refine aw_cond rfl (fun hg => ?_) (fun hg => ?_) <;> (try (have hq := hg; simp only [Bool.not_eq_true', Bool.not_eq_false', Bool.and_eq_true, Bool.and_eq_false_iff, Bool.or_eq_true, Bool.or_eq_false_iff, decide_eq_true_eq, decide_eq_false_iff_not, bne_iff_ne, beq_iff_eq, beq_eq_false_iff_ne, bne_eq_false_iff_eq, ne_eq, Int.not_lt, Int.not_le, Decidable.not_not] at hq)) <;> (try (have hr := hg; simp only [decide_eq_true_eq, decide_eq_false_iff_not] at hr)) <;> (try (exfalso; omega))) | ((first | refine aw_region ?_ | refine ago_if (by omega) ?_ | skip); simp (config := {maxSteps := 10000000}) (disch := first | exact okYes (by kernel_rfl) | omega) only [thenQ, dI, dB, List.length, Nat.zero_add, Nat.reduceAdd, Nat.reduceMul, ARun_none, AOpRun, aexec, FSt.ev, St.F, eget_c, Nat.reduceBEq, ↓eget_h, cond_false, AGo_ok, St.app, putO, eput_c, eput_n, hups, List.map, ints_len, isSh, Bool.false_eq_true, ↓reduceIte, Option.map, abin, ARun_nil, dropE_c, inL_c, inL_n, beq_self_eq_true, cond_true, dropE_n, hr, decide_true, Int.natCast_nonneg, ints_all, and_self, opt1, Int.toNat_natCast, g1, run1, List.getElem?_cons_zero, g2, he, blockQ])))
    all_goals (refine end_to [] [] (by first | exact .inl rfl | exact .inr rfl) rfl (by kernel_rfl) (by kernel_rfl) (by kernel_rfl) ?_ ?_ <;> repeat' (first | exact trivial | exact vr_val _))
  | false =>
    have he2 : a[k]?.getD 0 = b[k]?.getD 0 := by simpa using he
    (have hg : (987654321 : Nat) - 987654321 = 0 := rfl; have hr := hg; repeat' (first | refine aw_seq ?_ | (refine aw_skip ?_; try simp only [thenQ, blockQ, if_true, if_false, Nat.reduceEqDiff, reduceCtorEq]) | (refine aw_exit ?_; try simp only [thenQ, blockQ, if_true, if_false, Nat.reduceEqDiff, reduceCtorEq]) | refine aw_ret ?_ | refine aw_block ?_ | refine aw_condT rfl ?_ | refine aw_condF rfl ?_ | (refine aw_cond rfl (fun hg => ?_) (fun hg => ?_) <;> (try (have hq := hg; simp only [Bool.not_eq_true', Bool.not_eq_false', Bool.and_eq_true, Bool.and_eq_false_iff, Bool.or_eq_true, Bool.or_eq_false_iff, decide_eq_true_eq, decide_eq_false_iff_not, bne_iff_ne, beq_iff_eq, beq_eq_false_iff_ne, bne_eq_false_iff_eq, ne_eq, Int.not_lt, Int.not_le, Decidable.not_not] at hq)) <;> (try (have hr := hg; simp only [decide_eq_true_eq, decide_eq_false_iff_not] at hr)) <;> (try (exfalso; omega))) | ((first | refine aw_region ?_ | refine ago_if (by omega) ?_ | skip); simp (config := {maxSteps := 10000000}) (disch := first | exact okYes (by kernel_rfl) | omega) only [thenQ, dI, dB, List.length, Nat.zero_add, Nat.reduceAdd, Nat.reduceMul, ARun_none, AOpRun, aexec, FSt.ev, St.F, eget_c, Nat.reduceBEq, ↓eget_h, cond_false, AGo_ok, St.app, putO, eput_c, eput_n, hups, List.map, ints_len, isSh, Bool.false_eq_true, ↓reduceIte, Option.map, abin, ARun_nil, dropE_c, inL_c, inL_n, beq_self_eq_true, cond_true, dropE_n, hr, decide_true, Int.natCast_nonneg, ints_all, and_self, opt1, Int.toNat_natCast, g1, run1, List.getElem?_cons_zero, g2, he, fits])))
    refine ⟨k + 1, ⟨by omega, fun j hj => ?_⟩, by omega, ?_⟩
    · rcases (by omega : j < k ∨ j = k) with h | rfl
      · exact hin j h
      · exact he2
    · refine wk_to [] [] (by kernel_rfl) (by kernel_rfl) (by kernel_rfl) (by kernel_rfl) (by kernel_rfl) ?_ ?_ <;> repeat' (first | exact trivial | exact vr_val _ | exact vr_list _ | apply And.intro)
end Go.Proofs.Ytdcodicoclecnaa
/- The law of Pack. No conditions. -/
set_option linter.unusedSimpArgs false
set_option linter.unusedVariables false
namespace Go.Proofs.Ytdcodicoclecnaa
open Go Go.RowKit Lift

theorem packR_len (l : Lay) (s : Int) (r : List Int) : (packR l s r).length ≤ 32 := by
  unfold packR
  split
  · rename_i h
    have h1 : LayOk l := by
      refine Classical.byContradiction fun hn => ?_
      rw [packE_lay hn] at h; cases h
    rw [pk_len]
    have := h1.w2
    omega
  · simp
end Go.Proofs.Ytdcodicoclecnaa
/- A weaker state within a region that draws its order. No conditions. -/
namespace Go.Proofs.Ytdcodicoclecnaa.Lift
open Go Go.RowKit

theorem wpAny_cut {P : Program} {ops : Array Oper} {base : Nat} {C : Ctx} {K fuel2 : Nat} {L0 : Array Bool} {R : FSt → Prop} {Q' : Exit → Act → World → Prop} (hd : ∀ o ∈ ops, ∀ d, o.dst = some d → d < C.n) (hpl : ∀ o ∈ ops, ∀ c, o.op ≠ .defer c)
    (hR : ∀ s a w β Z, RelS C β Z s a w → FreeB base (fun j => L0.getD j false = true) β → R s → wpAnyIn (Fw C.r) 0 P .any ops Q' fuel2 L0 a w) : ∀ (m : Nat) (listed : Array Bool) (s : FSt) (log : Log) (a : Act) (w : World) (β : Bet) (Z : Blk), listed.size = ops.size →
    RelS C β Z s a w → FreeB base (fun j => listed.getD j false = true) β → aUpTo P ops base K L0 R m listed s log → wpAnyIn (Fw C.r) 0 P .any ops Q' (m + fuel2) listed a w := by
  intro m
  induction m with
  | zero =>
    intro listed s log a w β Z hl h hf ha
    obtain ⟨rfl, h1, h2, h3⟩ := ha
    rw [Nat.zero_add]
    exact hR _ _ _ _ _ h hf h3
  | succ m ih =>
    intro listed s log a w β Z hl h hf ha
    obtain ⟨h1, ⟨j0, h2⟩, h3⟩ := ha
    rw [show m + 1 + fuel2 = (m + fuel2) + 1 by omega]
    refine ⟨fun h0 => (by rw [h0] at h2; cases h2), fun i hi => ?_⟩
    obtain ⟨hun, o, ho, _⟩ := mem_ready.1 hi
    obtain ⟨s', log', hst, hK⟩ := h3 i hi o ho
    have hlt : i < listed.size := by rw [hl]; exact (Array.getElem?_eq_some_iff.1 ho).1
    refine stepA_wpOp (done' := fun j => (listed.setIfInBounds i true).getD j false = true) ho h hd hpl hf ?_ (fun j hj => getD_set_true hj) (by simp [hlt]) hst fun β' Z' a' w' hr hf' => ih _ _ _ _ _ β' Z' (by simp [hl]) hr hf' hK
    simp [hlt] at hun ⊢
    exact hun
/-- the first operations lie before a certain one in each order, the others behind it: between them the state may be made weaker -/
theorem aw_region_cutD {rd : Bool} {P : Program} {n : Nat} {pre : List Nat} {Q : AExit → St → Prop} {s : St} (ops1 : List AOper) (o2 : AOper) (ops2 : List AOper) {drop : List Nat}
    (hg1 : (List.range ops1.length).all (fun i => o2.anc.contains i) = true) (hg2 : ops2.all (fun o => o.anc.contains ops1.length) = true)
    (h : ARun P true s.nx (fun s' => ∃ s0, Wk pre ⟨s'.env, s'.hp, s.nx + 8 * ops1.length⟩ s0 ∧ 8 * ops1.length ≤ s0.nx ∧ ARun P true (s0.nx - 8 * ops1.length) (fun s2 => Q .norm ⟨dropE s2.env drop, s2.hp, s0.nx + 8 * (ops2.length + 1)⟩) (o2 :: ops2) ops1.length s0 []) ops1 0 s []) :
    AWb rd P n pre (.region true (ops1 ++ o2 :: ops2) drop) Q s := fun code keep hc C a w hn hp hd hr => by
  cases code with
  | region id oa draw =>
    simp only [compCode] at hc
    split at hc
    · rename_i al hal
      split at hc
      · rename_i hcond
        cases hc
        obtain ⟨β, Z, hR0, hβ⟩ := hr
        simp only [if_true] at hal
        obtain ⟨hm1, hlexB⟩ := hcond.resolve_left (by simp)
        obtain ⟨ans, hans0⟩ : ∃ ans, ancGo oa.toList [] = ans := ⟨_, rfl⟩
        have hans : ∀ i j, j ∈ (ans[i]?).getD [] → Anc .any oa i j := hans0 ▸ ancGo_sound oa.toList [] (by simp) (by simp)
        rw [hans0] at hal
        obtain ⟨hd', hlen⟩ := compOps_dst _ _ _ hal
        have hpl := compOps_plain _ _ _ hal
        obtain ⟨l1, l2, hl, e1, e2, e3, e4⟩ := compOps_app _ _ _ _ hal
        rw [Nat.zero_add] at e4
        have hdo : ∀ o ∈ oa, ∀ d, o.dst = some d → d < C.n := fun o ho d hdd => hn ▸ hd' o (by simpa using ho) d hdd
        have hplo : ∀ o ∈ oa, ∀ c, o.op ≠ .defer c := fun o ho => hpl o (by simpa using ho)
        have hsz : oa.size = l1.length + l2.length := by have := congrArg List.length hl; simpa using this
        have hl2 : l2.length = ops2.length + 1 := by simpa using e2
        have hget : ∀ j, oa[j]? = (l1 ++ l2)[j]? := fun j => by rw [← hl, Array.getElem?_toList]
        have hKlt : l1.length < oa.size := by omega
        have hancK : o2.anc = (ans[ops1.length]?).getD [] := by
          have := compOps_anc _ _ _ hal ops1.length (by simp)
          simpa using this
        have hanc : ∀ i, i < l1.length → Anc .any oa l1.length i := fun i hi => by
          refine hans _ _ ?_
          rw [e1, ← hancK]
          have := List.all_eq_true.1 hg1 i (by simp; omega)
          simpa using this
        have hdesc : ∀ j, l1.length < j → j < oa.size → Anc .any oa j l1.length := fun j hj hjs => by
          obtain ⟨m, rfl⟩ : ∃ m, j = l1.length + (m + 1) := ⟨j - l1.length - 1, by omega⟩
          have hm : m < ops2.length := by omega
          have h1 := compOps_anc _ _ _ hal (ops1.length + (m + 1)) (by simp; omega)
          rw [List.getElem_append_right (by omega)] at h1
          simp only [Nat.add_sub_cancel_left, List.getElem_cons_succ, Nat.zero_add] at h1
          refine hans _ _ ?_
          rw [e1, ← h1]
          have := List.all_eq_true.1 hg2 _ (List.getElem_mem hm)
          simpa using this
        have hlex : Region.lexFrom .any oa oa.size 0 (firstL oa.size 0) = true := by
          simp only [Region.lexB, Bool.and_eq_true] at hlexB
          rw [firstL_zero]; simpa using hlexB.2
        have hR : RelS C β Z s.F a { w with drawn := w.drawn + 1 } := by
          have h := hR0
          have f : Fr (fun _ => False) w { w with drawn := w.drawn + 1 } := Fr.drawn _ _ _
          exact ⟨h.size, ⟨h.defers.1, fun d hd => (h.defers.2 d hd).mono f (fun _ _ h => h.elim) (fun _ _ h => h)⟩, fun t => (h.env t).mono f (fun _ _ h => h.elim) (Ext.refl β) (fun _ _ h => h), fun g c hc => (h.objs g c hc).mono f (fun _ _ h => h.elim) (fun _ _ h => h) (Ext.refl β) (fun h => h) (fun _ _ => Iff.rfl), h.inj,
            h.fr.trans f (fun _ _ h => h.elim), h.z0, h.old, h.orig, h.ext, h.zlt⟩
        refine wpIn_region_any hm1 ?_
        have hup := wpAny_cut (P := P) (ops := oa) (base := s.nx) (C := C) (K := l1.length) (fuel2 := l2.length) (L0 := firstL oa.size l1.length) (Q' := PostQ C Q) hdo hplo ?_ l1.length (firstL oa.size 0) s.F (fun _ _ => False) a { w with drawn := w.drawn + 1 } β Z (firstL_size _ _) hR (fun g hg hn => absurd (hβ g hg) hn)
          (aUpTo_lex hanc hdesc hKlt l1 0 s.F _ (by simp) (lex_at hlex 0 (by omega)).1 (fun j hj => by rw [Nat.zero_add, hget, List.getElem?_append_left hj]) (by simpa using hlex) (arun_lex hans l1 ops1 0 s [] _ e3 (fun j ef hf => hf.elim) h))
        · rw [firstL_zero, ← hsz] at hup; exact hup
        rintro fs a1 w1 β1 Z1 hR1 hF ⟨s1, rfl, _, s0, hwk, hge, hrun⟩
        obtain ⟨β0, Z0, hR2, hβ0⟩ := hwk C a1 w1 hp ⟨β1, Z1, hR1, fun g hg => by
          cases hb : β1 g with
          | none => rfl
          | some B =>
            simp only at hg
            obtain ⟨j, hj, h1, h2⟩ := hF g (by omega) (by rw [hb]; simp)
            rw [firstL_get] at hj
            split at hj
            · have := of_decide_eq_true hj; omega
            · cases hj⟩
        refine wpAny_of_aAny (P := P) (ops := oa) (dr := true) (base := s0.nx - 8 * ops1.length) (C := C) (Q' := PostQ C Q) hdo hplo
          (Q := fun fs => ∃ s3 : St, fs = s3.F ∧ s3.nx = s0.nx ∧ Q .norm ⟨dropE s3.env _, s3.hp, s0.nx + 8 * (ops2.length + 1)⟩) ?_ l2.length (firstL oa.size l1.length) _ (fun _ _ => False) _ _ β0 Z0 (firstL_size _ _) hR2 (fun g' hg' hn0 => by
            by_cases hgn : s0.nx ≤ g'
            · exact absurd (hβ0 g' hgn) hn0
            · refine ⟨(g' - (s0.nx - 8 * ops1.length)) / 8, ?_, ?_, ?_⟩
              · show (firstL _ _).getD _ _ = true; rw [firstL_get, if_pos (by omega)]; exact decide_eq_true (by omega)
              · omega
              · omega)
          (aAny_lex rfl l2 l1.length _ _ _ (lex_at hlex l1.length (by omega)).1 (fun j => by rw [hget, List.getElem?_append_right (by omega)]; simp)
            (by have := (lex_at hlex l1.length (by omega)).2; rwa [show oa.size - l1.length = l2.length by omega] at this)
            (arun_lex hans l2 (o2 :: ops2) l1.length s0 [] _ (by rw [e1]; exact e4) (fun j ef hf => hf.elim) (by rw [e1]; exact hrun)))
        rintro fs a4 w5 β4 Z4 hR5 hF5 ⟨s3, rfl, _, hQ⟩
        refine ⟨_, hQ, β4, Z4, ⟨hR5.size, hR5.defers, fun t => ?_, hR5.objs, hR5.inj, hR5.fr, hR5.z0, hR5.old, hR5.orig, hR5.ext, hR5.zlt⟩, fun g' hg' => ?_⟩
        · show Rep w5 β4 Z4 _ (eget (dropE s3.env _) t)
          rcases get_drop s3.env _ t with h1 | h1
          · rw [h1]; exact hR5.env t
          · rw [h1]; exact .bot _
        · cases hb : β4 g' with
          | none => rfl
          | some B =>
            simp only at hg'
            obtain ⟨j, hj, h1, h2⟩ := hF5 g' (by omega) (by rw [hb]; simp)
            omega
      · cases hc
    · cases hc
  | seq a b => simp only [compCode] at hc; split at hc <;> cases hc
  | cond c a b => simp only [compCode] at hc; split at hc <;> cases hc
  | block id a => simp [compCode] at hc
  | loop a => simp [compCode] at hc
  | rangeFunc x1 x2 x3 x4 => simp only [compCode] at hc; repeat' (first | (cases hc; done) | split at hc)
  | _ => cases hc
end Go.Proofs.Ytdcodicoclecnaa.Lift
/- The law of packed frames (views last). No conditions. -/
set_option linter.unusedSimpArgs false
set_option linter.unusedVariables false
namespace Go.Proofs.Ytdcodicoclecnaa
open Go Go.RowKit Lift

set_option maxRecDepth 100000 in
set_option maxHeartbeats 16000000 in
theorem lawPacked_ac (l : Lay) (s : Int) (r : List Int) (hl : LayIn l) (hr : r.length ≤ maxLen) : AC Try.prog 6 [layD l, dI s, .list (ints r)] [] [] (dB true) := by
  refine klaw12_RecordPacked.ac (n0 := 0) (by simp) ⟨in_layD _ _, .val _, .list _, trivial⟩ trivial rfl ?_
  unfold claw12_RecordPacked
  have hmax : maxLen = 9223372036854775807 := rfl
  have hnf := hl.nf
  have ck := rcheck_ac l hl
  have c1 := pack_ac l s r hl hr
  cases q1 : decide ((l.fl.length : Int) > 20) with
  | true =>
    unfold layD layC at *
    (have hg : (987654321 : Nat) - 987654321 = 0 := rfl; have hr := hg; repeat' (first | refine aw_seq ?_ | (refine aw_skip ?_; repeat' (first | with_reducible refine thenQ_n ?_ | with_reducible refine blockQ_n ?_ | with_reducible refine thenQ_e ?_ | with_reducible refine blockQ_t ?_ | with_reducible refine blockQ_f (by decide) ?_)) | (refine aw_exit ?_; repeat' (first | with_reducible refine thenQ_n ?_ | with_reducible refine blockQ_n ?_ | with_reducible refine thenQ_e ?_ | with_reducible refine blockQ_t ?_ | with_reducible refine blockQ_f (by decide) ?_)) | refine aw_ret ?_ | refine aw_block ?_ | refine aw_condT rfl ?_ | refine aw_condF rfl ?_ | ((first | refine aw_hide fun K hK => aw_region ?_ | refine acall0 (works_ac) ?_ | refine ago_if (by omega) ?_ | skip); simp (config := {maxSteps := 10000000}) (disch := first | exact okYes (by kernel_rfl) | omega) only [List.length, Nat.zero_add, Nat.reduceAdd, Nat.reduceMul, envOf, dI, ARun_none, AOpRun, aexec, D.isBot, FSt.ev, St.F, ↓eget_h, Bool.false_eq_true, Option.isSome, hget_n, or_self, ↓reduceIte, D.cells, AGo_ok, St.app, putO, eput_c, Nat.reduceBEq, eput_n, cond_false, hups, hput_n, List.map, ARun_nil, dropE_c, inL_n, dropE_n, eget_c, Option.map, run1, hget_c, beq_self_eq_true, cond_true, List.getElem?_cons_succ, List.getElem?_cons_zero, fls_len, isSh, abin, q1, ARun_some, AG_tf, inL_c, dB, thenQ]) | (subst hK; repeat' (first | with_reducible refine thenQ_n ?_ | with_reducible refine blockQ_n ?_ | with_reducible refine thenQ_e ?_ | with_reducible refine blockQ_t ?_ | with_reducible refine blockQ_f (by decide) ?_))))
    all_goals (refine end_to [] [] (by first | exact .inl rfl | exact .inr rfl) rfl (by kernel_rfl) (by kernel_rfl) (by kernel_rfl) ?_ ?_ <;> repeat' (first | exact trivial | exact vr_val _))
  | false =>
  cases q2 : decide ((r.length : Int) > 30) with
  | true =>
    unfold layD layC at *
    (have hg : (987654321 : Nat) - 987654321 = 0 := rfl; have hr := hg; repeat' (first | refine aw_seq ?_ | (refine aw_skip ?_; repeat' (first | with_reducible refine thenQ_n ?_ | with_reducible refine blockQ_n ?_ | with_reducible refine thenQ_e ?_ | with_reducible refine blockQ_t ?_ | with_reducible refine blockQ_f (by decide) ?_)) | (refine aw_exit ?_; repeat' (first | with_reducible refine thenQ_n ?_ | with_reducible refine blockQ_n ?_ | with_reducible refine thenQ_e ?_ | with_reducible refine blockQ_t ?_ | with_reducible refine blockQ_f (by decide) ?_)) | refine aw_ret ?_ | refine aw_block ?_ | refine aw_condT rfl ?_ | refine aw_condF rfl ?_ | ((first | refine aw_hide fun K hK => aw_region ?_ | refine acall0 (works_ac) ?_ | refine ago_if (by omega) ?_ | skip); simp (config := {maxSteps := 10000000}) (disch := first | exact okYes (by kernel_rfl) | omega) only [List.length, Nat.zero_add, Nat.reduceAdd, Nat.reduceMul, envOf, dI, ARun_none, AOpRun, aexec, D.isBot, FSt.ev, St.F, ↓eget_h, Bool.false_eq_true, Option.isSome, hget_n, or_self, ↓reduceIte, D.cells, AGo_ok, St.app, putO, eput_c, Nat.reduceBEq, eput_n, cond_false, hups, hput_n, List.map, ARun_nil, dropE_c, inL_n, dropE_n, eget_c, Option.map, run1, hget_c, beq_self_eq_true, cond_true, List.getElem?_cons_succ, List.getElem?_cons_zero, fls_len, isSh, abin, q1, ARun_some, AG_ff, ints_len, q2, AG_tf, inL_c, dB, thenQ]) | (subst hK; repeat' (first | with_reducible refine thenQ_n ?_ | with_reducible refine blockQ_n ?_ | with_reducible refine thenQ_e ?_ | with_reducible refine blockQ_t ?_ | with_reducible refine blockQ_f (by decide) ?_))))
    all_goals (refine end_to [] [] (by first | exact .inl rfl | exact .inr rfl) rfl (by kernel_rfl) (by kernel_rfl) (by kernel_rfl) ?_ ?_ <;> repeat' (first | exact trivial | exact vr_val _))
  | false =>
  have n1 := of_decide_eq_false q1
  have n2 := of_decide_eq_false q2
  by_cases h1 : LayOk l
  case neg =>
    rw [layE_no h1] at ck
    unfold layD layC at *
    (have hg : (987654321 : Nat) - 987654321 = 0 := rfl; have hr := hg; repeat' (first | refine aw_seq ?_ | (refine aw_skip ?_; repeat' (first | with_reducible refine thenQ_n ?_ | with_reducible refine blockQ_n ?_ | with_reducible refine thenQ_e ?_ | with_reducible refine blockQ_t ?_ | with_reducible refine blockQ_f (by decide) ?_)) | (refine aw_exit ?_; repeat' (first | with_reducible refine thenQ_n ?_ | with_reducible refine blockQ_n ?_ | with_reducible refine thenQ_e ?_ | with_reducible refine blockQ_t ?_ | with_reducible refine blockQ_f (by decide) ?_)) | refine aw_ret ?_ | refine aw_block ?_ | refine aw_condT rfl ?_ | refine aw_condF rfl ?_ | ((first | refine aw_hide fun K hK => aw_region ?_ | refine acall0 (ck) ?_ | refine acall0 (works_ac) ?_ | refine ago_if (by omega) ?_ | skip); simp (config := {maxSteps := 10000000}) (disch := first | exact okYes (by kernel_rfl) | omega) only [List.length, Nat.zero_add, Nat.reduceAdd, Nat.reduceMul, envOf, dI, ARun_none, AOpRun, aexec, D.isBot, FSt.ev, St.F, ↓eget_h, Bool.false_eq_true, Option.isSome, hget_n, or_self, ↓reduceIte, D.cells, AGo_ok, St.app, putO, eput_c, Nat.reduceBEq, eput_n, cond_false, hups, hput_n, List.map, ARun_nil, dropE_c, inL_n, dropE_n, eget_c, Option.map, run1, hget_c, beq_self_eq_true, cond_true, List.getElem?_cons_succ, List.getElem?_cons_zero, fls_len, isSh, abin, q1, ARun_some, AG_ff, ints_len, q2, Nat.reduceLeDiff, List.drop, List.take, Int.reduceBNe, inL_c, dB, thenQ]) | (subst hK; repeat' (first | with_reducible refine thenQ_n ?_ | with_reducible refine blockQ_n ?_ | with_reducible refine thenQ_e ?_ | with_reducible refine blockQ_t ?_ | with_reducible refine blockQ_f (by decide) ?_))))
    all_goals (refine end_to [] [] (by first | exact .inl rfl | exact .inr rfl) rfl (by kernel_rfl) (by kernel_rfl) (by kernel_rfl) ?_ ?_ <;> repeat' (first | exact trivial | exact vr_val _))
  rw [layE_ok h1] at ck
  have cl := copyL_ac l (by omega)
  have hpl := packR_len l s r
  have hpz := packE_zero (l := l) (s := s) (r := r)
  have hpo := packR_ok (l := l) (s := s) (r := r)
  have hgo : ∀ P : List Int, P.length ≤ 32 → FrIn [P] := fun P hP => ⟨by show 1 ≤ maxLen; omega, fun k => by
    unfold frm
    rcases k with _ | k
    · simp; omega
    · simp⟩
  have w1 := h1.w1
  have w2 := h1.w2
  unfold layD layC at ck c1 cl ⊢
  refine aw_seq (aw_region ?_)
  simp (config := {maxSteps := 10000000}) (disch := first | exact okYes (by kernel_rfl) | omega) only [thenQ, List.map, List.length, Nat.zero_add, Nat.reduceAdd, Nat.reduceMul, envOf, dI, ARun_none, AOpRun, aexec, D.isBot, FSt.ev, St.F, ↓eget_h, Bool.false_eq_true, Option.isSome, hget_n, or_self, ↓reduceIte, D.cells, AGo_ok, St.app, putO, eput_c, Nat.reduceBEq, eput_n, cond_false, hups, hput_n, ARun_nil, dropE_c, inL_n, dropE_n]
  refine aw_seq (aw_seq (aw_region ?_))
  simp (config := {maxSteps := 10000000}) (disch := first | exact okYes (by kernel_rfl) | omega) only [thenQ, dB, List.length, Nat.zero_add, Nat.reduceAdd, Nat.reduceMul, ARun_none, AOpRun, aexec, FSt.ev, St.F, eget_c, Nat.reduceBEq, ↓eget_h, cond_false, AGo_ok, St.app, putO, eput_c, eput_n, hups, List.map, Option.map, run1, hget_c, beq_self_eq_true, hget_n, cond_true, List.getElem?_cons_succ, List.getElem?_cons_zero, fls_len, isSh, Bool.false_eq_true, ↓reduceIte, abin, q1, ARun_some, AG_ff, ints_len, q2, Nat.reduceLeDiff, List.drop, List.take]
  refine acall0 ck ?_
  simp (config := {maxSteps := 10000000}) (disch := first | exact okYes (by kernel_rfl) | omega) only [Nat.reduceAdd, St.app, putO, dI, eput_c, Nat.reduceBEq, eput_n, cond_false, hups, ARun_some, eget_c, ↓eget_h, AG_ff, AOpRun, aexec, FSt.ev, St.F, isSh, Bool.false_eq_true, ↓reduceIte, Option.map, abin, bne_self_eq_false, AGo_ok, List.map, ARun_none, ARun_nil, dropE_c, inL_c, inL_n, beq_self_eq_true, cond_true, dropE_n]
  refine aw_condF rfl (aw_skip ?_)
  refine aw_seq (aw_region ?_)
  simp (config := {maxSteps := 10000000}) (disch := first | exact okYes (by kernel_rfl) | omega) only [thenQ, List.length, Nat.zero_add, Nat.reduceAdd, Nat.reduceMul, ARun_none, AOpRun, aexec, FSt.ev, St.F, eget_c, Nat.reduceBEq, ↓eget_h, cond_false, hget_c, beq_self_eq_true, hget_n, cond_true, Nat.reduceLeDiff, ↓reduceIte, List.drop, List.take, AGo_ok, St.app, putO, eput_c, eput_n, hups, List.map]
  refine acall0 cl ?_
  simp (config := {maxSteps := 10000000}) (disch := first | exact okYes (by kernel_rfl) | omega) only [Nat.reduceAdd, St.app, putO, dI, eput_c, Nat.reduceBEq, eput_n, cond_false, hups, ARun_none, AOpRun, aexec, Option.isSome, Nat.reduceMul, hget_c, hget_n, Bool.false_eq_true, ↓reduceIte, AGo_ok, hput_c, hput_n, List.map, FSt.ev, St.F, eget_c, ↓eget_h, ↓hget_h, D.isBot, D.cells, List.length, Nat.zero_add, Nat.reduceLeDiff, List.all, D.leaf, Bool.and_true, and_self, splice, List.take, List.nil_append, List.drop, List.append_nil, beq_self_eq_true, cond_true, ARun_nil, dropE_c, inL_c, inL_n, dropE_n]
  refine aw_wk (s' := ⟨[(1, dI s), (2, .list (ints r)), (3, .ptr 0 0), (7, .ptr 8 0)], [(0, [dI l.words, dI l.s0, dI l.s1, dI l.s2, dI l.s3, .list (fls l.fl)]), (8, [dI l.words, dI l.s0, dI l.s1, dI l.s2, dI l.s3, .list (fls l.fl)])], 400⟩) ?_ ?_
  · unfold dI
    refine wk_to [] [(0, 0), (8, 144)] (by kernel_rfl) (by kernel_rfl) (by kernel_rfl) (by kernel_rfl) (by kernel_rfl) ?_ ?_ <;> repeat' (first | exact trivial | exact vr_val _ | exact vr_list _ | exact vr_ptr _ _ _ rfl | refine And.intro ⟨_, rfl, .inl ⟨_, rfl, by decide, ?_⟩⟩ ?_ | apply And.intro)
  refine aw_seq (aw_region_cutD [⟨some 34, .loadN 6 (.tmp 7), none, []⟩,
     ⟨some 35, .mv (.tmp 1), none, []⟩,
     ⟨some 36, .buildSl 1 0 [] [], none, []⟩,
     ⟨some 37, .mv (.tmp 2), none, []⟩,
     ⟨some 38, .app 1 8 (.tmp 36) (.tmp 37), none, [2, 3]⟩] ⟨some 39, .call (.func 30) [(.tmp 34), (.tmp 35), (.tmp 38)], none, [0, 1, 4, 2, 3]⟩
     [⟨some 33, .mv (.tmp 39), none, [5, 0, 1, 4, 2, 3]⟩,
     ⟨some 40, .ext (.tmp 33) 0, none, [6, 5, 0, 1, 4, 2, 3]⟩,
     ⟨some 41, .ext (.tmp 33) 1, none, [6, 5, 0, 1, 4, 2, 3]⟩,
     ⟨some 8, .mv (.tmp 40), none, [7, 6, 5, 0, 1, 4, 2, 3]⟩,
     ⟨some 9, .mv (.tmp 41), none, [8, 6, 5, 0, 1, 4, 2, 3, 9, 7]⟩] (by decide) (by decide) ?_)
  simp (config := {maxSteps := 10000000}) (disch := first | exact okYes (by kernel_rfl) | omega) only [List.length, Nat.zero_add, Nat.reduceAdd, Nat.reduceMul, thenQ, ARun_none, AOpRun, FSt.ev, List.map, St.F, dI, aexec, eget_c, Nat.reduceBEq, ↓eget_h, cond_false, hget_c, ↓hget_h, Nat.reduceLeDiff, ↓reduceIte, List.drop, List.take, AGo_ok, St.app, putO, eput_c, eput_n, hups, Option.isSome, hget_n, Bool.false_eq_true, Option.map, fillD, hput_c, hput_n, base, Nat.zero_le, and_self, elems, ints_all, ints_len, ints_flat, icells_leaf, and_true, ups, List.nil_append, List.cons_append]
  refine ago_if (by omega) ?_
  simp (config := {maxSteps := 10000000}) (disch := first | exact okYes (by kernel_rfl) | omega) only [AGo_ok, Nat.reduceAdd, St.app, putO, eput_c, Nat.reduceBEq, eput_n, cond_false, hups, hput_c, hput_n, hdel_c, beq_self_eq_true, hdel_n, cond_true, List.map, ARun_nil]
  refine ⟨⟨[(1, dI s), (2, .list (ints r)), (3, .ptr 0 0), (7, .ptr 8 0), (34, .agg [dI l.words, dI l.s0, dI l.s1, dI l.s2, dI l.s3, .list (fls l.fl)]), (35, dI s), (38, .list (ints r))], [(0, [dI l.words, dI l.s0, dI l.s1, dI l.s2, dI l.s3, .list (fls l.fl)]), (8, [dI l.words, dI l.s0, dI l.s1, dI l.s2, dI l.s3, .list (fls l.fl)])], 600⟩, ?_, of_decide_eq_true (by kernel_rfl), ?_⟩
  · unfold dI
    refine wk_to [432] [(0, 0), (8, 8)] (by kernel_rfl) (by kernel_rfl) (by kernel_rfl) (by kernel_rfl) (by kernel_rfl) ?_ ?_ <;> repeat' (first | exact trivial | exact vr_val _ | exact vr_list _ | exact vr_ptr _ _ _ rfl | apply vr_agg | refine vr_fl _ _ _ _ _ (by decide) rfl ?_ ?_ ?_ ?_ | refine And.intro ⟨_, rfl, .inl ⟨_, rfl, by decide, ?_⟩⟩ ?_ | apply And.intro)
    all_goals first | exact ints_one _ | exact ints_len _ | exact ints_flat _ | exact icells_in _
  simp (config := {maxSteps := 10000000}) (disch := first | exact okYes (by kernel_rfl) | omega) only [Nat.reduceSub, Nat.reduceAdd, dI, eget_c, Nat.reduceBEq, ↓eget_h, cond_false]
  refine acall0 c1 ?_
  simp (config := {maxSteps := 10000000}) (disch := first | exact okYes (by kernel_rfl) | omega) only [Nat.reduceAdd, St.app, putO, dI, eput_c, Nat.reduceBEq, eput_n, cond_false, hups, ARun_none, AOpRun, aexec, FSt.ev, St.F, eget_c, ↓eget_h, AGo_ok, List.map, opt1, Option.map, List.getElem?_cons_zero, List.getElem?_cons_succ, ARun_nil, dropE_c, inL_c, inL_n, beq_self_eq_true, cond_true, dropE_n]
  by_cases hE : packE l s r = 0
  case neg =>
    have qe : (packE l s r != 0) = true := by simpa using hE
    generalize packE l s r = E at *
    generalize packR l s r = P at *
    (have hg : (987654321 : Nat) - 987654321 = 0 := rfl; have hr := hg; repeat' (first | refine aw_seq ?_ | (refine aw_skip ?_; repeat' (first | with_reducible refine thenQ_n ?_ | with_reducible refine blockQ_n ?_ | with_reducible refine thenQ_e ?_ | with_reducible refine blockQ_t ?_ | with_reducible refine blockQ_f (by decide) ?_)) | (refine aw_exit ?_; repeat' (first | with_reducible refine thenQ_n ?_ | with_reducible refine blockQ_n ?_ | with_reducible refine thenQ_e ?_ | with_reducible refine blockQ_t ?_ | with_reducible refine blockQ_f (by decide) ?_)) | refine aw_ret ?_ | refine aw_block ?_ | refine aw_condT rfl ?_ | refine aw_condF rfl ?_ | ((first | refine aw_hide fun K hK => aw_region ?_ | refine acall0 (works_ac) ?_ | refine ago_if (by omega) ?_ | skip); simp (config := {maxSteps := 10000000}) (disch := first | exact okYes (by kernel_rfl) | omega) only [List.length, Nat.zero_add, Nat.reduceAdd, Nat.reduceMul, ARun_none, AOpRun, aexec, FSt.ev, St.F, eget_c, Nat.reduceBEq, ↓eget_h, cond_false, AGo_ok, St.app, putO, eput_c, eput_n, hups, List.map, isSh, Bool.false_eq_true, ↓reduceIte, Option.map, abin, qe, ARun_nil, dropE_c, inL_c, inL_n, beq_self_eq_true, cond_true, dropE_n, dB, thenQ]) | (subst hK; repeat' (first | with_reducible refine thenQ_n ?_ | with_reducible refine blockQ_n ?_ | with_reducible refine thenQ_e ?_ | with_reducible refine blockQ_t ?_ | with_reducible refine blockQ_f (by decide) ?_))))
    all_goals (refine end_to [] [] (by first | exact .inl rfl | exact .inr rfl) rfl (by kernel_rfl) (by kernel_rfl) (by kernel_rfl) ?_ ?_ <;> repeat' (first | exact trivial | exact vr_val _))
  obtain ⟨_, s0, s3, hrl, hpa⟩ := hpz hE
  rw [hpo hE] at hpl ⊢
  rw [hE]
  clear c1 hpz hpo hE
  obtain ⟨n, rfl⟩ : ∃ n : Nat, s = n := ⟨s.toNat, by omega⟩
  have hn4 : n < 4 := by omega
  have gd := good_ac l [pk n l r l.fl.length] hl (hgo _ hpl)
  rw [gdI_pk h1 hn4 r, tpE_ok h1 (by simp)] at gd
  have rd := fun (i : Nat) => read_ac l [pk n l r l.fl.length] i hl (hgo _ hpl)
  have hrp := fun (i : Nat) (hi : i < l.fl.length) => readR_pk h1 hn4 hpa hi
  have hPl := hpl
  generalize pk n l r l.fl.length = P at *
  unfold layD layC at gd rd
  refine aw_seq (aw_seq (aw_region ?_))
  simp (config := {maxSteps := 10000000}) (disch := first | exact okYes (by kernel_rfl) | omega) only [thenQ, List.length, Nat.zero_add, Nat.reduceAdd, Nat.reduceMul, ARun_none, AOpRun, aexec, FSt.ev, St.F, eget_c, Nat.reduceBEq, ↓eget_h, cond_false, AGo_ok, St.app, putO, eput_c, eput_n, hups, List.map, isSh, Bool.false_eq_true, ↓reduceIte, Option.map, abin, bne_self_eq_false, ARun_nil, dropE_c, inL_c, inL_n, beq_self_eq_true, cond_true, dropE_n]
  refine aw_condF rfl (aw_skip ?_)
  refine aw_wk (s' := ⟨[(1, dI n), (2, .list (ints r)), (3, .ptr 0 0), (7, .ptr 8 0), (8, .list (ints P))], [(0, [dI l.words, dI l.s0, dI l.s1, dI l.s2, dI l.s3, .list (fls l.fl)]), (8, [dI l.words, dI l.s0, dI l.s1, dI l.s2, dI l.s3, .list (fls l.fl)])], 1000⟩) ?_ ?_
  · unfold dI
    refine wk_to [] [(0, 0), (8, 8)] (by kernel_rfl) (by kernel_rfl) (by kernel_rfl) (by kernel_rfl) (by kernel_rfl) ?_ ?_ <;> repeat' (first | exact trivial | exact vr_val _ | exact vr_list _ | exact vr_ptr _ _ _ rfl | refine And.intro ⟨_, rfl, .inl ⟨_, rfl, by decide, ?_⟩⟩ ?_ | apply And.intro)
  refine aw_seq (aw_region_cutD [⟨some 46, .loadN 6 (.tmp 7), none, []⟩,
     ⟨some 47, .buildSl 1 0 [] [], none, []⟩,
     ⟨some 48, .mv (.tmp 8), none, []⟩,
     ⟨some 49, .app 1 8 (.tmp 47) (.tmp 48), none, [1, 2]⟩,
     ⟨some 50, .buildSl 1 1 [(.val (.slice none 0 0))] [(0, 1, (.tmp 49))], none, [3, 1, 2]⟩] ⟨some 51, .call (.func 23) [(.tmp 46), (.tmp 50)], none, [0, 4, 3, 1, 2]⟩
     [⟨some 45, .mv (.tmp 51), none, [5, 0, 4, 3, 1, 2]⟩,
     ⟨some 52, .ext (.tmp 45) 0, none, [6, 5, 0, 4, 3, 1, 2]⟩,
     ⟨some 53, .ext (.tmp 45) 1, none, [6, 5, 0, 4, 3, 1, 2]⟩,
     ⟨some 10, .mv (.tmp 52), none, [7, 6, 5, 0, 4, 3, 1, 2]⟩,
     ⟨some 11, .mv (.tmp 53), none, [8, 6, 5, 0, 4, 3, 1, 2, 9, 7]⟩] (by decide) (by decide) ?_)
  simp (config := {maxSteps := 10000000}) (disch := first | exact okYes (by kernel_rfl) | omega) only [List.length, Nat.zero_add, Nat.reduceAdd, Nat.reduceMul, thenQ, ARun_none, AOpRun, FSt.ev, List.map, St.F, dI, aexec, eget_c, Nat.reduceBEq, ↓eget_h, cond_false, hget_c, ↓hget_h, Nat.reduceLeDiff, ↓reduceIte, List.drop, List.take, AGo_ok, St.app, putO, eput_c, eput_n, hups, Option.isSome, hget_n, Bool.false_eq_true, Option.map, fillD, hput_c, hput_n, base, Nat.zero_le, and_self, elems, ints_all, ints_len, ints_flat, icells_leaf, and_true, ups, List.nil_append, List.cons_append]
  refine ago_if (by omega) ?_
  simp (config := {maxSteps := 10000000}) (disch := first | exact okYes (by kernel_rfl) | omega) only [AGo_ok, Nat.reduceAdd, St.app, putO, eput_c, Nat.reduceBEq, eput_n, cond_false, hups, hput_c, hput_n, hdel_c, beq_self_eq_true, hdel_n, cond_true, List.map, ARun_none, AOpRun, aexec, Option.isSome, Nat.reduceMul, hget_c, hget_n, Bool.false_eq_true, ↓reduceIte, Option.map, fillD, D.isBot, FSt.ev, St.F, eget_c, ↓eget_h, D.cells, List.length, Nat.zero_add, ne_eq, not_true_eq_false, Nat.reduceGT, or_self, splice, List.take, List.nil_append, List.drop, List.append_nil, ARun_nil]
  refine ⟨⟨[(1, dI n), (2, .list (ints r)), (3, .ptr 0 0), (7, .ptr 8 0), (8, .list (ints P)), (46, .agg [dI l.words, dI l.s0, dI l.s1, dI l.s2, dI l.s3, .list (fls l.fl)]), (50, .list (rows [P]))], [(0, [dI l.words, dI l.s0, dI l.s1, dI l.s2, dI l.s3, .list (fls l.fl)]), (8, [dI l.words, dI l.s0, dI l.s1, dI l.s2, dI l.s3, .list (fls l.fl)])], 1600⟩, Wk.trans (b := ⟨[(1, dI n), (2, .list (ints r)), (3, .ptr 0 0), (7, .ptr 8 0), (8, .list (ints P)), (46, .agg [dI l.words, dI l.s0, dI l.s1, dI l.s2, dI l.s3, .list (fls l.fl)]), (50, .vec 1032 1 1)], [(0, [dI l.words, dI l.s0, dI l.s1, dI l.s2, dI l.s3, .list (fls l.fl)]), (8, [dI l.words, dI l.s0, dI l.s1, dI l.s2, dI l.s3, .list (fls l.fl)]), (1032, [.list (ints P)])], 1300⟩) ?_ ?_, of_decide_eq_true (by kernel_rfl), ?_⟩
  · unfold dI
    refine wk_to [1024] [(0, 0), (8, 8), (1032, 1032)] (by kernel_rfl) (by kernel_rfl) (by kernel_rfl) (by kernel_rfl) (by kernel_rfl) ?_ ?_ <;> repeat' (first | exact trivial | exact vr_val _ | exact vr_list _ | exact vr_vec _ _ _ _ rfl | exact vr_ptr _ _ _ rfl | apply vr_agg | refine vr_fl _ _ _ _ _ (by decide) rfl ?_ ?_ ?_ ?_ | refine And.intro ⟨_, rfl, .inl ⟨_, rfl, by decide, ?_⟩⟩ ?_ | apply And.intro)
    all_goals first | exact ints_one _ | exact ints_len _ | exact ints_flat _ | exact icells_in _
  · unfold dI
    refine wk_to [1032] [(0, 0), (8, 8)] (by kernel_rfl) (by kernel_rfl) (by kernel_rfl) (by kernel_rfl) (by kernel_rfl) ?_ ?_ <;> repeat' (first | exact trivial | exact vr_val _ | exact vr_list _ | exact vr_ptr _ _ _ rfl | apply vr_agg | refine vr_fl _ _ _ _ _ (by decide) rfl ?_ ?_ ?_ ?_ | refine And.intro ⟨_, rfl, .inl ⟨_, rfl, by decide, ?_⟩⟩ ?_ | apply And.intro)
    all_goals first | exact rows_one _ | exact rows_len _ | exact rows_flat _ | exact rcells_in [P]
  simp (config := {maxSteps := 10000000}) (disch := first | exact okYes (by kernel_rfl) | omega) only [Nat.reduceSub, Nat.reduceAdd, dI, eget_c, Nat.reduceBEq, ↓eget_h, cond_false]
  refine acall0 gd ?_
  simp (config := {maxSteps := 10000000}) (disch := first | exact okYes (by kernel_rfl) | omega) only [Nat.reduceAdd, St.app, putO, dI, eput_c, Nat.reduceBEq, eput_n, cond_false, hups, ARun_none, AOpRun, aexec, FSt.ev, St.F, eget_c, ↓eget_h, AGo_ok, List.map, opt1, Option.map, List.getElem?_cons_zero, List.getElem?_cons_succ, ARun_nil, dropE_c, inL_c, inL_n, beq_self_eq_true, cond_true, dropE_n]
  have si := sameI_ac [0] [0] (by decide) (by decide)
  rw [decide_eq_true rfl] at si
  have q3 : ((r.length : Int) != (l.fl.length : Int)) = false := by simp [hrl]
  refine aw_seq (aw_seq (aw_region ?_))
  simp (config := {maxSteps := 10000000}) (disch := first | exact okYes (by kernel_rfl) | omega) only [thenQ, List.length, Nat.zero_add, Nat.reduceAdd, Nat.reduceMul, ARun_none, AOpRun, aexec, FSt.ev, St.F, eget_c, Nat.reduceBEq, ↓eget_h, cond_false, AGo_ok, St.app, putO, eput_c, eput_n, hups, List.map, isSh, Bool.false_eq_true, ↓reduceIte, Option.map, abin, bne_self_eq_false, ARun_some, AG_ff, Option.isSome, hget_c, hget_n, fillD, D.isBot, D.cells, ne_eq, not_true_eq_false, Nat.reduceGT, or_self, splice, List.take, List.nil_append, List.drop, List.append_nil, hput_c, hput_n]
  refine acall si [1680] ⟨.refl _, vec_ints [0] (by simp) rfl rfl, trivial⟩ (.inr (.val _)) (by intro g hg; simp at hg; subst hg; exact ⟨_, rfl⟩) (by kernel_rfl) ?_
  simp (config := {maxSteps := 10000000}) (disch := first | exact okYes (by kernel_rfl) | omega) only [Nat.reduceAdd, St.app, putO, dB, eput_c, Nat.reduceBEq, eput_n, cond_false, hups, ARun_some, eget_c, ↓eget_h, AG_ff, AOpRun, aexec, FSt.ev, St.F, Bool.not_true, AGo_ok, List.map, ARun_none, Bool.false_eq_true, ↓reduceIte, ints_len, Nat.zero_add, Option.map, run1, hget_c, beq_self_eq_true, hget_n, cond_true, List.getElem?_cons_succ, List.getElem?_cons_zero, fls_len, isSh, abin, q3, ARun_nil, dropE_c, inL_c, inL_n, dropE_n]
  refine aw_condF rfl (aw_skip ?_)
  refine aw_seq (aw_seq (aw_region ?_))
  simp (config := {maxSteps := 10000000}) (disch := first | exact okYes (by kernel_rfl) | omega) only [thenQ, List.length, Nat.zero_add, Nat.reduceMul, Nat.reduceAdd, ARun_none, AOpRun, aexec, FSt.ev, AGo_ok, St.app, putO, eput_c, Nat.reduceBEq, eput_n, cond_false, hups, List.map, ARun_nil, dropE_c, inL_n, dropE_n]
  refine aw_block (aw_loop (fun i : Nat => ⟨[(1, dI n), (2, .list (ints r)), (3, .ptr 0 0), (7, .ptr 8 0), (8, .list (ints P)), (12, dI i)], [(0, [dI l.words, dI l.s0, dI l.s1, dI l.s2, dI l.s3, .list (fls l.fl)]), (8, [dI l.words, dI l.s0, dI l.s1, dI l.s2, dI l.s3, .list (fls l.fl)])], 3000⟩) (fun i => i ≤ l.fl.length) (fun i => l.fl.length - i) ⟨0, by omega, ?_⟩ ?_)
  · unfold dI
    refine wk_to [] [(0, 0), (8, 8)] (by kernel_rfl) (by kernel_rfl) (by kernel_rfl) (by kernel_rfl) (by kernel_rfl) ?_ ?_ <;> repeat' (first | exact trivial | exact vr_val _ | exact vr_list _ | exact vr_ptr _ _ _ rfl | refine And.intro ⟨_, rfl, .inl ⟨_, rfl, by decide, ?_⟩⟩ ?_ | apply And.intro)
  intro i hi
  by_cases hi2 : i < l.fl.length
  case neg =>
    obtain rfl : i = l.fl.length := by omega
    (have hg : (987654321 : Nat) - 987654321 = 0 := rfl; have hr := hg; repeat' (first | refine aw_seq ?_ | (refine aw_skip ?_; repeat' (first | with_reducible refine thenQ_n ?_ | with_reducible refine blockQ_n ?_ | with_reducible refine thenQ_e ?_ | with_reducible refine blockQ_t ?_ | with_reducible refine blockQ_f (by decide) ?_)) | (refine aw_exit ?_; repeat' (first | with_reducible refine thenQ_n ?_ | with_reducible refine blockQ_n ?_ | with_reducible refine thenQ_e ?_ | with_reducible refine blockQ_t ?_ | with_reducible refine blockQ_f (by decide) ?_)) | refine aw_ret ?_ | refine aw_block ?_ | refine aw_condT rfl ?_ | refine aw_condF rfl ?_ | (refine aw_cond rfl (fun hg => ?_) (fun hg => ?_) <;> (try (have hq := hg; simp only [Bool.not_eq_true', Bool.not_eq_false', Bool.and_eq_true, Bool.and_eq_false_iff, Bool.or_eq_true, Bool.or_eq_false_iff, decide_eq_true_eq, decide_eq_false_iff_not, bne_iff_ne, beq_iff_eq, beq_eq_false_iff_ne, bne_eq_false_iff_eq, ne_eq, Int.not_lt, Int.not_le, Decidable.not_not] at hq)) <;> (try (have hr := hg; simp only [decide_eq_true_eq, decide_eq_false_iff_not] at hr)) <;> (try (exfalso; omega))) | ((first | refine aw_hide fun K hK => aw_region ?_ | refine acall0 (works_ac) ?_ | refine ago_if (by omega) ?_ | skip); simp (config := {maxSteps := 10000000}) (disch := first | exact okYes (by kernel_rfl) | omega) only [List.length, Nat.zero_add, Nat.reduceAdd, Nat.reduceMul, dI, ARun_none, AOpRun, aexec, FSt.ev, St.F, eget_c, Nat.reduceBEq, ↓eget_h, cond_false, AGo_ok, St.app, putO, eput_c, eput_n, hups, List.map, Option.map, run1, hget_c, beq_self_eq_true, hget_n, cond_true, List.getElem?_cons_succ, List.getElem?_cons_zero, fls_len, isSh, Bool.false_eq_true, ↓reduceIte, abin, ARun_nil, dropE_c, inL_c, inL_n, dropE_n, hr, decide_false, dB]) | (subst hK; repeat' (first | with_reducible refine thenQ_n ?_ | with_reducible refine blockQ_n ?_ | with_reducible refine thenQ_e ?_ | with_reducible refine blockQ_t ?_ | with_reducible refine blockQ_f (by decide) ?_))))
    all_goals (refine end_to [] [] (by first | exact .inl rfl | exact .inr rfl) rfl (by kernel_rfl) (by kernel_rfl) (by kernel_rfl) ?_ ?_ <;> repeat' (first | exact trivial | exact vr_val _))
  have ii : (i : Int) < (l.fl.length : Int) := by omega
  have ir : (i : Int) < (r.length : Int) := by omega
  have g1 : (fls l.fl)[i]? = some (flC (fAt l i)) := fls_gd l.fl i hi2
  have ha := fls_all l.fl
  have gr := ints_gd r i (by omega)
  have rdi := rd i
  obtain ⟨hw0, hrr⟩ := hrp i hi2
  rw [hrr, hw0] at rdi
  have hf : FOk l.words (fAt l i) := fAt_ok h1 hi2
  have hpi := hpa i hi2
  have hrk : r[i]?.getD 0 = rAt r i := rfl
  rw [hrk] at gr
  have ev : (fAt l i).every ≠ 0 := by rcases hf.ev with h | h | h <;> omega
  clear hrr hw0 hrp rd
  generalize fAt l i = f at *
  unfold flC at g1
  refine aw_seq (aw_seq (aw_region ?_))
  simp (config := {maxSteps := 10000000}) (disch := first | exact okYes (by kernel_rfl) | omega) only [thenQ, dI, List.length, Nat.zero_add, Nat.reduceAdd, Nat.reduceMul, ARun_none, AOpRun, aexec, FSt.ev, St.F, eget_c, Nat.reduceBEq, ↓eget_h, cond_false, AGo_ok, St.app, putO, eput_c, eput_n, hups, List.map, Option.map, run1, hget_c, beq_self_eq_true, hget_n, cond_true, List.getElem?_cons_succ, List.getElem?_cons_zero, fls_len, isSh, Bool.false_eq_true, ↓reduceIte, abin, ii, decide_true, ARun_nil, dropE_c, inL_c, inL_n, dropE_n]
  refine aw_condT rfl (aw_skip ?_)
  refine aw_seq (aw_block (aw_seq (aw_region ?_)))
  simp (config := {maxSteps := 10000000}) (disch := first | exact okYes (by kernel_rfl) | omega) only [thenQ, List.length, Nat.zero_add, Nat.reduceAdd, Nat.reduceMul, ARun_none, AOpRun, aexec, FSt.ev, St.F, eget_c, Nat.reduceBEq, ↓eget_h, cond_false, AGo_ok, St.app, putO, eput_c, eput_n, hups, List.map, Option.map, run1, hget_c, beq_self_eq_true, hget_n, cond_true, List.getElem?_cons_succ, List.getElem?_cons_zero, Int.natCast_nonneg, ha, and_self, ↓reduceIte, opt1, Int.toNat_natCast, g1, dI, dB, Nat.reduceLeDiff, List.take, Option.isSome, Bool.false_eq_true, hput_c, hput_n, ↓hget_h, D.isBot, D.cells, List.all, D.leaf, Bool.and_true, splice, List.nil_append, List.drop, List.append_nil, ARun_nil, dropE_c, inL_c, inL_n, dropE_n]
  refine aw_wk (s' := ⟨[(1, dI n), (2, .list (ints r)), (3, .ptr 0 0), (7, .ptr 8 0), (8, .list (ints P)), (12, dI i), (13, .ptr 16 0)], [(0, [dI l.words, dI l.s0, dI l.s1, dI l.s2, dI l.s3, .list (fls l.fl)]), (8, [dI l.words, dI l.s0, dI l.s1, dI l.s2, dI l.s3, .list (fls l.fl)]), (16, [dI f.word, dI f.bit, dI f.size, dB f.sgn, dI f.num, dI f.den, dI f.add, dI f.every, dI f.phase])], 4000⟩) ?_ ?_
  · unfold dI dB
    refine wk_to [] [(0, 0), (8, 8), (16, 3080)] (by kernel_rfl) (by kernel_rfl) (by kernel_rfl) (by kernel_rfl) (by kernel_rfl) ?_ ?_ <;> repeat' (first | exact trivial | exact vr_val _ | exact vr_list _ | exact vr_ptr _ _ _ rfl | refine And.intro ⟨_, rfl, .inl ⟨_, rfl, by decide, ?_⟩⟩ ?_ | apply And.intro)
  refine aw_seq (aw_region_cutD [⟨some 83, .loadN 6 (.tmp 7), none, []⟩,
     ⟨some 84, .buildSl 1 0 [] [], none, []⟩,
     ⟨some 85, .mv (.tmp 8), none, []⟩,
     ⟨some 86, .app 1 8 (.tmp 84) (.tmp 85), none, [1, 2]⟩,
     ⟨some 87, .buildSl 1 1 [(.val (.slice none 0 0))] [(0, 1, (.tmp 86))], none, [3, 1, 2]⟩,
     ⟨some 88, .mv (.tmp 12), none, []⟩] ⟨some 89, .call (.func 18) [(.tmp 83), (.tmp 87), (.tmp 88)], none, [0, 4, 3, 1, 2, 5]⟩
     [⟨some 82, .mv (.tmp 89), none, [6, 0, 4, 3, 1, 2, 5]⟩,
     ⟨some 90, .ext (.tmp 82) 0, none, [7, 6, 0, 4, 3, 1, 2, 5]⟩,
     ⟨some 91, .ext (.tmp 82) 1, none, [7, 6, 0, 4, 3, 1, 2, 5]⟩,
     ⟨some 14, .mv (.tmp 90), none, [8, 7, 6, 0, 4, 3, 1, 2, 5]⟩,
     ⟨some 15, .mv (.tmp 91), none, [9, 7, 6, 0, 4, 3, 1, 2, 5, 10, 8]⟩] (by decide) (by decide) ?_)
  simp (config := {maxSteps := 10000000}) (disch := first | exact okYes (by kernel_rfl) | omega) only [List.length, Nat.zero_add, Nat.reduceAdd, Nat.reduceMul, thenQ, ARun_none, AOpRun, FSt.ev, List.map, St.F, dI, aexec, eget_c, Nat.reduceBEq, ↓eget_h, cond_false, hget_c, ↓hget_h, Nat.reduceLeDiff, ↓reduceIte, List.drop, List.take, AGo_ok, St.app, putO, eput_c, eput_n, hups, Option.isSome, hget_n, Bool.false_eq_true, Option.map, fillD, hput_c, hput_n, base, Nat.zero_le, and_self, elems, ints_all, ints_len, ints_flat, icells_leaf, and_true, ups, List.nil_append, List.cons_append]
  refine ago_if (by omega) ?_
  simp (config := {maxSteps := 10000000}) (disch := first | exact okYes (by kernel_rfl) | omega) only [AGo_ok, Nat.reduceAdd, St.app, putO, eput_c, Nat.reduceBEq, eput_n, cond_false, hups, hput_c, hput_n, hdel_c, beq_self_eq_true, hdel_n, cond_true, List.map, ARun_none, AOpRun, aexec, Option.isSome, Nat.reduceMul, hget_c, hget_n, Bool.false_eq_true, ↓reduceIte, Option.map, fillD, D.isBot, FSt.ev, St.F, eget_c, ↓eget_h, D.cells, List.length, Nat.zero_add, ne_eq, not_true_eq_false, Nat.reduceGT, or_self, splice, List.take, List.nil_append, List.drop, List.append_nil, ARun_nil]
  refine ⟨⟨[(1, dI n), (2, .list (ints r)), (3, .ptr 0 0), (7, .ptr 8 0), (8, .list (ints P)), (12, dI i), (13, .ptr 16 0), (83, .agg [dI l.words, dI l.s0, dI l.s1, dI l.s2, dI l.s3, .list (fls l.fl)]), (87, .list (rows [P])), (88, dI i)], [(0, [dI l.words, dI l.s0, dI l.s1, dI l.s2, dI l.s3, .list (fls l.fl)]), (8, [dI l.words, dI l.s0, dI l.s1, dI l.s2, dI l.s3, .list (fls l.fl)]), (16, [dI f.word, dI f.bit, dI f.size, dB f.sgn, dI f.num, dI f.den, dI f.add, dI f.every, dI f.phase])], 4600⟩, Wk.trans (b := ⟨[(1, dI n), (2, .list (ints r)), (3, .ptr 0 0), (7, .ptr 8 0), (8, .list (ints P)), (12, dI i), (13, .ptr 16 0), (83, .agg [dI l.words, dI l.s0, dI l.s1, dI l.s2, dI l.s3, .list (fls l.fl)]), (87, .vec 4032 1 1), (88, dI i)], [(0, [dI l.words, dI l.s0, dI l.s1, dI l.s2, dI l.s3, .list (fls l.fl)]), (8, [dI l.words, dI l.s0, dI l.s1, dI l.s2, dI l.s3, .list (fls l.fl)]), (16, [dI f.word, dI f.bit, dI f.size, dB f.sgn, dI f.num, dI f.den, dI f.add, dI f.every, dI f.phase]), (4032, [.list (ints P)])], 4300⟩) ?_ ?_, of_decide_eq_true (by kernel_rfl), ?_⟩
  · unfold dI dB
    refine wk_to [4024] [(0, 0), (8, 8), (16, 16), (4032, 4032)] (by kernel_rfl) (by kernel_rfl) (by kernel_rfl) (by kernel_rfl) (by kernel_rfl) ?_ ?_ <;> repeat' (first | exact trivial | exact vr_val _ | exact vr_list _ | exact vr_vec _ _ _ _ rfl | exact vr_ptr _ _ _ rfl | apply vr_agg | refine vr_fl _ _ _ _ _ (by decide) rfl ?_ ?_ ?_ ?_ | refine And.intro ⟨_, rfl, .inl ⟨_, rfl, by decide, ?_⟩⟩ ?_ | apply And.intro)
    all_goals first | exact ints_one _ | exact ints_len _ | exact ints_flat _ | exact icells_in _
  · unfold dI dB
    refine wk_to [4032] [(0, 0), (8, 8), (16, 16)] (by kernel_rfl) (by kernel_rfl) (by kernel_rfl) (by kernel_rfl) (by kernel_rfl) ?_ ?_ <;> repeat' (first | exact trivial | exact vr_val _ | exact vr_list _ | exact vr_ptr _ _ _ rfl | apply vr_agg | refine vr_fl _ _ _ _ _ (by decide) rfl ?_ ?_ ?_ ?_ | refine And.intro ⟨_, rfl, .inl ⟨_, rfl, by decide, ?_⟩⟩ ?_ | apply And.intro)
    all_goals first | exact rows_one _ | exact rows_len _ | exact rows_flat _ | exact rcells_in [P]
  simp (config := {maxSteps := 10000000}) (disch := first | exact okYes (by kernel_rfl) | omega) only [Nat.reduceSub, Nat.reduceAdd, dI, eget_c, Nat.reduceBEq, ↓eget_h, cond_false, dB]
  refine acall0 rdi ?_
  by_cases hin : inSub f n
  case neg =>
    rw [if_neg hin]
    have qi : ((n : Int).tmod f.every != f.phase) = true := by simp only [bne_iff_ne, ne_eq]; exact hin
    have q0 : (((0 : Nat) : Int) != 0) = false := rfl
    have qs : (sps []).length = 0 := rfl
    simp (config := {maxSteps := 10000000}) (disch := first | exact okYes (by kernel_rfl) | omega) only [Nat.reduceAdd, St.app, putO, dI, eput_c, Nat.reduceBEq, eput_n, cond_false, hups, ARun_none, AOpRun, aexec, FSt.ev, St.F, eget_c, ↓eget_h, AGo_ok, List.map, opt1, Option.map, List.getElem?_cons_zero, List.getElem?_cons_succ, ARun_nil, dropE_c, inL_c, inL_n, beq_self_eq_true, cond_true, dropE_n]
    (have hg : (987654321 : Nat) - 987654321 = 0 := rfl; have hr := hg; repeat' (first | refine aw_seq ?_ | (refine aw_skip ?_; repeat' (first | with_reducible refine thenQ_n ?_ | with_reducible refine blockQ_n ?_ | with_reducible refine thenQ_e ?_ | with_reducible refine blockQ_t ?_ | with_reducible refine blockQ_f (by decide) ?_)) | (refine aw_exit ?_; repeat' (first | with_reducible refine thenQ_n ?_ | with_reducible refine blockQ_n ?_ | with_reducible refine thenQ_e ?_ | with_reducible refine blockQ_t ?_ | with_reducible refine blockQ_f (by decide) ?_)) | refine aw_ret ?_ | refine aw_block ?_ | refine aw_condT rfl ?_ | refine aw_condF rfl ?_ | ((first | refine aw_hide fun K hK => aw_region ?_ | refine ago_if (by omega) ?_ | skip); simp (config := {maxSteps := 10000000}) (disch := first | exact okYes (by kernel_rfl) | omega) only [List.length, Nat.zero_add, Nat.reduceAdd, Nat.reduceMul, ARun_none, AOpRun, aexec, FSt.ev, St.F, eget_c, Nat.reduceBEq, ↓eget_h, cond_false, AGo_ok, St.app, putO, eput_c, eput_n, hups, List.map, isSh, Bool.false_eq_true, ↓reduceIte, Option.map, abin, bne_self_eq_false, ARun_nil, dropE_c, inL_c, inL_n, beq_self_eq_true, cond_true, dropE_n, run1, hget_c, ↓hget_h, List.getElem?_cons_succ, List.getElem?_cons_zero, ev, qi, qs, cast_lit, fits]) | (subst hK; repeat' (first | with_reducible refine thenQ_n ?_ | with_reducible refine blockQ_n ?_ | with_reducible refine thenQ_e ?_ | with_reducible refine blockQ_t ?_ | with_reducible refine blockQ_f (by decide) ?_))))
    refine ⟨i + 1, by omega, by omega, ?_⟩
    refine wk_to [] [(0, 0), (8, 8)] (by kernel_rfl) (by kernel_rfl) (by kernel_rfl) (by kernel_rfl) (by kernel_rfl) ?_ ?_ <;> repeat' (first | exact trivial | exact vr_val _ | exact vr_list _ | exact vr_ptr _ _ _ rfl | refine And.intro ⟨_, rfl, .inl ⟨_, rfl, by decide, ?_⟩⟩ ?_ | apply And.intro)
  rw [if_pos hin]
  have hc : canF f (rAt r i) := by unfold packOk at hpi; rwa [if_pos hin] at hpi
  have hcb := canF_bd hf hc
  have qi : ((n : Int).tmod f.every != f.phase) = false := by simp only [bne_eq_false_iff_eq]; exact hin
  have mb1 := mul_bd hf.a1 hf.a2 (by have := hf.d1; omega : -(1000 : Int) ≤ f.den) hf.d2
  have mb2 := mul_bd (a := rAt r i) (b := f.num) (A := 4096) (B := 1000) hcb.1 hcb.2 hf.n1 hf.n2
  have hval : valI f (rAt r i) = f.add * f.den + rAt r i * f.num := rfl
  have e1 : IntKind.i64.wrap (f.add * f.den) = f.add * f.den := wrap_in (by omega) (by omega)
  have e2 : IntKind.i64.wrap (rAt r i * f.num) = rAt r i * f.num := wrap_in (by omega) (by omega)
  have e3 : IntKind.i64.wrap (f.add * f.den + rAt r i * f.num) = valI f (rAt r i) := by rw [hval]; exact wrap_in (by omega) (by omega)
  generalize valI f (rAt r i) = v at *
  generalize rAt r i = x at *
  have q1' : (((1 : Nat) : Int) != 1) = false := rfl
  have qs : (sps [((0 : Int), v)]).length = 1 := rfl
  have qa : (sps [((0 : Int), v)]).all (fun x => x.length == 2) = true := rfl
  have qg : (sps [((0 : Int), v)])[0]? = some [.val (.int .i64 0), .val (.int .i64 v)] := rfl
  have qv : (v == v) = true := by simp
  simp (config := {maxSteps := 10000000}) (disch := first | exact okYes (by kernel_rfl) | omega) only [Nat.reduceAdd, St.app, putO, dI, eput_c, Nat.reduceBEq, eput_n, cond_false, hups, ARun_none, AOpRun, aexec, FSt.ev, St.F, eget_c, ↓eget_h, AGo_ok, List.map, opt1, Option.map, List.getElem?_cons_zero, List.getElem?_cons_succ, ARun_nil, dropE_c, inL_c, inL_n, beq_self_eq_true, cond_true, dropE_n]
  (have hg : (987654321 : Nat) - 987654321 = 0 := rfl; have hr := hg; repeat' (first | refine aw_seq ?_ | (refine aw_skip ?_; repeat' (first | with_reducible refine thenQ_n ?_ | with_reducible refine blockQ_n ?_ | with_reducible refine thenQ_e ?_ | with_reducible refine blockQ_t ?_ | with_reducible refine blockQ_f (by decide) ?_)) | (refine aw_exit ?_; repeat' (first | with_reducible refine thenQ_n ?_ | with_reducible refine blockQ_n ?_ | with_reducible refine thenQ_e ?_ | with_reducible refine blockQ_t ?_ | with_reducible refine blockQ_f (by decide) ?_)) | refine aw_ret ?_ | refine aw_block ?_ | refine aw_condT rfl ?_ | refine aw_condF rfl ?_ | ((first | refine aw_hide fun K hK => aw_region ?_ | refine ago_if (by omega) ?_ | skip); simp (config := {maxSteps := 10000000}) (disch := first | exact okYes (by kernel_rfl) | omega) only [List.length, Nat.zero_add, Nat.reduceAdd, Nat.reduceMul, ARun_none, AOpRun, aexec, FSt.ev, St.F, eget_c, Nat.reduceBEq, ↓eget_h, cond_false, AGo_ok, St.app, putO, eput_c, eput_n, hups, List.map, isSh, Bool.false_eq_true, ↓reduceIte, Option.map, abin, bne_self_eq_false, ARun_nil, dropE_c, inL_c, inL_n, beq_self_eq_true, cond_true, dropE_n, run1, hget_c, ↓hget_h, List.getElem?_cons_succ, List.getElem?_cons_zero, ev, qi, qs, cast_lit, ARun_some, AG_ff, Int.le_refl, qa, and_self, opt1, Int.toNat_zero, qg, Nat.reduceLeDiff, List.take, e1, Int.natCast_nonneg, ints_all, Int.toNat_natCast, gr, e2, e3, fillD, D.isBot, D.cells, ne_eq, not_true_eq_false, Nat.reduceGT, or_self, splice, List.nil_append, List.drop, List.cons_append, List.append_nil, D.isAgg, isB, eqCells, scalarEq, Bool.and_true, fits]) | (subst hK; repeat' (first | with_reducible refine thenQ_n ?_ | with_reducible refine blockQ_n ?_ | with_reducible refine thenQ_e ?_ | with_reducible refine blockQ_t ?_ | with_reducible refine blockQ_f (by decide) ?_))))
  refine ⟨i + 1, by omega, by omega, ?_⟩
  refine wk_to [] [(0, 0), (8, 8)] (by kernel_rfl) (by kernel_rfl) (by kernel_rfl) (by kernel_rfl) (by kernel_rfl) ?_ ?_ <;> repeat' (first | exact trivial | exact vr_val _ | exact vr_list _ | exact vr_ptr _ _ _ rfl | refine And.intro ⟨_, rfl, .inl ⟨_, rfl, by decide, ?_⟩⟩ ?_ | apply And.intro)
end Go.Proofs.Ytdcodicoclecnaa
