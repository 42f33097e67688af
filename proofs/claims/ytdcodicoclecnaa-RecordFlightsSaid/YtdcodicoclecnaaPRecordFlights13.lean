/- Texts of the law RecordFlights, part 13. No conditions. -/
import Derived.Test.YtdcodicoclecnaaPRecordFlights12
/- record: whether a claim holds with proofs. No conditions. -/
set_option linter.unusedSimpArgs false
set_option linter.unusedVariables false
namespace Go.Proofs.Ytdcodicoclecnaa
open Go Go.RowKit Lift

theorem clV_any {x : Clm} {h : List Bool} {cn : Nat → Bool} (ha : x.any = true) : ((x.needs.map fun n => h[n.toNat]?.getD false) ++ x.proofs.map fun n => cn n.toNat).any (fun b => b == true) = clV x h cn := by
  unfold clV
  rw [if_pos ha, List.any_append, List.any_map, List.any_map]
  congr 1 <;> (congr 1; funext n; simp)
theorem clV_all {x : Clm} {h : List Bool} {cn : Nat → Bool} (ha : x.any = false) : (!((x.needs.map fun n => h[n.toNat]?.getD false) ++ x.proofs.map fun n => cn n.toNat).any (fun b => b == false)) = clV x h cn := by
  unfold clV
  rw [ha, if_neg (by simp), List.any_append, List.any_map, List.any_map, Bool.not_or, List.not_any_eq_all_not, List.not_any_eq_all_not]
  congr 1 <;> (congr 1; funext n; simp)
theorem bcl_app (A B : List Bool) : bcl A ++ bcl B = bcl (A ++ B) := by simp [bcl]
theorem asc_short {l : List Int} {b : Int} (h : Asc l b) (hb : b ≤ 20) : l.length ≤ 100 := by
  have key : ∀ i, i < l.length → (i : Int) ≤ l[i]?.getD 0 := fun i => by
    induction i with
    | zero => intro hi; have := (h 0 hi).1; omega
    | succ i ih =>
      intro hi
      have h1 := ih (by omega)
      have h2 := (h (i + 1) hi).2.2 (by omega)
      rw [Nat.add_sub_cancel] at h2
      omega
  rcases Nat.eq_zero_or_pos l.length with h0 | h0
  · omega
  · have h1 := key (l.length - 1) (by omega)
    have h2 := (h (l.length - 1) (by omega)).2.1
    omega
theorem bcl_ne {l : List Bool} (h : 0 < l.length) : (bcl l).isEmpty = false := by cases l with
  | nil => simp at h
  | cons a l => rfl
set_option maxRecDepth 100000 in
set_option maxHeartbeats 8000000 in
theorem holds_ac (c : Cas) (hc : CasOk c) (cl : Nat) (hcl : cl < c.cl.length) (p : Nat) (hp : p < 4096) : AC Try.prog 83 [casD c, dI cl, dI p] [] [] (dB (holdC c cl p.testBit)) := by
  refine krecord_holds.ac (n0 := 0) (by simp) ⟨in_cas _ _, .val _, .val _, trivial⟩ trivial rfl ?_
  unfold crecord_holds casD
  have n1 := hc.n1
  have n2 := hc.n2
  have e0 : ((cl : Int) + 1).toNat = cl + 1 := by omega
  refine aw_seq (aw_region ?_)
  simp (config := {maxSteps := 10000000}) (disch := first | exact okYes (by kernel_rfl) | omega) only [thenQ, List.map, dB, List.length, Nat.zero_add, Nat.reduceAdd, Nat.reduceMul, envOf, dI, ARun_none, AOpRun, aexec, D.isBot, FSt.ev, St.F, ↓eget_h, Bool.false_eq_true, Option.isSome, hget_n, or_self, ↓reduceIte, D.cells, AGo_ok, St.app, putO, eput_c, Nat.reduceBEq, eput_n, cond_false, hups, hput_n, ARun_nil, dropE_c, inL_n, dropE_n]
  refine aw_seq (aw_region ?_)
  have hm1 : (0 : Int) ≤ (cl : Int) + 1 := by omega
  have hm2 : ((cl : Int) + 1) * 1 ≤ 2 ^ 48 := by omega
  have hm3 : (cl : Int) + 1 < 2 ^ 62 := by omega
  have hf0 : hlF c p.testBit (cl + 1) 0 = List.replicate (cl + 1) false := hlF_zero c p.testBit (cl + 1)
  simp (config := {maxSteps := 10000000}) (disch := first | exact okYes (by kernel_rfl) | omega) only [thenQ, List.length, Nat.zero_add, Nat.reduceAdd, Nat.reduceMul, ARun_none, AOpRun, aexec, FSt.ev, St.F, eget_c, Nat.reduceBEq, ↓eget_h, cond_false, AGo_ok, St.app, putO, eput_c, eput_n, hups, List.map, isSh, Bool.false_eq_true, ↓reduceIte, Option.map, abin, fits, hm1, cast_lit, hm2, hm3, Option.isSome, hget_c, hget_n, and_self, e0, rep_bc, ← hf0, hput_c, hput_n, ↓hget_h, D.isBot, D.cells, Nat.reduceLeDiff, List.all, D.leaf, Bool.and_true, splice, List.take, List.nil_append, List.drop, List.append_nil, beq_self_eq_true, cond_true, ARun_nil, dropE_c, inL_c, inL_n, dropE_n]
  refine aw_seq (aw_seq (aw_region ?_))
  have hm4 : (cl : Int) + 1 ≤ (c.cl.length : Int) := by omega
  have e1 : ((cl : Int) + 1 - 0).toNat = cl + 1 := by omega
  have ca := cls_all c.cl
  simp (config := {maxSteps := 10000000}) (disch := first | exact okYes (by kernel_rfl) | omega) only [thenQ, List.length, Nat.zero_add, Nat.reduceAdd, Nat.reduceMul, ARun_none, AOpRun, aexec, FSt.ev, St.F, eget_c, Nat.reduceBEq, ↓eget_h, cond_false, AGo_ok, St.app, putO, eput_c, eput_n, hups, List.map, Option.map, run1, hget_c, beq_self_eq_true, hget_n, cond_true, List.getElem?_cons_zero, isSh, Bool.false_eq_true, ↓reduceIte, abin, fits, asI, cls_len, Int.le_refl, hm1, hm4, ca, and_self, e1, Int.toNat_zero, List.drop, ARun_nil, dropE_c, inL_c, inL_n, dropE_n]
  have hSl : ((cls c.cl).take (cl + 1)).length = cl + 1 := by rw [List.length_take, cls_len]; omega
  have hSa : ((cls c.cl).take (cl + 1)).all (fun x => x.length == 3) = true := List.all_eq_true.2 fun x hx => List.all_eq_true.1 ca x (List.mem_of_mem_take hx)
  have hSg : ∀ k, k < cl + 1 → ((cls c.cl).take (cl + 1))[k]? = some (clC (clAt c k)) := fun k hk => by rw [List.getElem?_take_of_lt hk]; exact cls_gd c.cl k (by omega)
  generalize (cls c.cl).take (cl + 1) = S at *
  simp (config := {maxSteps := 10000000}) (disch := first | exact okYes (by kernel_rfl) | omega) only [hSl]
  refine aw_block ?_
  refine aw_loop (fun k : Nat => ⟨[(1, dI cl), (2, dI p), (7, .ptr 16 0), (18, .list S), (19, dI ((cl : Int) + 1)), (20, dI k)], [(16, [.vec 24 (cl + 1) 1]), (24, bcl (hlF c p.testBit (cl + 1) k))], 400⟩) (fun k => k ≤ cl + 1) (fun k => cl + 1 - k) ⟨0, by omega, ?_⟩ ?_
  · refine wk_to [] [(16, 40), (24, 32)] (by kernel_rfl) (by kernel_rfl) (by kernel_rfl) (by kernel_rfl) (by kernel_rfl) ?_ ?_ <;> repeat' (first | exact trivial | exact vr_val _ | exact vr_list _ | exact vr_vec _ _ _ _ rfl | exact vr_ptr _ _ _ rfl | refine And.intro ⟨_, rfl, .inl ⟨_, rfl, by decide, ?_⟩⟩ ?_ | apply And.intro)
    all_goals exact vrl_flat _ (bcl_in _)
  intro k hk
  by_cases hk2 : k < cl + 1
  case neg =>
    obtain rfl : k = cl + 1 := by omega
    have g1 := bc_gd (hlF c p.testBit (cl + 1) (cl + 1)) cl (by rw [hlF_len]; omega)
    rw [hlF_get c p.testBit (cl + 1) (cl + 1) cl (by omega) (by omega)] at g1
    have g2 := bcl_len (hlF c p.testBit (cl + 1) (cl + 1))
    rw [hlF_len] at g2
    have q : decide (((cl + 1 : Nat) : Int) < (cl : Int) + 1) = false := decide_eq_false (by omega)
    have q2 : (cl : Int) < ((cl + 1 : Nat) : Int) := by omega
    have q3 : (0 : Int) ≤ (cl : Int) := by omega
    show AWb _ _ _ _ _ _ _
    (have hg : (987654321 : Nat) - 987654321 = 0 := rfl; have hr := hg; repeat' (first | refine aw_seq ?_ | (refine aw_skip ?_; try simp only [thenQ, blockQ, if_true, if_false, Nat.reduceEqDiff, reduceCtorEq]) | (refine aw_exit ?_; try simp only [thenQ, blockQ, if_true, if_false, Nat.reduceEqDiff, reduceCtorEq]) | refine aw_ret ?_ | refine aw_block ?_ | refine aw_condT rfl ?_ | refine aw_condF rfl ?_ | ((first | refine aw_region ?_ | refine ago_if (by omega) ?_ | skip); simp (config := {maxSteps := 10000000}) (disch := first | exact okYes (by kernel_rfl) | omega) only [thenQ, dI, List.length, Nat.zero_add, Nat.mul_one, Nat.reduceAdd, ARun_none, AOpRun, aexec, FSt.ev, St.F, eget_c, Nat.reduceBEq, ↓eget_h, cond_false, isSh, Bool.false_eq_true, ↓reduceIte, Option.map, abin, q, AGo_ok, St.app, putO, eput_c, eput_n, hups, List.map, ARun_nil, dropE_c, inL_n, dropE_n, Nat.reduceMul, run1, hget_c, beq_self_eq_true, hget_n, cond_true, Nat.add_zero, List.getElem?_cons_zero, q3, q2, and_self, Int.toNat_natCast, ↓hget_h, g1, inL_c])))
    all_goals (refine end_to [] [] (by first | exact .inl rfl | exact .inr rfl) rfl (by kernel_rfl) (by kernel_rfl) (by kernel_rfl) ?_ ?_ <;> repeat' (first | exact trivial | exact vr_val _))
  have g1 := hSg k hk2
  unfold clC at g1
  obtain ⟨as1, as2⟩ := hc.asc k (by omega)
  have hsu := hlF_succ c p.testBit (cl + 1) k hk2
  have hdl := hlF_len c p.testBit (cl + 1) k
  have eA : (clAt c k).needs.map (fun n => (hlF c p.testBit (cl + 1) k)[n.toNat]?.getD false) = (clAt c k).needs.map (fun n => (hlK c p.testBit k)[n.toNat]?.getD false) := by
    refine List.map_congr_left fun n hn => ?_
    have := asc_lt as1 hn
    exact hlF_get c p.testBit (cl + 1) k n.toNat (by omega) (by omega)
  have va := clV_any (x := clAt c k) (h := hlK c p.testBit k) (cn := p.testBit)
  have vl := clV_all (x := clAt c k) (h := hlK c p.testBit k) (cn := p.testBit)
  have l1 : (clAt c k).needs.length ≤ 100 := asc_short as1 (by omega)
  have l2 : (clAt c k).proofs.length ≤ 100 := asc_short as2 (by omega)
  have pk1 := pick1_ac (hlF c p.testBit (cl + 1) k) (bcl_ne (by omega)) (clAt c k).needs (by omega) (fun j hj => by have := as1 j hj; omega)
  have pk2 := pick2_ac p hp (clAt c k).proofs (by omega) (fun j hj => by have := as2 j hj; omega)
  rw [eA, hdl] at pk1
  have hAl : ((clAt c k).needs.map (fun n => (hlK c p.testBit k)[n.toNat]?.getD false)).length = (clAt c k).needs.length := List.length_map ..
  have hBl : ((clAt c k).proofs.map (fun n => p.testBit n.toNat)).length = (clAt c k).proofs.length := List.length_map ..
  generalize (clAt c k).needs.map (fun n => (hlK c p.testBit k)[n.toNat]?.getD false) = A at *
  generalize (clAt c k).proofs.map (fun n => p.testBit n.toNat) = B at *
  generalize clV (clAt c k) (hlK c p.testBit k) p.testBit = V at *
  generalize clAt c k = x at *
  generalize hlF c p.testBit (cl + 1) k = H at *
  have ki : (k : Int) < (cl : Int) + 1 := by omega
  refine aw_seq (aw_region ?_)
  simp (config := {maxSteps := 10000000}) (disch := first | exact okYes (by kernel_rfl) | omega) only [thenQ, dI, List.length, Nat.zero_add, Nat.reduceMul, Nat.reduceAdd, ARun_none, AOpRun, aexec, FSt.ev, St.F, eget_c, Nat.reduceBEq, ↓eget_h, cond_false, isSh, Bool.false_eq_true, ↓reduceIte, Option.map, abin, ki, decide_true, AGo_ok, St.app, putO, eput_c, eput_n, hups, List.map, ARun_nil, dropE_c, inL_n, dropE_n]
  refine aw_seq (aw_condT rfl (aw_skip ?_))
  refine aw_seq (aw_block (aw_seq (aw_region ?_)))
  simp (config := {maxSteps := 10000000}) (disch := first | exact okYes (by kernel_rfl) | omega) only [thenQ, List.length, Nat.zero_add, Nat.reduceAdd, Nat.reduceMul, ARun_none, AOpRun, aexec, FSt.ev, St.F, eget_c, Nat.reduceBEq, ↓eget_h, cond_false, AGo_ok, St.app, putO, eput_c, eput_n, hups, List.map, Int.natCast_nonneg, hSa, and_self, ↓reduceIte, opt1, Option.map, Int.toNat_natCast, g1, dB, Nat.reduceLeDiff, List.take, Option.isSome, hget_c, hget_n, Bool.false_eq_true, hput_c, hput_n, ↓hget_h, D.isBot, D.cells, List.all, D.leaf, Bool.and_true, splice, List.nil_append, List.drop, List.append_nil, beq_self_eq_true, cond_true, ARun_nil, dropE_c, inL_c, inL_n, dropE_n]
  refine aw_wk (s' := ⟨[(1, dI cl), (2, dI p), (7, .ptr 16 0), (8, dI k), (9, .ptr 40 0), (18, .list S), (19, dI ((cl : Int) + 1)), (20, dI k)], [(16, [.vec 24 (cl + 1) 1]), (24, bcl H), (40, [.list (ints x.needs), .list (ints x.proofs), dB x.any])], 72⟩) ?_ ?_
  · unfold dI dB
    refine wk_to [] [(16, 16), (24, 24), (40, 432)] (by kernel_rfl) (by kernel_rfl) (by kernel_rfl) (by kernel_rfl) (by kernel_rfl) ?_ ?_ <;> repeat' (first | exact trivial | exact vr_val _ | exact vr_list _ | exact vr_vec _ _ _ _ rfl | exact vr_ptr _ _ _ rfl | refine And.intro ⟨_, rfl, .inl ⟨_, rfl, by decide, ?_⟩⟩ ?_ | apply And.intro)
    all_goals exact vrl_flat _ (bcl_in _)
  refine aw_seq (aw_region ?_)
  simp (config := {maxSteps := 10000000}) (disch := first | exact okYes (by kernel_rfl) | omega) only [thenQ, List.length, Nat.zero_add, Nat.reduceAdd, Nat.reduceMul, dI, dB, ARun_none, AOpRun, aexec, FSt.ev, St.F, eget_c, Nat.reduceBEq, ↓eget_h, cond_false, AGo_ok, St.app, putO, eput_c, eput_n, hups, List.map, Option.map, run1, hget_c, ↓hget_h, List.getElem?_cons_zero]
  refine acallB pk1 (by repeat' (first | exact trivial | exact rfl | refine And.intro ?_ ?_)) (by kernel_rfl) (by kernel_rfl) (by kernel_rfl) ?_
  simp (config := {maxSteps := 10000000}) (disch := first | exact okYes (by kernel_rfl) | omega) only [Nat.reduceAdd, St.app, putO, eput_c, Nat.reduceBEq, eput_n, cond_false, hups, hput_c, hput_n, beq_self_eq_true, cond_true, List.map, List.append_nil, ARun_none, AOpRun, aexec, FSt.ev, St.F, eget_c, ↓eget_h, Nat.zero_add, AGo_ok, Option.map, run1, hget_c, ↓hget_h, List.getElem?_cons_succ, List.getElem?_cons_zero]
  refine acallB pk2 (by repeat' (first | exact trivial | exact rfl | refine And.intro ?_ ?_)) (by kernel_rfl) (by kernel_rfl) (by kernel_rfl) ?_
  have hac : (bcl A).length = x.needs.length := by rw [bcl_len]; exact hAl
  have hat : (bcl A).take x.needs.length = bcl A := List.take_of_length_le (by omega)
  have hbc : (bcl B).length = x.proofs.length := by rw [bcl_len]; exact hBl
  have hbt : (bcl B).take x.proofs.length = bcl B := List.take_of_length_le (by omega)
  have hbl := bcl_leaf B
  simp (config := {maxSteps := 10000000}) (disch := first | exact okYes (by kernel_rfl) | omega) only [Nat.reduceAdd, St.app, putO, eput_c, Nat.reduceBEq, eput_n, cond_false, hups, hput_c, hput_n, List.map, List.append_nil, ARun_none, AOpRun, aexec, base, FSt.ev, St.F, eget_c, ↓eget_h, hget_c, ↓hget_h, Nat.mul_one, hac, Nat.le_refl, and_self, ↓reduceIte, hat, elems, hbc, hbt, Option.isSome, Nat.reduceMul, hget_n, hbl, and_true, ups, List.cons_append, List.nil_append]
  refine ago_if (by omega) ?_
  simp (config := {maxSteps := 10000000}) (disch := first | exact okYes (by kernel_rfl) | omega) only [AGo_ok, Nat.reduceAdd, St.app, putO, eput_c, Nat.reduceBEq, eput_n, cond_false, hups, hput_c, hput_n, hdel_c, beq_self_eq_true, hdel_n, cond_true, List.map, ARun_none, AOpRun, aexec, FSt.ev, St.F, eget_c, ↓eget_h, ARun_nil, dropE_c, inL_c, inL_n, dropE_n]
  rw [bcl_app]
  have hL : (A ++ B).length = x.needs.length + x.proofs.length := by simp [hAl, hBl]
  refine aw_wk (s' := ⟨[(1, dI cl), (2, dI p), (7, .ptr 16 0), (8, dI k), (9, .ptr 40 0), (10, .vec 144 (x.needs.length + x.proofs.length) 1), (18, .list S), (19, dI ((cl : Int) + 1)), (20, dI k)], [(16, [.vec 24 (cl + 1) 1]), (24, bcl H), (40, [.list (ints x.needs), .list (ints x.proofs), dB x.any]), (144, bcl (A ++ B))], 200⟩) ?_ ?_
  · unfold dI dB
    refine wk_to [] [(16, 16), (24, 24), (40, 40), (144, 144)] (by kernel_rfl) (by kernel_rfl) (by kernel_rfl) (by kernel_rfl) (by kernel_rfl) ?_ ?_ <;> repeat' (first | exact trivial | exact vr_val _ | exact vr_list _ | exact vr_vec _ _ _ _ rfl | exact vr_ptr _ _ _ rfl | refine And.intro ⟨_, rfl, .inl ⟨_, rfl, by decide, ?_⟩⟩ ?_ | apply And.intro)
    all_goals exact vrl_flat _ (bcl_in _)
  have ct := cbool_ac (A ++ B) true (by omega)
  have cf := cbool_ac (A ++ B) false (by omega)
  generalize A ++ B = L at *
  have hHc : (bcl H).length = cl + 1 := (bcl_len H).trans hdl
  have hHk : k + 1 ≤ cl + 1 := by omega
  have hHb := bc_t H k V (by omega)
  have hcin := bcl_in (H.set k V)
  have k0 : (0 : Int) ≤ (k : Int) := by omega
  have k1 : (k : Int) < ((cl + 1 : Nat) : Int) := by omega
  have hfin : ∀ s : St, Wk [] s ⟨[(1, dI cl), (2, dI p), (7, .ptr 16 0), (18, .list S), (19, dI ((cl : Int) + 1)), (20, dI ((k + 1 : Nat) : Int))], [(16, [.vec 24 (cl + 1) 1]), (24, bcl (H.set k V))], 400⟩ → ∃ j, j ≤ cl + 1 ∧ cl + 1 - j < cl + 1 - k ∧ Wk [] s ⟨[(1, dI cl), (2, dI p), (7, .ptr 16 0), (18, .list S), (19, dI ((cl : Int) + 1)), (20, dI j)], [(16, [.vec 24 (cl + 1) 1]), (24, bcl (hlF c p.testBit (cl + 1) j))], 400⟩ := fun s hs => ⟨k + 1, by omega, by omega, by rw [hsu]; exact hs⟩
  cases ha : x.any with
  | true =>
    rw [va ha] at ct
    refine aw_seq (aw_region ?_)
    simp (config := {maxSteps := 10000000}) (disch := first | exact okYes (by kernel_rfl) | omega) only [thenQ, List.length, Nat.zero_add, Nat.reduceAdd, Nat.reduceMul, dI, dB, ARun_none, AOpRun, aexec, FSt.ev, St.F, eget_c, Nat.reduceBEq, ↓eget_h, cond_false, AGo_ok, St.app, putO, eput_c, eput_n, hups, List.map, Option.map, run1, hget_c, ↓hget_h, List.getElem?_cons_succ, List.getElem?_cons_zero, ARun_nil, dropE_c, inL_c, inL_n, beq_self_eq_true, cond_true, dropE_n]
    refine aw_condT rfl (aw_region ?_)
    simp (config := {maxSteps := 10000000}) (disch := first | exact okYes (by kernel_rfl) | omega) only [blockQ, thenQ, List.length, Nat.zero_add, Nat.reduceAdd, Nat.reduceMul, ARun_none, AOpRun, aexec, Option.map, run1, FSt.ev, St.F, eget_c, Nat.reduceBEq, ↓eget_h, cond_false, hget_c, beq_self_eq_true, hget_n, cond_true, List.getElem?_cons_zero, AGo_ok, St.app, putO, eput_c, eput_n, hups, List.map]
    refine acall ct [144] ⟨vec_bools L (by simp) rfl hL, .refl _, trivial⟩ (.inr (.val _)) (by intro g hg; simp at hg; subst hg; exact ⟨_, rfl⟩) (by kernel_rfl) ?_
    simp (config := {maxSteps := 10000000}) (disch := first | exact okYes (by kernel_rfl) | omega) only [Nat.reduceAdd, St.app, putO, dB, eput_c, Nat.reduceBEq, eput_n, cond_false, hups, ARun_none, AOpRun, aexec, FSt.ev, St.F, eget_c, ↓eget_h, k0, k1, and_self, ↓reduceIte, Int.toNat_natCast, Nat.mul_one, AGo_ok, List.map, hget_c, ↓hget_h, D.isBot, D.cells, List.length, Nat.zero_add, hHc, hHk, List.all, D.leaf, Bool.and_true, splice, hHb, hput_c, beq_self_eq_true, hput_n, cond_true, ARun_nil, dropE_c, inL_c, inL_n, dropE_n]
    refine aw_region ?_
    simp (config := {maxSteps := 10000000}) (disch := first | exact okYes (by kernel_rfl) | omega) only [thenQ, List.length, Nat.zero_add, Nat.reduceAdd, Nat.reduceMul, ARun_none, AOpRun, aexec, FSt.ev, St.F, eget_c, Nat.reduceBEq, ↓eget_h, cond_false, isSh, Bool.false_eq_true, ↓reduceIte, Option.map, abin, fits, AGo_ok, St.app, putO, eput_c, eput_n, hups, List.map, beq_self_eq_true, cond_true, ARun_nil, dropE_c, inL_c, inL_n, dropE_n]
    refine hfin _ ?_
    unfold dI
    refine wk_to [] [(16, 16), (24, 24)] (by kernel_rfl) (by kernel_rfl) (by kernel_rfl) (by kernel_rfl) (by kernel_rfl) ?_ ?_ <;> repeat' (first | exact trivial | exact vr_val _ | exact vr_list _ | exact vr_vec _ _ _ _ rfl | exact vr_ptr _ _ _ rfl | refine And.intro ⟨_, rfl, .inl ⟨_, rfl, by decide, ?_⟩⟩ ?_ | apply And.intro | exact vrl_flat _ (by first | exact icells_in _ | exact rcells_in _ | exact scells_in _ | exact bcells_in _ | assumption) | fail)
    all_goals exact vrl_flat _ hcin
  | false =>
    refine aw_seq (aw_region ?_)
    simp (config := {maxSteps := 10000000}) (disch := first | exact okYes (by kernel_rfl) | omega) only [thenQ, List.length, Nat.zero_add, Nat.reduceAdd, Nat.reduceMul, dI, dB, ARun_none, AOpRun, aexec, FSt.ev, St.F, eget_c, Nat.reduceBEq, ↓eget_h, cond_false, AGo_ok, St.app, putO, eput_c, eput_n, hups, List.map, Option.map, run1, hget_c, ↓hget_h, List.getElem?_cons_succ, List.getElem?_cons_zero, ARun_nil, dropE_c, inL_c, inL_n, beq_self_eq_true, cond_true, dropE_n]
    refine aw_condF rfl (aw_region ?_)
    simp (config := {maxSteps := 10000000}) (disch := first | exact okYes (by kernel_rfl) | omega) only [blockQ, thenQ, List.length, Nat.zero_add, Nat.reduceAdd, Nat.reduceMul, ARun_none, AOpRun, aexec, Option.map, run1, FSt.ev, St.F, eget_c, Nat.reduceBEq, ↓eget_h, cond_false, hget_c, beq_self_eq_true, hget_n, cond_true, List.getElem?_cons_zero, AGo_ok, St.app, putO, eput_c, eput_n, hups, List.map]
    refine acall cf [144] ⟨vec_bools L (by simp) rfl hL, .refl _, trivial⟩ (.inr (.val _)) (by intro g hg; simp at hg; subst hg; exact ⟨_, rfl⟩) (by kernel_rfl) ?_
    have vf := vl ha
    generalize (L.any fun b => b == false) = W at *
    subst vf
    simp (config := {maxSteps := 10000000}) (disch := first | exact okYes (by kernel_rfl) | omega) only [Nat.reduceAdd, St.app, putO, dB, eput_c, Nat.reduceBEq, eput_n, cond_false, hups, ARun_none, AOpRun, aexec, FSt.ev, St.F, eget_c, ↓eget_h, AGo_ok, List.map, k0, k1, and_self, ↓reduceIte, Int.toNat_natCast, Nat.mul_one, hget_c, ↓hget_h, D.isBot, D.cells, List.length, Nat.zero_add, hHc, hHk, List.all, D.leaf, Bool.and_true, splice, hHb, hput_c, beq_self_eq_true, hput_n, cond_true, ARun_nil, dropE_c, inL_c, inL_n, dropE_n]
    refine aw_region ?_
    simp (config := {maxSteps := 10000000}) (disch := first | exact okYes (by kernel_rfl) | omega) only [thenQ, List.length, Nat.zero_add, Nat.reduceAdd, Nat.reduceMul, ARun_none, AOpRun, aexec, FSt.ev, St.F, eget_c, Nat.reduceBEq, ↓eget_h, cond_false, isSh, Bool.false_eq_true, ↓reduceIte, Option.map, abin, fits, AGo_ok, St.app, putO, eput_c, eput_n, hups, List.map, beq_self_eq_true, cond_true, ARun_nil, dropE_c, inL_c, inL_n, dropE_n]
    refine hfin _ ?_
    unfold dI
    refine wk_to [] [(16, 16), (24, 24)] (by kernel_rfl) (by kernel_rfl) (by kernel_rfl) (by kernel_rfl) (by kernel_rfl) ?_ ?_ <;> repeat' (first | exact trivial | exact vr_val _ | exact vr_list _ | exact vr_vec _ _ _ _ rfl | exact vr_ptr _ _ _ rfl | refine And.intro ⟨_, rfl, .inl ⟨_, rfl, by decide, ?_⟩⟩ ?_ | apply And.intro | exact vrl_flat _ (by first | exact icells_in _ | exact rcells_in _ | exact scells_in _ | exact bcells_in _ | assumption) | fail)
    all_goals exact vrl_flat _ hcin
end Go.Proofs.Ytdcodicoclecnaa
/- record: until when a claim holds. No conditions. -/
set_option linter.unusedSimpArgs false
set_option linter.unusedVariables false
namespace Go.Proofs.Ytdcodicoclecnaa
open Go Go.RowKit Lift

/-- the first tick from t on in which h fails, at most so many ticks behind -/
def untF (h : Nat → Bool) : Nat → Nat → Nat
  | 0, t => t
  | n + 1, t => if h t = true then untF h n (t + 1) else t
/-- whether a claim holds in a tick -/
def hAtT (c : Cas) (cl : Nat) (t : Nat) : Bool := holdC c cl (cntT c (t : Int))
def untT (c : Cas) (cl tk : Nat) : Nat := untF (hAtT c cl) (2001 - tk) tk
theorem cntN_fun (c : Cas) (tick : Int) : (cntN c tick).testBit = cntT c tick := funext fun j => cntN_test c tick j
theorem cntN_lt {c : Cas} (hc : CasOk c) (tick : Int) : cntN c tick < 4096 := bits_small _ hc.n2 (Nat.le_refl _)
theorem clmE_ok {c : Cas} {claim tick : Int} (h : clmE c claim tick 122 1 = 0) : CasOk c ∧ ∃ cl tk : Nat, claim = cl ∧ tick = tk ∧ cl < c.cl.length ∧ tk ≤ 2000 := by
  unfold clmE at h
  by_cases hc : CasOk c
  · rw [casE_ok hc, if_neg (by simp)] at h
    split at h
    · rename_i h1
      exact ⟨hc, claim.toNat, tick.toNat, by omega, by omega, by omega, by omega⟩
    · omega
  · rw [casE_no hc, if_pos (by omega)] at h; omega
set_option maxRecDepth 100000 in
set_option maxHeartbeats 4000000 in
theorem until_ok (c : Cas) (hi : CasIn c) (cl tk : Nat) (h0 : clmE c cl tk 122 1 = 0) : AC Try.prog 37 [casD c, dI cl, dI tk] [] [] (if untT c cl tk = tk then .tup [dI 0, dI 3] else .tup [dI ((untT c cl tk : Nat) - 1 : Int), dI 0]) := by
  refine krecord_Until.ac (n0 := 0) (by simp) ⟨in_cas _ _, .val _, .val _, trivial⟩ trivial rfl ?_
  obtain ⟨hc, cl', tk', e1, e2, hcl, htk⟩ := clmE_ok h0
  obtain rfl : cl = cl' := by omega
  obtain rfl : tk = tk' := by omega
  have ck := ccheck_ac c hi cl tk
  rw [h0] at ck
  have hh := fun t : Nat => holds_ac c hc cl hcl (cntN c t) (cntN_lt hc t)
  have cc := fun t : Nat => counting_ac c hc.n2 (t : Int)
  unfold crecord_Until
  unfold casD at *
  (have hg : (987654321 : Nat) - 987654321 = 0 := rfl; have hr := hg; repeat' (first | refine aw_seq ?_ | (refine aw_skip ?_; try simp only [thenQ, blockQ, if_true, if_false, Nat.reduceEqDiff, reduceCtorEq]) | (refine aw_exit ?_; try simp only [thenQ, blockQ, if_true, if_false, Nat.reduceEqDiff, reduceCtorEq]) | refine aw_ret ?_ | refine aw_block ?_ | refine aw_condT rfl ?_ | refine aw_condF rfl ?_ | ((first | refine aw_region ?_ | refine acall0 (ck) ?_ | refine ago_if (by omega) ?_ | skip); simp (config := {maxSteps := 10000000}) (disch := first | exact okYes (by kernel_rfl) | omega) only [thenQ, List.map, dI, List.length, Nat.zero_add, Nat.reduceAdd, Nat.reduceMul, envOf, ARun_none, AOpRun, aexec, D.isBot, FSt.ev, St.F, ↓eget_h, Bool.false_eq_true, Option.isSome, hget_n, or_self, ↓reduceIte, D.cells, AGo_ok, St.app, putO, eput_c, Nat.reduceBEq, eput_n, cond_false, hups, hput_n, ARun_nil, dropE_c, inL_n, dropE_n, eget_c, hget_c, beq_self_eq_true, cond_true, Nat.reduceLeDiff, List.drop, List.take, inL_c, isSh, Option.map, abin, bne_self_eq_false])))
  refine aw_loop (fun t : Nat => ⟨[(1, dI cl), (2, dI tk), (3, .ptr 0 0), (9, dI t)], [(0, [.list (cls c.cl), .list (sps c.pf)])], 400⟩) (fun t => tk ≤ t ∧ t ≤ 2001 ∧ untF (hAtT c cl) (2001 - t) t = untT c cl tk) (fun t => 2001 - t) ⟨tk, ⟨by omega, by omega, rfl⟩, ?_⟩ ?_
  · refine wk_to [] [(0, 0)] (by kernel_rfl) (by kernel_rfl) (by kernel_rfl) (by kernel_rfl) (by kernel_rfl) ?_ ?_ <;> repeat' (first | exact trivial | exact vr_val _ | exact vr_list _ | exact vr_ptr _ _ _ rfl | refine And.intro ⟨_, rfl, .inl ⟨_, rfl, by decide, ?_⟩⟩ ?_ | apply And.intro)
  rintro t ⟨ht1, ht2, hu⟩
  have ht := hh t
  rw [cntN_fun] at ht
  have ct := cc t
  generalize cntN c t = p at ht ct
  by_cases hle : t ≤ 2000
  case neg =>
    obtain rfl : t = 2001 := by omega
    have e : untT c cl tk = 2001 := by rw [← hu]; rfl
    rw [e, if_neg (by omega)]
    (have hg : (987654321 : Nat) - 987654321 = 0 := rfl; have hr := hg; repeat' (first | refine aw_seq ?_ | (refine aw_skip ?_; try simp only [thenQ, blockQ, if_true, if_false, Nat.reduceEqDiff, reduceCtorEq]) | (refine aw_exit ?_; try simp only [thenQ, blockQ, if_true, if_false, Nat.reduceEqDiff, reduceCtorEq]) | refine aw_ret ?_ | refine aw_block ?_ | refine aw_condT rfl ?_ | refine aw_condF rfl ?_ | (refine aw_cond rfl (fun hg => ?_) (fun hg => ?_) <;> (try (have hq := hg; simp only [Bool.not_eq_true', Bool.not_eq_false', Bool.and_eq_true, Bool.and_eq_false_iff, Bool.or_eq_true, Bool.or_eq_false_iff, decide_eq_true_eq, decide_eq_false_iff_not, bne_iff_ne, beq_iff_eq, beq_eq_false_iff_ne, bne_eq_false_iff_eq, ne_eq, Int.not_lt, Int.not_le, Decidable.not_not] at hq)) <;> (try (have hr := hg; simp only [decide_eq_true_eq, decide_eq_false_iff_not] at hr)) <;> (try (exfalso; omega))) | ((first | refine aw_region ?_ | refine ago_if (by omega) ?_ | skip); simp (config := {maxSteps := 10000000}) (disch := first | exact okYes (by kernel_rfl) | omega) only [thenQ, hg, dI, cast_lit, Int.reduceSub, List.length, Nat.zero_add, Nat.reduceAdd, Nat.reduceMul, ARun_none, AOpRun, aexec, FSt.ev, St.F, eget_c, Nat.reduceBEq, ↓eget_h, cond_false, AGo_ok, St.app, putO, eput_c, eput_n, hups, List.map, isSh, Bool.false_eq_true, ↓reduceIte, Option.map, abin, Int.reduceLE, decide_false, ARun_some, AG_ft, ARun_nil, dropE_c, inL_c, inL_n, beq_self_eq_true, cond_true, dropE_n, fits])))
    all_goals (refine end_to [] [] (by first | exact .inl rfl | exact .inr rfl) rfl (by kernel_rfl) (by kernel_rfl) (by kernel_rfl) ?_ ?_ <;> repeat' (first | exact trivial | exact vr_val _ | apply vr_tup | apply And.intro))
  have q1 : decide ((t : Int) ≤ 2000) = true := decide_eq_true (by omega)
  cases hv : holdC c cl (cntT c (t : Int)) with
  | false =>
    rw [hv] at ht
    have e : untT c cl tk = t := by
      rw [← hu, show 2001 - t = (2000 - t) + 1 by omega]
      unfold untF
      rw [if_neg (by unfold hAtT; simp [hv])]
    rw [e]
    by_cases hte : t = tk
    · subst hte
      rw [if_pos rfl]
      (have hg : (987654321 : Nat) - 987654321 = 0 := rfl; have hr := hg; repeat' (first | refine aw_seq ?_ | (refine aw_skip ?_; try simp only [thenQ, blockQ, if_true, if_false, Nat.reduceEqDiff, reduceCtorEq]) | (refine aw_exit ?_; try simp only [thenQ, blockQ, if_true, if_false, Nat.reduceEqDiff, reduceCtorEq]) | refine aw_ret ?_ | refine aw_block ?_ | refine aw_condT rfl ?_ | refine aw_condF rfl ?_ | ((first | refine aw_region ?_ | refine acall0 (ct) ?_ | refine acall0 (ht) ?_ | refine ago_if (by omega) ?_ | skip); simp (config := {maxSteps := 10000000}) (disch := first | exact okYes (by kernel_rfl) | omega) only [thenQ, dI, List.length, Nat.zero_add, Nat.reduceAdd, Nat.reduceMul, ARun_none, AOpRun, aexec, FSt.ev, St.F, eget_c, Nat.reduceBEq, ↓eget_h, cond_false, AGo_ok, St.app, putO, eput_c, eput_n, hups, List.map, isSh, Bool.false_eq_true, ↓reduceIte, Option.map, abin, q1, ARun_some, AG_tt, hget_c, beq_self_eq_true, hget_n, cond_true, Nat.reduceLeDiff, List.drop, List.take, dB, ARun_nil, dropE_c, inL_c, inL_n, dropE_n])))
      all_goals (refine end_to [] [] (by first | exact .inl rfl | exact .inr rfl) rfl (by kernel_rfl) (by kernel_rfl) (by kernel_rfl) ?_ ?_ <;> repeat' (first | exact trivial | exact vr_val _ | apply vr_tup | apply And.intro))
    · rw [if_neg hte]
      have q2 : ((t : Int) == (tk : Int)) = false := by simp only [beq_eq_false_iff_ne]; omega
      (have hg : (987654321 : Nat) - 987654321 = 0 := rfl; have hr := hg; repeat' (first | refine aw_seq ?_ | (refine aw_skip ?_; try simp only [thenQ, blockQ, if_true, if_false, Nat.reduceEqDiff, reduceCtorEq]) | (refine aw_exit ?_; try simp only [thenQ, blockQ, if_true, if_false, Nat.reduceEqDiff, reduceCtorEq]) | refine aw_ret ?_ | refine aw_block ?_ | refine aw_condT rfl ?_ | refine aw_condF rfl ?_ | ((first | refine aw_region ?_ | refine acall0 (ct) ?_ | refine acall0 (ht) ?_ | refine ago_if (by omega) ?_ | skip); simp (config := {maxSteps := 10000000}) (disch := first | exact okYes (by kernel_rfl) | omega) only [thenQ, dI, List.length, Nat.zero_add, Nat.reduceAdd, Nat.reduceMul, ARun_none, AOpRun, aexec, FSt.ev, St.F, eget_c, Nat.reduceBEq, ↓eget_h, cond_false, AGo_ok, St.app, putO, eput_c, eput_n, hups, List.map, isSh, Bool.false_eq_true, ↓reduceIte, Option.map, abin, q1, ARun_some, AG_tt, hget_c, beq_self_eq_true, hget_n, cond_true, Nat.reduceLeDiff, List.drop, List.take, dB, ARun_nil, dropE_c, inL_c, inL_n, dropE_n, q2, fits])))
      all_goals (refine end_to [] [] (by first | exact .inl rfl | exact .inr rfl) rfl (by kernel_rfl) (by kernel_rfl) (by kernel_rfl) ?_ ?_ <;> repeat' (first | exact trivial | exact vr_val _ | apply vr_tup | apply And.intro))
  | true =>
    rw [hv] at ht
    have e : untF (hAtT c cl) (2001 - (t + 1)) (t + 1) = untT c cl tk := by
      rw [← hu, show 2001 - t = (2001 - (t + 1)) + 1 by omega]
      conv => rhs; unfold untF
      rw [if_pos (by unfold hAtT; exact hv)]
    (have hg : (987654321 : Nat) - 987654321 = 0 := rfl; have hr := hg; repeat' (first | refine aw_seq ?_ | (refine aw_skip ?_; try simp only [thenQ, blockQ, if_true, if_false, Nat.reduceEqDiff, reduceCtorEq]) | (refine aw_exit ?_; try simp only [thenQ, blockQ, if_true, if_false, Nat.reduceEqDiff, reduceCtorEq]) | refine aw_ret ?_ | refine aw_block ?_ | refine aw_condT rfl ?_ | refine aw_condF rfl ?_ | ((first | refine aw_region ?_ | refine acall0 (ct) ?_ | refine acall0 (ht) ?_ | refine ago_if (by omega) ?_ | skip); simp (config := {maxSteps := 10000000}) (disch := first | exact okYes (by kernel_rfl) | omega) only [thenQ, dI, List.length, Nat.zero_add, Nat.reduceAdd, Nat.reduceMul, ARun_none, AOpRun, aexec, FSt.ev, St.F, eget_c, Nat.reduceBEq, ↓eget_h, cond_false, AGo_ok, St.app, putO, eput_c, eput_n, hups, List.map, isSh, Bool.false_eq_true, ↓reduceIte, Option.map, abin, q1, ARun_some, AG_tt, hget_c, beq_self_eq_true, hget_n, cond_true, Nat.reduceLeDiff, List.drop, List.take, dB, ARun_nil, dropE_c, inL_c, inL_n, dropE_n, blockQ, fits])))
    refine ⟨t + 1, ⟨by omega, by omega, e⟩, by omega, ?_⟩
    refine wk_to [] [(0, 0)] (by kernel_rfl) (by kernel_rfl) (by kernel_rfl) (by kernel_rfl) (by kernel_rfl) ?_ ?_ <;> repeat' (first | exact trivial | exact vr_val _ | exact vr_list _ | exact vr_ptr _ _ _ rfl | refine And.intro ⟨_, rfl, .inl ⟨_, rfl, by decide, ?_⟩⟩ ?_ | apply And.intro)
end Go.Proofs.Ytdcodicoclecnaa
/- law12: the example and what is made of it. No conditions. -/
set_option linter.unusedSimpArgs false
set_option linter.unusedVariables false
namespace Go.Proofs.Ytdcodicoclecnaa
open Go Go.RowKit Lift

def exL : Lay := ⟨4, 100, 200, 300, 400, [⟨1, 0, 8, true, 1, 2, 10, 1, 0⟩, ⟨2, 4, 3, false, 5, 1, 0, 2, 1⟩, ⟨3, 0, 1, false, 1, 1, 0, 1, 0⟩]⟩
def exF : List (List Int) := [[100, 4, 0, 0], [200, 254, 48, 1], [300, 6, 0, 0]]
def exC : Cas := ⟨[⟨[], [0, 1], false⟩, ⟨[0], [2], true⟩, ⟨[0, 1], [], false⟩], [(0, 10), (5, 20), (8, 30)]⟩
theorem exC_ok : CasOk exC := ⟨by decide, by decide, by decide, by decide⟩
theorem exC_in : CasIn exC := ⟨by decide, by decide, fun i => by
  rcases i with _ | _ | _ | i <;> simp [exC, clAt, cl0], fun i => by
  rcases i with _ | _ | _ | i <;> simp [exC, clAt, cl0]⟩
theorem exU : untT exC 1 5 = 31 := by decide
theorem exE : clmE exC ((1 : Nat) : Int) ((5 : Nat) : Int) 122 1 = 0 := by
  unfold clmE
  rw [casE_ok exC_ok]
  decide
theorem exL_in : LayIn exL := ⟨by decide, fun k hk => by
  rcases (by have : exL.fl.length = 3 := rfl
             omega : k = 0 ∨ k = 1 ∨ k = 2) with rfl | rfl | rfl <;> decide⟩
def isV : D → Bool
  | .val _ => true
  | .list _ => true
  | _ => false
theorem vals_in {S : Nat → Prop} {c : List D} (h : c.all isV = true) : ∀ d ∈ c, In S d := fun d hd => by
  have := List.all_eq_true.1 h d hd
  cases d <;> first | exact .val _ | exact .list _ | (simp [isV] at this)
set_option maxRecDepth 100000 in
set_option maxHeartbeats 4000000 in
theorem example_ac : AC Try.prog 64 [] [] [] (.tup [layD exL, .list (rows exF), casD exC]) := by
  refine klaw12_Example.ac (n0 := 0) (by simp) trivial trivial rfl ?_
  unfold claw12_Example
  refine aw_seq (aw_region ?_)
  simp (config := {maxSteps := 10000000}) (disch := first | exact okYes (by kernel_rfl) | omega) only [thenQ, List.map, List.length, Nat.zero_add, Nat.reduceAdd, Nat.reduceMul, envOf, ARun_none, AOpRun, aexec, Option.isSome, hget_n, Bool.false_eq_true, ↓reduceIte, AGo_ok, St.app, putO, eput_n, hups, hput_n, FSt.ev, eput_c, Nat.reduceBEq, cond_false, hget_c, hput_c, ARun_nil, dropE_c, inL_n, dropE_n]
  refine aw_seq (aw_region ?_)
  simp (config := {maxSteps := 10000000}) (disch := first | exact okYes (by kernel_rfl) | omega) only [thenQ, List.length, Nat.zero_add, Nat.reduceAdd, Nat.reduceMul, ARun_none, AOpRun, aexec, Option.map, fillD, D.isBot, FSt.ev, Bool.false_eq_true, D.cells, ne_eq, not_true_eq_false, Nat.reduceGT, or_self, ↓reduceIte, splice, List.take, List.nil_append, List.drop, List.cons_append, List.append_nil, AGo_ok, St.app, putO, eput_c, Nat.reduceBEq, eput_n, cond_false, hups, List.map, Option.isSome, hget_c, hget_n, St.F, eget_c, ↓eget_h, hput_c, hput_n, ↓hget_h, Nat.reduceLeDiff, List.all, D.leaf, Bool.and_true, and_self, beq_self_eq_true, cond_true, ARun_nil, dropE_c, inL_c, inL_n, dropE_n]
  refine aw_wk (s' := ⟨[(0, .ptr 0 0), (2, .ptr 16 0), (3, .ptr 32 0)], [(0, [.val (.int .i64 0), .val (.int .i64 0), .val (.int .i64 0), .val (.int .i64 0), .val (.int .i64 0), .val (.slice none 0 0)]), (16, [.val (.slice none 0 0), .val (.slice none 0 0)]), (32, layC exL)], 100⟩) ?_ ?_
  · unfold layC dI exL
    refine wk_to [56] [(0, 0), (16, 16), (32, 72)] (by kernel_rfl) (by kernel_rfl) (by kernel_rfl) (by kernel_rfl) (by kernel_rfl) ?_ ?_ <;> repeat' (first | exact trivial | exact vr_val _ | exact vr_ptr _ _ _ rfl | refine vr_fl _ _ _ _ _ (by decide) rfl ?_ ?_ ?_ ?_ | refine And.intro ⟨_, rfl, .inl ⟨_, rfl, by decide, ?_⟩⟩ ?_ | apply And.intro)
    all_goals first | exact fls_nine _ | exact rfl | exact vals_in rfl
  refine aw_seq (aw_region_cut [⟨some 11, .buildSl 1 2 [(.val (.int .i64 0)), (.val (.int .i64 0))] [(0, 1, (.const (.int .i64 0))), (1, 1, (.const (.int .i64 1)))], none, []⟩,
     ⟨some 12, .build [(.val (.slice none 0 0)), (.val (.slice none 0 0)), (.val (.bool false))] [(1, 1, (.tmp 11))], none, []⟩,
     ⟨some 13, .buildSl 1 1 [(.val (.int .i64 0))] [(0, 1, (.const (.int .i64 0)))], none, []⟩,
     ⟨some 14, .buildSl 1 1 [(.val (.int .i64 0))] [(0, 1, (.const (.int .i64 2)))], none, []⟩,
     ⟨some 15, .build [(.val (.slice none 0 0)), (.val (.slice none 0 0)), (.val (.bool false))] [(0, 1, (.tmp 13)), (1, 1, (.tmp 14)), (2, 1, (.const (.bool true)))], none, []⟩,
     ⟨some 16, .buildSl 1 2 [(.val (.int .i64 0)), (.val (.int .i64 0))] [(0, 1, (.const (.int .i64 0))), (1, 1, (.const (.int .i64 1)))], none, []⟩,
     ⟨some 17, .build [(.val (.slice none 0 0)), (.val (.slice none 0 0)), (.val (.bool false))] [(0, 1, (.tmp 16))], none, []⟩]
    [⟨some 18, .buildSl 3 3 [(.val (.slice none 0 0)), (.val (.slice none 0 0)), (.val (.bool false)), (.val (.slice none 0 0)), (.val (.slice none 0 0)), (.val (.bool false)), (.val (.slice none 0 0)), (.val (.slice none 0 0)), (.val (.bool false))] [(0, 3, (.tmp 12)), (3, 3, (.tmp 15)), (6, 3, (.tmp 17))], none, []⟩,
     ⟨some 19, .build [(.val (.int .i64 0)), (.val (.int .i64 0))] [(1, 1, (.const (.int .i64 10)))], none, []⟩,
     ⟨some 20, .build [(.val (.int .i64 0)), (.val (.int .i64 0))] [(0, 1, (.const (.int .i64 5))), (1, 1, (.const (.int .i64 20)))], none, []⟩,
     ⟨some 21, .build [(.val (.int .i64 0)), (.val (.int .i64 0))] [(0, 1, (.const (.int .i64 8))), (1, 1, (.const (.int .i64 30)))], none, []⟩,
     ⟨some 22, .buildSl 2 3 [(.val (.int .i64 0)), (.val (.int .i64 0)), (.val (.int .i64 0)), (.val (.int .i64 0)), (.val (.int .i64 0)), (.val (.int .i64 0))] [(0, 2, (.tmp 19)), (2, 2, (.tmp 20)), (4, 2, (.tmp 21))], none, []⟩,
     ⟨some 23, .build [(.val (.slice none 0 0)), (.val (.slice none 0 0))] [(0, 1, (.tmp 18)), (1, 1, (.tmp 22))], none, []⟩,
     ⟨some 4, .mem [(.val (.slice none 0 0)), (.val (.slice none 0 0))], none, []⟩,
     ⟨none, .store 2 (.tmp 4) (.tmp 23), none, []⟩] ?_)
  simp (config := {maxSteps := 10000000}) (disch := first | exact okYes (by kernel_rfl) | omega) only [List.length, Nat.zero_add, Nat.reduceAdd, Nat.reduceMul, thenQ, ARun_none, AOpRun, aexec, Option.isSome, Option.map, fillD, D.isBot, FSt.ev, St.F, D.cells, ne_eq, Nat.reduceGT, or_false, splice, List.take, List.nil_append, hget_c, Nat.reduceBEq, hget_n, cond_false, Bool.false_eq_true, ↓reduceIte, not_true_eq_false, or_self, List.drop, List.cons_append, List.append_nil, AGo_ok, St.app, putO, eput_c, eput_n, hups, hput_c, hput_n, List.map, eget_c, ↓eget_h, ARun_nil]
  refine ⟨⟨[(0, .ptr 0 0), (2, .ptr 16 0), (3, .ptr 32 0), (12, .agg [.list (ints []), .list (ints [0, 1]), dB false]), (15, .agg [.list (ints [0]), .list (ints [2]), dB true]), (17, .agg [.list (ints [0, 1]), .list (ints []), dB false])], [(0, [.val (.int .i64 0), .val (.int .i64 0), .val (.int .i64 0), .val (.int .i64 0), .val (.int .i64 0), .val (.slice none 0 0)]), (16, [.val (.slice none 0 0), .val (.slice none 0 0)]), (32, layC exL)], 200⟩, ?_, of_decide_eq_true (by kernel_rfl), ?_⟩
  · unfold dB
    refine wk_to [100, 116, 124, 140] [(0, 0), (16, 16), (32, 32)] (by kernel_rfl) (by kernel_rfl) (by kernel_rfl) (by kernel_rfl) (by kernel_rfl) ?_ ?_ <;> repeat' (first | exact trivial | exact vr_val _ | exact vr_list _ | exact vr_nil | exact vr_ptr _ _ _ rfl | apply vr_agg | refine vr_fl _ _ _ _ _ (by decide) rfl ?_ ?_ ?_ ?_ | refine And.intro ⟨_, rfl, .inl ⟨_, rfl, by decide, ?_⟩⟩ ?_ | apply And.intro)
    all_goals first | exact ints_one _ | exact rfl | exact vals_in rfl | exact vrl_flat _ (vals_in rfl)
  simp (config := {maxSteps := 10000000}) (disch := first | exact okYes (by kernel_rfl) | omega) only [Nat.reduceSub, Nat.reduceAdd, hget_c, Nat.reduceBEq, hget_n, cond_false, Bool.false_eq_true, ↓reduceIte, eget_c, ↓eget_h, List.length, Nat.zero_add, not_true_eq_false, or_self, List.drop, List.cons_append, List.nil_append, Nat.reduceGT, List.take, List.append_nil, AGo_ok, St.app, putO, eput_c, eput_n, hups, hput_c, hput_n, List.map, ARun_none, AOpRun, aexec, Option.map, fillD, D.isBot, FSt.ev, D.cells, ne_eq, splice, Option.isSome, Nat.reduceMul, St.F, ↓hget_h, Nat.reduceLeDiff, List.all, D.leaf, Bool.and_true, and_self, beq_self_eq_true, cond_true, ARun_nil, dropE_c, inL_c, inL_n, dropE_n]
  refine aw_wk (s' := ⟨[(0, .ptr 0 0), (2, .ptr 16 0), (3, .ptr 32 0), (4, .ptr 40 0)], [(0, [.val (.int .i64 0), .val (.int .i64 0), .val (.int .i64 0), .val (.int .i64 0), .val (.int .i64 0), .val (.slice none 0 0)]), (16, [.val (.slice none 0 0), .val (.slice none 0 0)]), (32, layC exL), (40, [.list (cls exC.cl), .list (sps exC.pf)])], 400⟩) ?_ ?_
  · refine wk_to [200, 232] [(0, 0), (16, 16), (32, 32), (40, 248)] (by kernel_rfl) (by kernel_rfl) (by kernel_rfl) (by kernel_rfl) (by kernel_rfl) ?_ ?_ <;> repeat' (first | exact trivial | exact vr_val _ | exact vr_list _ | exact vr_ptr _ _ _ rfl | refine vr_fl _ _ _ _ _ (by decide) rfl ?_ ?_ ?_ ?_ | refine And.intro ⟨_, rfl, .inl ⟨_, rfl, by decide, ?_⟩⟩ ?_ | apply And.intro)
    all_goals first | exact cls_three _ | exact sps_two _ | exact rfl | exact vals_in rfl | exact vrl_flat _ (vals_in rfl)
  unfold layC exL
  refine aw_seq (aw_region ?_)
  simp (config := {maxSteps := 10000000}) (disch := first | exact okYes (by kernel_rfl) | omega) only [thenQ, List.length, Nat.zero_add, Nat.reduceAdd, Nat.reduceMul, dI, ARun_none, AOpRun, aexec, FSt.ev, St.F, eget_c, Nat.reduceBEq, ↓eget_h, cond_false, hget_c, ↓hget_h, Nat.reduceLeDiff, ↓reduceIte, List.drop, List.take, AGo_ok, St.app, putO, eput_c, eput_n, hups, List.map, Option.isSome, hget_n, Bool.false_eq_true, Option.map, fillD, D.isBot, D.cells, ne_eq, not_true_eq_false, Nat.reduceGT, or_self, splice, List.nil_append, List.cons_append, List.append_nil, hput_c, hput_n, beq_self_eq_true, cond_true, List.all, D.leaf, Bool.and_true, and_self, ARun_nil, dropE_c, inL_c, inL_n, dropE_n]
  refine aw_wk (s' := ⟨[(0, .ptr 0 0), (1, .vec 432 3 1), (2, .ptr 16 0)], [(0, layC exL), (16, [.list (cls exC.cl), .list (sps exC.pf)]), (432, [.list (ints [100, 4, 0, 0]), .list (ints [200, 254, 48, 1]), .list (ints [300, 6, 0, 0])])], 500⟩) ?_ ?_
  · unfold layC dI exL
    refine wk_to [408, 416, 424] [(0, 0), (16, 16), (432, 432)] (by kernel_rfl) (by kernel_rfl) (by kernel_rfl) (by kernel_rfl) (by kernel_rfl) ?_ ?_ <;> repeat' (first | exact trivial | exact vr_val _ | exact vr_list _ | exact vr_vec _ _ _ _ rfl | exact vr_ptr _ _ _ rfl | refine vr_fl _ _ _ _ _ (by decide) rfl ?_ ?_ ?_ ?_ | refine And.intro ⟨_, rfl, .inl ⟨_, rfl, by decide, ?_⟩⟩ ?_ | apply And.intro)
    all_goals first | exact ints_one _ | exact rfl | exact vals_in rfl | exact vrl_flat _ (vals_in rfl)
  refine aw_ret ?_
  unfold layD casD
  refine end_to [432] [] (by first | exact .inl rfl | exact .inr rfl) rfl (by kernel_rfl) (by kernel_rfl) (by kernel_rfl) ?_ ?_ <;> repeat' (first | exact trivial | exact vr_val _ | exact vr_list _ | apply vr_agg | apply vr_tup | refine vr_fl _ _ _ _ _ (by decide) rfl ?_ ?_ ?_ ?_ | apply And.intro)
  all_goals first | exact vals_in rfl | exact vrl_flat _ (vals_in rfl) | exact rfl | (intro e he; simp [rows, exF] at he; rcases he with rfl | rfl | rfl <;> rfl)
theorem exL_ok : LayOk exL := ⟨by decide, by decide, by decide, by decide, by decide, fun k hk => by
  rcases (by have : exL.fl.length = 3 := rfl
             omega : k = 0 ∨ k = 1 ∨ k = 2) with rfl | rfl | rfl <;> exact ⟨by decide, by decide, by decide, by decide, by decide, by decide, by decide, by decide, by decide, by decide, by decide, by decide, by decide, by decide⟩, fun i hi k hk s hs h1 h2 h3 => by
  have : exL.fl.length = 3 := rfl
  have h4 := h3.1
  rcases (by omega : i = 1 ∧ k = 0 ∨ i = 2 ∧ k = 0 ∨ i = 2 ∧ k = 1) with ⟨rfl, rfl⟩ | ⟨rfl, rfl⟩ | ⟨rfl, rfl⟩ <;> exact absurd h4 (by decide)⟩
theorem exF_in : FrIn exF := ⟨by decide, fun k => by
  unfold frm
  rcases k with _ | _ | _ | k <;> simp [exF, maxLen]⟩
theorem exP : pkS exL (fAt exL 0) exF 3 = (2, 26) := by decide
theorem exPk : peakR exL exF ((0 : Nat) : Int) = (2, 26, 0) := by
  have h : wfE exL exF [((0 : Nat) : Int)] = 0 := by
    unfold wfE
    rw [if_pos (tpE_ok exL_ok (by decide)), if_pos (by decide)]
  unfold peakR
  rw [if_pos h]
  have : pkS exL (fAt exL ((0 : Nat) : Int).toNat) exF exF.length = (2, 26) := exP
  rw [this, if_neg (by decide)]
set_option maxRecDepth 100000 in
set_option maxHeartbeats 4000000 in
theorem works_ac : AC Try.prog 16 [] [] [] (dB true) := by
  refine klaw12_works.ac (n0 := 0) (by simp) trivial trivial rfl ?_
  have ex := example_ac
  have pk := peak_ac exL exF ((0 : Nat) : Int) exL_in exF_in
  rw [exPk] at pk
  have un := until_ok exC exC_in 1 5 exE
  rw [exU, if_neg (by decide)] at un
  unfold claw12_works
  unfold layD casD layC at *
  (have hg : (987654321 : Nat) - 987654321 = 0 := rfl; have hr := hg; repeat' (first | refine aw_seq ?_ | (refine aw_skip ?_; try simp only [thenQ, blockQ, if_true, if_false, Nat.reduceEqDiff, reduceCtorEq]) | (refine aw_exit ?_; try simp only [thenQ, blockQ, if_true, if_false, Nat.reduceEqDiff, reduceCtorEq]) | refine aw_ret ?_ | refine aw_block ?_ | refine aw_condT rfl ?_ | refine aw_condF rfl ?_ | ((first | refine aw_region ?_ | refine acall0 (ex) ?_ | refine acall0 (pk) ?_ | refine acall0 (un) ?_ | refine ago_if (by omega) ?_ | skip); simp (config := {maxSteps := 10000000}) (disch := first | exact okYes (by kernel_rfl) | omega) only [thenQ, List.map, dB, List.length, Nat.zero_add, Nat.reduceMul, envOf, ARun_none, AOpRun, aexec, FSt.ev, AGo_ok, St.app, putO, eput_n, hups, ARun_nil, dropE_c, inL_n, dropE_n, cond_false, Nat.reduceAdd, dI, eput_c, Nat.reduceBEq, St.F, eget_c, ↓eget_h, opt1, Option.map, List.getElem?_cons_zero, List.getElem?_cons_succ, Option.isSome, hget_n, Bool.false_eq_true, ↓reduceIte, hput_n, hget_c, hput_c, beq_self_eq_true, cond_true, D.isBot, D.cells, Nat.reduceLeDiff, List.all, D.leaf, Bool.and_true, and_self, splice, List.take, List.nil_append, List.drop, List.append_nil, ↓hget_h, inL_c, cast_lit, Int.reduceSub, isSh, abin, ARun_some, AG_tt])))
  all_goals (refine end_to [] [] (by first | exact .inl rfl | exact .inr rfl) rfl (by kernel_rfl) (by kernel_rfl) (by kernel_rfl) ?_ ?_ <;> repeat' (first | exact trivial | exact vr_val _))
end Go.Proofs.Ytdcodicoclecnaa
/- law12: copies, comparisons, what is too large. No conditions. -/
set_option linter.unusedSimpArgs false
set_option linter.unusedVariables false
namespace Go.Proofs.Ytdcodicoclecnaa
open Go Go.RowKit Lift

theorem fc_all : ∀ l : List Fl, (flcells l).all isV = true
  | [] => rfl
  | f :: l => by
    have := fc_all l
    unfold flcells at *
    rw [List.flatMap_cons, List.all_append, this]; rfl
theorem fc_leaf : ∀ l : List Fl, (flcells l).all D.leaf = true
  | [] => rfl
  | f :: l => by
    have := fc_leaf l
    unfold flcells at *
    rw [List.flatMap_cons, List.all_append, this]; rfl
set_option maxRecDepth 100000 in
set_option maxHeartbeats 2000000 in
theorem copyL_ac (l : Lay) (hn : l.fl.length ≤ 1000) : AC Try.prog 31 [layD l] [] [] (layD l) := by
  refine kref12_CopyLayout.ac (n0 := 0) (by simp) ⟨in_layD _ _, trivial⟩ trivial rfl ?_
  unfold cref12_CopyLayout layD layC
  have a1 := fls_len l.fl
  have a2 := fls_all l.fl
  have a3 := fls_flat l.fl
  have a4 := fc_leaf l.fl
  refine aw_seq (aw_region ?_)
  simp (config := {maxSteps := 10000000}) (disch := first | exact okYes (by kernel_rfl) | omega) only [thenQ, List.map, dI, List.length, Nat.zero_add, Nat.reduceAdd, Nat.reduceMul, envOf, ARun_none, AOpRun, aexec, D.isBot, FSt.ev, St.F, ↓eget_h, Bool.false_eq_true, Option.isSome, hget_n, or_self, ↓reduceIte, D.cells, AGo_ok, St.app, putO, eput_c, Nat.reduceBEq, eput_n, cond_false, hups, hput_n, hget_c, hput_c, ARun_nil, dropE_c, inL_n, dropE_n]
  refine aw_seq (aw_region ?_)
  simp (config := {maxSteps := 10000000}) (disch := first | exact okYes (by kernel_rfl) | omega) only [thenQ, List.length, Nat.zero_add, Nat.reduceAdd, Nat.reduceMul, ARun_none, AOpRun, aexec, FSt.ev, St.F, eget_c, Nat.reduceBEq, ↓eget_h, cond_false, hget_c, beq_self_eq_true, hget_n, cond_true, Nat.reduceLeDiff, ↓reduceIte, List.drop, List.take, AGo_ok, St.app, putO, eput_c, eput_n, hups, List.map, Option.isSome, Bool.false_eq_true, hput_c, hput_n, ↓hget_h, D.isBot, D.cells, List.all, D.leaf, Bool.and_true, and_self, splice, List.nil_append, List.append_nil, ARun_nil, dropE_c, inL_c, inL_n, dropE_n]
  refine aw_seq (aw_region ?_)
  simp (config := {maxSteps := 10000000}) (disch := first | exact okYes (by kernel_rfl) | omega) only [thenQ, List.length, Nat.zero_add, Nat.reduceAdd, Nat.reduceMul, ARun_none, AOpRun, aexec, Option.isSome, hget_c, Nat.reduceBEq, hget_n, cond_false, Bool.false_eq_true, ↓reduceIte, Option.map, fillD, AGo_ok, St.app, putO, eput_c, eput_n, hups, hput_c, hput_n, List.map, FSt.ev, St.F, eget_c, ↓eget_h, run1, beq_self_eq_true, cond_true, List.getElem?_cons_succ, List.getElem?_cons_zero, base, ↓hget_h, Nat.zero_le, and_self, List.take, elems, a2, a1, a3, a4, and_true, ups, List.nil_append, List.cons_append]
  refine ago_if (by omega) ?_
  simp (config := {maxSteps := 10000000}) (disch := first | exact okYes (by kernel_rfl) | omega) only [AGo_ok, Nat.reduceAdd, St.app, putO, eput_c, Nat.reduceBEq, eput_n, cond_false, hups, hput_c, hput_n, hdel_c, beq_self_eq_true, hdel_n, cond_true, List.map, ARun_none, AOpRun, aexec, FSt.ev, St.F, eget_c, ↓eget_h, Nat.zero_add, hget_c, ↓hget_h, D.isBot, D.cells, List.length, Nat.reduceLeDiff, List.all, D.leaf, Bool.and_true, and_self, ↓reduceIte, splice, List.take, List.cons_append, List.nil_append, List.drop, List.append_nil, ARun_nil, dropE_c, inL_c, inL_n, dropE_n]
  refine aw_seq (aw_region ?_)
  simp (config := {maxSteps := 10000000}) (disch := first | exact okYes (by kernel_rfl) | omega) only [thenQ, List.length, Nat.zero_add, Nat.reduceAdd, Nat.reduceMul, ARun_none, AOpRun, aexec, FSt.ev, St.F, eget_c, Nat.reduceBEq, ↓eget_h, cond_false, hget_c, ↓hget_h, Nat.reduceLeDiff, ↓reduceIte, List.drop, List.take, AGo_ok, St.app, putO, eput_c, eput_n, hups, List.map, D.isBot, D.cells, List.all, D.leaf, Bool.and_true, and_self, splice, List.nil_append, List.append_nil, hput_c, beq_self_eq_true, hput_n, cond_true, ARun_nil, dropE_c, inL_c, inL_n, dropE_n]
  refine aw_ret ?_
  refine end_to [64] [] (by first | exact .inl rfl | exact .inr rfl) rfl (by kernel_rfl) (by kernel_rfl) (by kernel_rfl) ?_ ?_ <;> repeat' (first | exact trivial | exact vr_val _ | apply vr_agg | refine vr_fl _ _ _ _ _ (by decide) rfl ?_ ?_ ?_ ?_ | apply And.intro)
  all_goals first | exact fls_nine _ | exact fls_len _ | exact fls_flat _ | exact vals_in (fc_all _)
set_option maxRecDepth 100000 in
set_option maxHeartbeats 2000000 in
theorem copyF_ac (frs : List (List Int)) (hn : frs.length ≤ 1000) (hm : ∀ k, (frm frs k).length ≤ 1000000) : AC Try.prog 65 [.list (rows frs)] [] [] (.list (rows frs)) := by
  refine kref12_CopyFrames.ac (n0 := 0) (by simp) ⟨.list _, trivial⟩ trivial rfl ?_
  unfold cref12_CopyFrames
  refine aw_seq (aw_region ?_)
  simp (config := {maxSteps := 10000000}) (disch := first | exact okYes (by kernel_rfl) | omega) only [thenQ, List.map, List.length, Nat.zero_add, Nat.reduceMul, envOf, ARun_none, AOpRun, aexec, FSt.ev, AGo_ok, St.app, putO, eput_c, Nat.reduceBEq, eput_n, cond_false, hups, ARun_nil, dropE_c, inL_n, dropE_n]
  refine aw_seq (aw_region ?_)
  simp (config := {maxSteps := 10000000}) (disch := first | exact okYes (by kernel_rfl) | omega) only [thenQ, List.length, Nat.zero_add, Nat.reduceMul, Nat.reduceAdd, ARun_none, AOpRun, aexec, FSt.ev, AGo_ok, St.app, putO, eput_c, Nat.reduceBEq, eput_n, cond_false, hups, List.map, ARun_nil, dropE_c, inL_n, dropE_n]
  refine aw_seq (aw_seq (aw_region ?_))
  simp (config := {maxSteps := 10000000}) (disch := first | exact okYes (by kernel_rfl) | omega) only [thenQ, List.length, Nat.zero_add, Nat.reduceMul, Nat.reduceAdd, ARun_none, AOpRun, aexec, FSt.ev, AGo_ok, St.app, putO, eput_c, Nat.reduceBEq, eput_n, cond_false, hups, List.map, ARun_nil, dropE_c, inL_n, dropE_n]
  refine aw_block (aw_loop (fun k : Nat => ⟨[(0, .list (rows frs)), (3, .vec 40 k 1), (4, dI k)], [(40, rcells (frs.take k))], 400⟩) (fun k => k ≤ frs.length) (fun k => frs.length - k) ⟨0, by omega, ?_⟩ ?_)
  · show Wk _ _ ⟨_, [(40, [])], _⟩
    refine wk_to [] [(40, 900)] (by kernel_rfl) (by kernel_rfl) (by kernel_rfl) (by kernel_rfl) (by kernel_rfl) ?_ ?_ <;> repeat' (first | exact trivial | exact vr_val _ | exact vr_list _ | exact vr_nilv _ _ _ rfl | refine And.intro ⟨_, rfl, .inr ⟨rfl, rfl, of_decide_eq_true (by kernel_rfl)⟩⟩ ?_ | apply And.intro)
  intro k hk
  by_cases hk2 : k < frs.length
  case neg =>
    obtain rfl : k = frs.length := by omega
    have e : frs.take frs.length = frs := List.take_of_length_le (by omega)
    rw [e]
    (have hg : (987654321 : Nat) - 987654321 = 0 := rfl; have hr := hg; repeat' (first | refine aw_seq ?_ | (refine aw_skip ?_; try simp only [thenQ, blockQ, if_true, if_false, Nat.reduceEqDiff, reduceCtorEq]) | (refine aw_exit ?_; try simp only [thenQ, blockQ, if_true, if_false, Nat.reduceEqDiff, reduceCtorEq]) | refine aw_ret ?_ | refine aw_block ?_ | refine aw_condT rfl ?_ | refine aw_condF rfl ?_ | (refine aw_cond rfl (fun hg => ?_) (fun hg => ?_) <;> (try (have hq := hg; simp only [Bool.not_eq_true', Bool.not_eq_false', Bool.and_eq_true, Bool.and_eq_false_iff, Bool.or_eq_true, Bool.or_eq_false_iff, decide_eq_true_eq, decide_eq_false_iff_not, bne_iff_ne, beq_iff_eq, beq_eq_false_iff_ne, bne_eq_false_iff_eq, ne_eq, Int.not_lt, Int.not_le, Decidable.not_not] at hq)) <;> (try (have hr := hg; simp only [decide_eq_true_eq, decide_eq_false_iff_not] at hr)) <;> (try (exfalso; omega))) | ((first | refine aw_region ?_ | refine ago_if (by omega) ?_ | skip); simp (config := {maxSteps := 10000000}) (disch := first | exact okYes (by kernel_rfl) | omega) only [thenQ, dI, List.length, Nat.zero_add, Nat.reduceAdd, Nat.reduceMul, ARun_none, AOpRun, aexec, FSt.ev, St.F, eget_c, Nat.reduceBEq, ↓eget_h, cond_false, AGo_ok, St.app, putO, eput_c, eput_n, hups, List.map, rows_len, isSh, Bool.false_eq_true, ↓reduceIte, Option.map, abin, ARun_nil, dropE_c, inL_c, inL_n, beq_self_eq_true, cond_true, dropE_n, hr, decide_false])))
    refine end_to [40] [] (by first | exact .inl rfl | exact .inr rfl) rfl (by kernel_rfl) (by kernel_rfl) (by kernel_rfl) ?_ ?_ <;> repeat' (first | exact trivial | refine vr_fl _ _ _ _ _ (by decide) rfl ?_ ?_ ?_ ?_)
    all_goals first | exact rows_one _ | exact rows_len _ | exact rows_flat _ | exact rcells_in _
  have g1 := rows_gd frs k hk2
  rw [show frs[k]?.getD [] = frm frs k from rfl] at g1
  have hfl := hm k
  have e : rcells (frs.take (k + 1)) = rcells (frs.take k) ++ [.list (ints (frm frs k))] := by
    unfold rcells
    rw [List.take_add_one, List.map_append]
    simp [hk2, frm]
  have hcin := rcells_in (frs.take (k + 1))
  have hrl : (rcells (frs.take k)).length = k := by rw [rcells_len, List.length_take]; omega
  have hrt : (rcells (frs.take k)).take k = rcells (frs.take k) := List.take_of_length_le (by omega)
  have ki : (k : Int) < (frs.length : Int) := by omega
  rw [e] at hcin
  generalize frm frs k = fr at *
  generalize rcells (frs.take k) = R at *
  refine aw_seq (aw_seq (aw_region ?_))
  simp (config := {maxSteps := 10000000}) (disch := first | exact okYes (by kernel_rfl) | omega) only [thenQ, dI, List.length, Nat.zero_add, Nat.reduceAdd, Nat.reduceMul, ARun_none, AOpRun, aexec, FSt.ev, St.F, eget_c, Nat.reduceBEq, ↓eget_h, cond_false, AGo_ok, St.app, putO, eput_c, eput_n, hups, List.map, rows_len, isSh, Bool.false_eq_true, ↓reduceIte, Option.map, abin, ki, decide_true, ARun_nil, dropE_c, inL_c, inL_n, beq_self_eq_true, cond_true, dropE_n]
  refine aw_condT rfl (aw_skip ?_)
  refine aw_seq (aw_block ?_)
  refine aw_region_cut [⟨some 11, .mv (.tmp 3), none, []⟩,
            ⟨some 12, .buildSl 1 0 [] [], none, []⟩,
            ⟨some 13, .mv (.tmp 0), none, []⟩,
            ⟨some 14, .mv (.tmp 4), none, []⟩,
            ⟨some 15, .iadS 1 (.tmp 13) (.tmp 14), none, []⟩,
            ⟨some 16, .load1 (.tmp 15), none, []⟩,
            ⟨some 17, .app 1 8 (.tmp 12) (.tmp 16), none, []⟩] [⟨some 18, .buildSl 1 1 [(.val (.slice none 0 0))] [(0, 1, (.tmp 17))], none, []⟩,
            ⟨some 19, .app 1 24 (.tmp 11) (.tmp 18), none, []⟩,
            ⟨some 3, .mv (.tmp 19), none, []⟩] ?_
  simp (config := {maxSteps := 10000000}) (disch := first | exact okYes (by kernel_rfl) | omega) only [List.length, Nat.zero_add, Nat.reduceAdd, Nat.reduceMul, blockQ, thenQ, ARun_none, AOpRun, aexec, Option.isSome, Option.map, fillD, D.isBot, FSt.ev, St.F, D.cells, ne_eq, Nat.reduceGT, or_false, splice, List.take, List.nil_append, eget_c, Nat.reduceBEq, ↓eget_h, cond_false, AGo_ok, St.app, putO, eput_c, eput_n, hups, List.map, hget_c, hget_n, Bool.false_eq_true, ↓reduceIte, hput_c, hput_n, Int.natCast_nonneg, rows_all, and_self, opt1, Int.toNat_natCast, g1, run1, List.getElem?_cons_zero, base, ↓hget_h, Nat.zero_le, elems, ints_all, ints_len, ints_flat, icells_leaf, and_true, ups, List.cons_append]
  refine ago_if (by omega) ?_
  simp (config := {maxSteps := 10000000}) (disch := first | exact okYes (by kernel_rfl) | omega) only [AGo_ok, Nat.reduceAdd, St.app, putO, eput_c, Nat.reduceBEq, eput_n, cond_false, hups, hput_c, hput_n, hdel_c, beq_self_eq_true, hdel_n, cond_true, List.map, ARun_nil]
  refine ⟨⟨[(0, .list (rows frs)), (4, dI k), (11, .vec 40 k 1), (17, .list (ints fr))], [(40, R)], 600⟩, ?_, of_decide_eq_true (by kernel_rfl), ?_⟩
  · unfold dI
    refine wk_to [480] [(40, 40)] (by kernel_rfl) (by kernel_rfl) (by kernel_rfl) (by kernel_rfl) (by kernel_rfl) ?_ ?_ <;> repeat' (first | exact trivial | exact vr_val _ | exact vr_list _ | exact vr_vec _ _ _ _ rfl | refine vr_fl _ _ _ _ _ (by decide) rfl ?_ ?_ ?_ ?_ | refine And.intro ⟨_, rfl, .inl ⟨_, rfl, by decide, ?_⟩⟩ ?_ | apply And.intro)
    all_goals first | exact ints_one _ | exact ints_len _ | exact ints_flat _ | exact icells_in _ | (refine vrl_flat _ fun d hd => hcin d ?_; simp [hd])
  simp (config := {maxSteps := 10000000}) (disch := first | exact okYes (by kernel_rfl) | omega) only [Nat.reduceSub, Nat.reduceAdd, hget_c, Nat.reduceBEq, hget_n, cond_false, Bool.false_eq_true, ↓reduceIte, dI, eget_c, ↓eget_h, List.length, Nat.zero_add, not_true_eq_false, or_self, List.drop, List.append_nil, AGo_ok, St.app, putO, eput_c, eput_n, hups, hput_c, hput_n, List.map, ARun_none, AOpRun, aexec, base, FSt.ev, St.F, beq_self_eq_true, cond_true, Nat.mul_one, hrl, Nat.le_refl, and_self, hrt, elems, ↓hget_h, List.take, Option.isSome, Nat.reduceMul, List.all, D.leaf, Bool.and_true, and_true, ups, List.cons_append, List.nil_append]
  refine ago_if (by omega) ?_
  simp (config := {maxSteps := 10000000}) (disch := first | exact okYes (by kernel_rfl) | omega) only [AGo_ok, Nat.reduceAdd, St.app, putO, eput_c, Nat.reduceBEq, eput_n, cond_false, hups, hput_c, hput_n, hdel_c, beq_self_eq_true, hdel_n, cond_true, List.map, ARun_none, AOpRun, aexec, FSt.ev, St.F, eget_c, ↓eget_h, ARun_nil, dropE_c, inL_c, inL_n, dropE_n]
  refine aw_region ?_
  simp (config := {maxSteps := 10000000}) (disch := first | exact okYes (by kernel_rfl) | omega) only [thenQ, List.length, Nat.zero_add, Nat.reduceAdd, Nat.reduceMul, ARun_none, AOpRun, aexec, FSt.ev, St.F, eget_c, Nat.reduceBEq, ↓eget_h, cond_false, AGo_ok, St.app, putO, eput_c, eput_n, hups, List.map, isSh, Bool.false_eq_true, ↓reduceIte, Option.map, abin, fits, beq_self_eq_true, cond_true, ARun_nil, dropE_c, inL_c, inL_n, dropE_n]
  refine ⟨k + 1, by omega, by omega, ?_⟩
  rw [e]
  refine wk_to [] [(40, 608)] (by kernel_rfl) (by kernel_rfl) (by kernel_rfl) (by kernel_rfl) (by kernel_rfl) ?_ ?_ <;> repeat' (first | exact trivial | exact vr_val _ | exact vr_list _ | exact vr_vec _ _ _ _ rfl | refine And.intro ⟨_, rfl, .inl ⟨_, rfl, by decide, ?_⟩⟩ ?_ | apply And.intro | exact vrl_flat _ (by first | exact icells_in _ | exact rcells_in _ | exact scells_in _ | exact bcells_in _ | assumption) | fail)
  all_goals exact vrl_flat _ hcin
/-- a tape -/
def tpD (l : Lay) (frs : List (List Int)) : D := .agg [dI l.words, dI l.s0, dI l.s1, dI l.s2, dI l.s3, .list (fls l.fl), .list (rows frs)]
theorem in_tpD (S : Nat → Prop) (l : Lay) (frs : List (List Int)) : In S (tpD l frs) := .agg _ (vals_in rfl)
set_option maxRecDepth 100000 in
set_option maxHeartbeats 2000000 in
theorem own_ac (l : Lay) (frs : List (List Int)) (h1 : l.fl.length ≤ 1000) (hn : frs.length ≤ 1000) (hm : ∀ k, (frm frs k).length ≤ 1000000) : AC Try.prog 17 [tpD l frs] [] [] (tpD l frs) := by
  refine klaw12_own.ac (n0 := 0) (by simp) ⟨in_tpD _ _ _, trivial⟩ trivial rfl ?_
  have c1 := copyL_ac l h1
  have c2 := copyF_ac frs hn hm
  unfold claw12_own
  unfold tpD
  unfold layD layC at c1
  (have hg : (987654321 : Nat) - 987654321 = 0 := rfl; have hr := hg; repeat' (first | refine aw_seq ?_ | (refine aw_skip ?_; try simp only [thenQ, blockQ, if_true, if_false, Nat.reduceEqDiff, reduceCtorEq]) | (refine aw_exit ?_; try simp only [thenQ, blockQ, if_true, if_false, Nat.reduceEqDiff, reduceCtorEq]) | refine aw_ret ?_ | refine aw_block ?_ | refine aw_condT rfl ?_ | refine aw_condF rfl ?_ | ((first | refine aw_region ?_ | refine acall0 (c1) ?_ | refine acall0 (c2) ?_ | refine ago_if (by omega) ?_ | skip); simp (config := {maxSteps := 10000000}) (disch := first | exact okYes (by kernel_rfl) | omega) only [thenQ, List.map, dI, List.length, Nat.zero_add, Nat.reduceAdd, Nat.reduceMul, envOf, ARun_none, AOpRun, aexec, D.isBot, FSt.ev, St.F, ↓eget_h, Bool.false_eq_true, Option.isSome, hget_n, or_self, ↓reduceIte, D.cells, AGo_ok, St.app, putO, eput_c, Nat.reduceBEq, eput_n, cond_false, hups, hput_n, hget_c, hput_c, ARun_nil, dropE_c, inL_n, dropE_n, eget_c, beq_self_eq_true, cond_true, Nat.reduceLeDiff, List.drop, List.take, Option.map, run1, List.getElem?_cons_succ, List.getElem?_cons_zero, fillD, ne_eq, not_true_eq_false, Nat.reduceGT, splice, List.nil_append, List.cons_append, List.append_nil, ↓hget_h, List.all, D.leaf, Bool.and_true, and_self, inL_c])))
  all_goals (refine end_to [] [] (by first | exact .inl rfl | exact .inr rfl) rfl (by kernel_rfl) (by kernel_rfl) (by kernel_rfl) ?_ ?_ <;> repeat' (first | exact trivial | exact vr_val _ | exact vr_list _ | apply vr_agg | apply And.intro))
/-- larger than a statement looks at -/
def farB (l : Lay) (frs : List (List Int)) : Bool := decide ((l.fl.length : Int) > 20) || decide ((frs.length : Int) > 220) || frs.any fun f => decide ((f.length : Int) > 50)
theorem far_small {l : Lay} {frs : List (List Int)} (h : farB l frs = false) : l.fl.length ≤ 20 ∧ frs.length ≤ 220 ∧ ∀ k, (frm frs k).length ≤ 50 := by
  unfold farB at h
  simp only [Bool.or_eq_false_iff, decide_eq_false_iff_not, List.any_eq_false] at h
  obtain ⟨⟨h1, h2⟩, h3⟩ := h
  refine ⟨by omega, by omega, fun k => ?_⟩
  unfold frm
  by_cases hk : k < frs.length
  · have := h3 _ (List.getElem_mem hk)
    simp [hk] at this ⊢
    omega
  · simp [List.getElem?_eq_none (by omega : frs.length ≤ k)]
set_option maxRecDepth 100000 in
set_option maxHeartbeats 2000000 in
theorem far_ac (l : Lay) (frs : List (List Int)) (m1 : l.fl.length ≤ maxLen) (m2 : frs.length ≤ maxLen) (m3 : ∀ k, (frm frs k).length ≤ maxLen) : AC Try.prog 15 [tpD l frs] [] [] (dB (farB l frs)) := by
  refine klaw12_Far.ac (n0 := 0) (by simp) ⟨in_tpD _ _ _, trivial⟩ trivial rfl ?_
  unfold claw12_Far tpD farB
  have hmax : maxLen = 9223372036854775807 := rfl
  cases q1 : decide ((l.fl.length : Int) > 20) with
  | true =>
    simp only [Bool.true_or]
    (have hg : (987654321 : Nat) - 987654321 = 0 := rfl; have hr := hg; repeat' (first | refine aw_seq ?_ | (refine aw_skip ?_; try simp only [thenQ, blockQ, if_true, if_false, Nat.reduceEqDiff, reduceCtorEq]) | (refine aw_exit ?_; try simp only [thenQ, blockQ, if_true, if_false, Nat.reduceEqDiff, reduceCtorEq]) | refine aw_ret ?_ | refine aw_block ?_ | refine aw_condT rfl ?_ | refine aw_condF rfl ?_ | ((first | refine aw_region ?_ | refine ago_if (by omega) ?_ | skip); simp (config := {maxSteps := 10000000}) (disch := first | exact okYes (by kernel_rfl) | omega) only [thenQ, List.map, dB, List.length, Nat.zero_add, Nat.reduceAdd, Nat.reduceMul, envOf, dI, ARun_none, AOpRun, aexec, D.isBot, FSt.ev, St.F, ↓eget_h, Bool.false_eq_true, Option.isSome, hget_n, or_self, ↓reduceIte, D.cells, AGo_ok, St.app, putO, eput_c, Nat.reduceBEq, eput_n, cond_false, hups, hput_n, ARun_nil, dropE_c, inL_n, dropE_n, eget_c, Option.map, run1, hget_c, beq_self_eq_true, cond_true, List.getElem?_cons_succ, List.getElem?_cons_zero, fls_len, isSh, abin, q1, ARun_some, AG_tf, inL_c])))
    all_goals (refine end_to [] [] (by first | exact .inl rfl | exact .inr rfl) rfl (by kernel_rfl) (by kernel_rfl) (by kernel_rfl) ?_ ?_ <;> repeat' (first | exact trivial | exact vr_val _))
  | false =>
  cases q2 : decide ((frs.length : Int) > 220) with
  | true =>
    simp only [Bool.true_or, Bool.or_true]
    (have hg : (987654321 : Nat) - 987654321 = 0 := rfl; have hr := hg; repeat' (first | refine aw_seq ?_ | (refine aw_skip ?_; try simp only [thenQ, blockQ, if_true, if_false, Nat.reduceEqDiff, reduceCtorEq]) | (refine aw_exit ?_; try simp only [thenQ, blockQ, if_true, if_false, Nat.reduceEqDiff, reduceCtorEq]) | refine aw_ret ?_ | refine aw_block ?_ | refine aw_condT rfl ?_ | refine aw_condF rfl ?_ | ((first | refine aw_region ?_ | refine ago_if (by omega) ?_ | skip); simp (config := {maxSteps := 10000000}) (disch := first | exact okYes (by kernel_rfl) | omega) only [thenQ, List.map, dB, List.length, Nat.zero_add, Nat.reduceAdd, Nat.reduceMul, envOf, dI, ARun_none, AOpRun, aexec, D.isBot, FSt.ev, St.F, ↓eget_h, Bool.false_eq_true, Option.isSome, hget_n, or_self, ↓reduceIte, D.cells, AGo_ok, St.app, putO, eput_c, Nat.reduceBEq, eput_n, cond_false, hups, hput_n, ARun_nil, dropE_c, inL_n, dropE_n, eget_c, Option.map, run1, hget_c, beq_self_eq_true, cond_true, List.getElem?_cons_succ, List.getElem?_cons_zero, fls_len, isSh, abin, q1, ARun_some, AG_ff, rows_len, q2, inL_c])))
    all_goals (refine end_to [] [] (by first | exact .inl rfl | exact .inr rfl) rfl (by kernel_rfl) (by kernel_rfl) (by kernel_rfl) ?_ ?_ <;> repeat' (first | exact trivial | exact vr_val _))
  | false =>
  simp only [Bool.or_self, Bool.false_or]
  refine aw_seq (aw_region ?_)
  simp (config := {maxSteps := 10000000}) (disch := first | exact okYes (by kernel_rfl) | omega) only [thenQ, List.map, List.length, Nat.zero_add, Nat.reduceAdd, Nat.reduceMul, envOf, dI, ARun_none, AOpRun, aexec, D.isBot, FSt.ev, St.F, ↓eget_h, Bool.false_eq_true, Option.isSome, hget_n, or_self, ↓reduceIte, D.cells, AGo_ok, St.app, putO, eput_c, Nat.reduceBEq, eput_n, cond_false, hups, hput_n, ARun_nil, dropE_c, inL_n, dropE_n]
  refine aw_seq (aw_seq (aw_region ?_))
  simp (config := {maxSteps := 10000000}) (disch := first | exact okYes (by kernel_rfl) | omega) only [thenQ, List.length, Nat.zero_add, Nat.reduceAdd, Nat.reduceMul, ARun_none, AOpRun, aexec, FSt.ev, St.F, eget_c, Nat.reduceBEq, ↓eget_h, cond_false, AGo_ok, St.app, putO, eput_c, eput_n, hups, List.map, Option.map, run1, hget_c, beq_self_eq_true, hget_n, cond_true, List.getElem?_cons_succ, List.getElem?_cons_zero, fls_len, isSh, Bool.false_eq_true, ↓reduceIte, abin, q1, ARun_some, AG_ff, rows_len, q2, ARun_nil, dropE_c, inL_c, inL_n, dropE_n]
  refine aw_condF rfl (aw_skip ?_)
  refine aw_seq (aw_seq (aw_region ?_))
  simp (config := {maxSteps := 10000000}) (disch := first | exact okYes (by kernel_rfl) | omega) only [thenQ, List.length, Nat.zero_add, Nat.reduceMul, Nat.reduceAdd, ARun_none, AOpRun, aexec, FSt.ev, AGo_ok, St.app, putO, eput_c, Nat.reduceBEq, eput_n, cond_false, hups, List.map, ARun_nil, dropE_c, inL_n, dropE_n]
  refine aw_block (aw_loop (fun k : Nat => ⟨[(1, .ptr 0 0), (3, dI k)], [(0, [dI l.words, dI l.s0, dI l.s1, dI l.s2, dI l.s3, .list (fls l.fl), .list (rows frs)])], 400⟩) (fun k => k ≤ frs.length ∧ ∀ j, j < k → decide (((frm frs j).length : Int) > 50) = false) (fun k => frs.length - k) ⟨0, ⟨by omega, fun j hj => by omega⟩, ?_⟩ ?_)
  · unfold dI
    refine wk_to [] [(0, 0)] (by kernel_rfl) (by kernel_rfl) (by kernel_rfl) (by kernel_rfl) (by kernel_rfl) ?_ ?_ <;> repeat' (first | exact trivial | exact vr_val _ | exact vr_list _ | exact vr_ptr _ _ _ rfl | refine And.intro ⟨_, rfl, .inl ⟨_, rfl, by decide, ?_⟩⟩ ?_ | apply And.intro)
  rintro k ⟨hk, hin⟩
  have hm := m3 k
  by_cases hk2 : k < frs.length
  case neg =>
    obtain rfl : k = frs.length := by omega
    have e : frs.any (fun f => decide ((f.length : Int) > 50)) = false := List.any_eq_false.2 fun x hx => by
      obtain ⟨j, hj, rfl⟩ := List.getElem_of_mem hx
      have := hin j hj
      simp only [frm, hj, List.getElem?_eq_getElem, Option.getD_some] at this
      rw [this]; simp
    rw [e]
    (have hg : (987654321 : Nat) - 987654321 = 0 := rfl; have hr := hg; repeat' (first | refine aw_seq ?_ | (refine aw_skip ?_; try simp only [thenQ, blockQ, if_true, if_false, Nat.reduceEqDiff, reduceCtorEq]) | (refine aw_exit ?_; try simp only [thenQ, blockQ, if_true, if_false, Nat.reduceEqDiff, reduceCtorEq]) | refine aw_ret ?_ | refine aw_block ?_ | refine aw_condT rfl ?_ | refine aw_condF rfl ?_ | (refine aw_cond rfl (fun hg => ?_) (fun hg => ?_) <;> (try (have hq := hg; simp only [Bool.not_eq_true', Bool.not_eq_false', Bool.and_eq_true, Bool.and_eq_false_iff, Bool.or_eq_true, Bool.or_eq_false_iff, decide_eq_true_eq, decide_eq_false_iff_not, bne_iff_ne, beq_iff_eq, beq_eq_false_iff_ne, bne_eq_false_iff_eq, ne_eq, Int.not_lt, Int.not_le, Decidable.not_not] at hq)) <;> (try (have hr := hg; simp only [decide_eq_true_eq, decide_eq_false_iff_not] at hr)) <;> (try (exfalso; omega))) | ((first | refine aw_region ?_ | refine ago_if (by omega) ?_ | skip); simp (config := {maxSteps := 10000000}) (disch := first | exact okYes (by kernel_rfl) | omega) only [thenQ, dI, dB, List.length, Nat.zero_add, Nat.reduceAdd, Nat.reduceMul, ARun_none, AOpRun, aexec, FSt.ev, St.F, eget_c, Nat.reduceBEq, ↓eget_h, cond_false, AGo_ok, St.app, putO, eput_c, eput_n, hups, List.map, Option.map, run1, hget_c, beq_self_eq_true, hget_n, cond_true, List.getElem?_cons_succ, List.getElem?_cons_zero, rows_len, isSh, Bool.false_eq_true, ↓reduceIte, abin, ARun_nil, dropE_c, inL_c, inL_n, dropE_n, hr, decide_false])))
    all_goals (refine end_to [] [] (by first | exact .inl rfl | exact .inr rfl) rfl (by kernel_rfl) (by kernel_rfl) (by kernel_rfl) ?_ ?_ <;> repeat' (first | exact trivial | exact vr_val _))
  have g1 := rows_gd frs k hk2
  rw [show frs[k]?.getD [] = frm frs k from rfl] at g1
  cases he : decide (((frm frs k).length : Int) > 50) with
  | true =>
    have e : frs.any (fun f => decide ((f.length : Int) > 50)) = true := List.any_eq_true.2 ⟨frs[k], List.getElem_mem hk2, by
      simp only [frm, hk2, List.getElem?_eq_getElem, Option.getD_some] at he
      exact he⟩
    rw [e]
    (have hg : (987654321 : Nat) - 987654321 = 0 := rfl; have hr := hg; repeat' (first | refine aw_seq ?_ | (refine aw_skip ?_; try simp only [thenQ, blockQ, if_true, if_false, Nat.reduceEqDiff, reduceCtorEq]) | (refine aw_exit ?_; try simp only [thenQ, blockQ, if_true, if_false, Nat.reduceEqDiff, reduceCtorEq]) | refine aw_ret ?_ | refine aw_block ?_ | refine aw_condT rfl ?_ | refine aw_condF rfl ?_ | (refine aw_cond rfl (fun hg => ?_) (fun hg => ?_) <;> (try (have hq := hg; simp only [Bool.not_eq_true', Bool.not_eq_false', Bool.and_eq_true, Bool.and_eq_false_iff, Bool.or_eq_true, Bool.or_eq_false_iff, decide_eq_true_eq, decide_eq_false_iff_not, bne_iff_ne, beq_iff_eq, beq_eq_false_iff_ne, bne_eq_false_iff_eq, ne_eq, Int.not_lt, Int.not_le, Decidable.not_not] at hq)) <;> (try (have hr := hg; simp only [decide_eq_true_eq, decide_eq_false_iff_not] at hr)) <;> (try (exfalso; omega))) | ((first | refine aw_region ?_ | refine ago_if (by omega) ?_ | skip); simp (config := {maxSteps := 10000000}) (disch := first | exact okYes (by kernel_rfl) | omega) only [thenQ, dI, dB, List.length, Nat.zero_add, Nat.reduceAdd, Nat.reduceMul, ARun_none, AOpRun, aexec, FSt.ev, St.F, eget_c, Nat.reduceBEq, ↓eget_h, cond_false, AGo_ok, St.app, putO, eput_c, eput_n, hups, List.map, Option.map, run1, hget_c, beq_self_eq_true, hget_n, cond_true, List.getElem?_cons_succ, List.getElem?_cons_zero, rows_len, isSh, Bool.false_eq_true, ↓reduceIte, abin, ARun_nil, dropE_c, inL_c, inL_n, dropE_n, hr, decide_true, Int.natCast_nonneg, rows_all, and_self, opt1, Int.toNat_natCast, g1, ints_len, he, blockQ])))
    all_goals (refine end_to [] [] (by first | exact .inl rfl | exact .inr rfl) rfl (by kernel_rfl) (by kernel_rfl) (by kernel_rfl) ?_ ?_ <;> repeat' (first | exact trivial | exact vr_val _))
  | false =>
    (have hg : (987654321 : Nat) - 987654321 = 0 := rfl; have hr := hg; repeat' (first | refine aw_seq ?_ | (refine aw_skip ?_; try simp only [thenQ, blockQ, if_true, if_false, Nat.reduceEqDiff, reduceCtorEq]) | (refine aw_exit ?_; try simp only [thenQ, blockQ, if_true, if_false, Nat.reduceEqDiff, reduceCtorEq]) | refine aw_ret ?_ | refine aw_block ?_ | refine aw_condT rfl ?_ | refine aw_condF rfl ?_ | (refine aw_cond rfl (fun hg => ?_) (fun hg => ?_) <;> (try (have hq := hg; simp only [Bool.not_eq_true', Bool.not_eq_false', Bool.and_eq_true, Bool.and_eq_false_iff, Bool.or_eq_true, Bool.or_eq_false_iff, decide_eq_true_eq, decide_eq_false_iff_not, bne_iff_ne, beq_iff_eq, beq_eq_false_iff_ne, bne_eq_false_iff_eq, ne_eq, Int.not_lt, Int.not_le, Decidable.not_not] at hq)) <;> (try (have hr := hg; simp only [decide_eq_true_eq, decide_eq_false_iff_not] at hr)) <;> (try (exfalso; omega))) | ((first | refine aw_region ?_ | refine ago_if (by omega) ?_ | skip); simp (config := {maxSteps := 10000000}) (disch := first | exact okYes (by kernel_rfl) | omega) only [thenQ, dI, dB, List.length, Nat.zero_add, Nat.reduceAdd, Nat.reduceMul, ARun_none, AOpRun, aexec, FSt.ev, St.F, eget_c, Nat.reduceBEq, ↓eget_h, cond_false, AGo_ok, St.app, putO, eput_c, eput_n, hups, List.map, Option.map, run1, hget_c, beq_self_eq_true, hget_n, cond_true, List.getElem?_cons_succ, List.getElem?_cons_zero, rows_len, isSh, Bool.false_eq_true, ↓reduceIte, abin, ARun_nil, dropE_c, inL_c, inL_n, dropE_n, hr, decide_true, Int.natCast_nonneg, rows_all, and_self, opt1, Int.toNat_natCast, g1, ints_len, he, fits])))
    refine ⟨k + 1, ⟨by omega, fun j hj => ?_⟩, by omega, ?_⟩
    · rcases (by omega : j < k ∨ j = k) with h | rfl
      · exact hin j h
      · exact he
    · refine wk_to [] [(0, 0)] (by kernel_rfl) (by kernel_rfl) (by kernel_rfl) (by kernel_rfl) (by kernel_rfl) ?_ ?_ <;> repeat' (first | exact trivial | exact vr_val _ | exact vr_list _ | exact vr_ptr _ _ _ rfl | refine And.intro ⟨_, rfl, .inl ⟨_, rfl, by decide, ?_⟩⟩ ?_ | apply And.intro)
end Go.Proofs.Ytdcodicoclecnaa
/- The law of Events (views last). No conditions. -/
set_option linter.unusedSimpArgs false
set_option linter.unusedVariables false
namespace Go.Proofs.Ytdcodicoclecnaa
open Go Go.RowKit Lift

set_option maxRecDepth 100000 in
set_option maxHeartbeats 4000000 in
theorem revts_ac (l : Lay) (frs : List (List Int)) (cs : List Cd) (h : Int) (hl : LayIn l) (hf : FrIn frs) (hn : cs.length ≤ maxLen) : AC Try.prog 47 [layD l, .list (rows frs), evD cs h] [] [] (.tup [.list (sps (evR l frs cs h)), dI (evE l frs cs h)]) := by
  refine kref12_Events.ac (n0 := 0) (by simp) ⟨in_layD _ _, .list _, in_ev _ _ _, trivial⟩ trivial rfl ?_
  unfold cref12_Events
  have ck := checkF_ac l frs hl hf
  rcases tpE_cases l frs with ⟨h0, h1, h2⟩ | ⟨h0, hb⟩
  case inr =>
    have e : evE l frs cs h = tpE l frs := if_neg h0
    have er : evR l frs cs h = [] := if_neg (by rw [e]; exact h0)
    rw [er, e]
    unfold layD layC evD at *
    generalize tpE l frs = E at *
    (have hg : (987654321 : Nat) - 987654321 = 0 := rfl; have hr := hg; repeat' (first | refine aw_seq ?_ | (refine aw_skip ?_; repeat' (first | with_reducible refine thenQ_n ?_ | with_reducible refine blockQ_n ?_ | with_reducible refine thenQ_e ?_ | with_reducible refine blockQ_t ?_ | with_reducible refine blockQ_f (by decide) ?_)) | (refine aw_exit ?_; repeat' (first | with_reducible refine thenQ_n ?_ | with_reducible refine blockQ_n ?_ | with_reducible refine thenQ_e ?_ | with_reducible refine blockQ_t ?_ | with_reducible refine blockQ_f (by decide) ?_)) | refine aw_ret ?_ | refine aw_block ?_ | refine aw_condT rfl ?_ | refine aw_condF rfl ?_ | ((first | refine aw_hide fun K hK => aw_region ?_ | refine acall0 (ck) ?_ | refine ago_if (by omega) ?_ | skip); simp (config := {maxSteps := 10000000}) (disch := first | exact okYes (by kernel_rfl) | omega) only [List.length, Nat.zero_add, Nat.reduceAdd, Nat.reduceMul, envOf, dI, ARun_none, AOpRun, aexec, D.isBot, FSt.ev, St.F, ↓eget_h, Bool.false_eq_true, Option.isSome, hget_n, or_self, ↓reduceIte, D.cells, AGo_ok, St.app, putO, eput_c, Nat.reduceBEq, eput_n, cond_false, hups, hput_n, List.map, eget_c, hget_c, hput_c, ARun_nil, dropE_c, inL_n, dropE_n, beq_self_eq_true, cond_true, Nat.reduceLeDiff, List.drop, List.take, inL_c, isSh, Option.map, abin, hb, thenQ]) | (subst hK; repeat' (first | with_reducible refine thenQ_n ?_ | with_reducible refine blockQ_n ?_ | with_reducible refine thenQ_e ?_ | with_reducible refine blockQ_t ?_ | with_reducible refine blockQ_f (by decide) ?_))))
    all_goals (refine end_to [] [] (by first | exact .inl rfl | exact .inr rfl) rfl (by kernel_rfl) (by kernel_rfl) (by kernel_rfl) ?_ ?_ <;> repeat' (first | exact trivial | exact vr_val _ | exact vr_nil | apply vr_tup | apply And.intro))
  rw [h0] at ck
  have va := checkE_ac l cs h hn (by have := h1.nf; omega)
  have e : evE l frs cs h = if evB l cs h = true then 0 else 121 := if_pos h0
  have er : evR l frs cs h = if evE l frs cs h = 0 then (evK (isJ l frs cs) h (frs.length + 1)).2 else [] := rfl
  have et := revents_ac l frs cs h h1 h2 hf
  unfold layD layC evD at *
  cases hv : evB l cs h with
  | false =>
    rw [hv, if_neg (by simp)] at e
    rw [e, if_neg (by omega)] at er
    rw [er, e]
    rw [hv] at va
    (have hg : (987654321 : Nat) - 987654321 = 0 := rfl; have hr := hg; repeat' (first | refine aw_seq ?_ | (refine aw_skip ?_; repeat' (first | with_reducible refine thenQ_n ?_ | with_reducible refine blockQ_n ?_ | with_reducible refine thenQ_e ?_ | with_reducible refine blockQ_t ?_ | with_reducible refine blockQ_f (by decide) ?_)) | (refine aw_exit ?_; repeat' (first | with_reducible refine thenQ_n ?_ | with_reducible refine blockQ_n ?_ | with_reducible refine thenQ_e ?_ | with_reducible refine blockQ_t ?_ | with_reducible refine blockQ_f (by decide) ?_)) | refine aw_ret ?_ | refine aw_block ?_ | refine aw_condT rfl ?_ | refine aw_condF rfl ?_ | ((first | refine aw_hide fun K hK => aw_region ?_ | refine acall0 (ck) ?_ | refine acall0 (va) ?_ | refine ago_if (by omega) ?_ | skip); simp (config := {maxSteps := 10000000}) (disch := first | exact okYes (by kernel_rfl) | omega) only [List.length, Nat.zero_add, Nat.reduceAdd, Nat.reduceMul, envOf, dI, ARun_none, AOpRun, aexec, D.isBot, FSt.ev, St.F, ↓eget_h, Bool.false_eq_true, Option.isSome, hget_n, or_self, ↓reduceIte, D.cells, AGo_ok, St.app, putO, eput_c, Nat.reduceBEq, eput_n, cond_false, hups, hput_n, List.map, eget_c, hget_c, hput_c, ARun_nil, dropE_c, inL_n, dropE_n, beq_self_eq_true, cond_true, Nat.reduceLeDiff, List.drop, List.take, inL_c, isSh, Option.map, abin, bne_self_eq_false, ↓hget_h, dB, Bool.not_false, thenQ]) | (subst hK; repeat' (first | with_reducible refine thenQ_n ?_ | with_reducible refine blockQ_n ?_ | with_reducible refine thenQ_e ?_ | with_reducible refine blockQ_t ?_ | with_reducible refine blockQ_f (by decide) ?_))))
    all_goals (refine end_to [] [] (by first | exact .inl rfl | exact .inr rfl) rfl (by kernel_rfl) (by kernel_rfl) (by kernel_rfl) ?_ ?_ <;> repeat' (first | exact trivial | exact vr_val _ | exact vr_nil | apply vr_tup | apply And.intro))
  | true =>
    rw [hv, if_pos rfl] at e
    rw [e, if_pos rfl] at er
    rw [er, e]
    rw [hv] at va
    have et2 := et hv
    generalize (evK (isJ l frs cs) h (frs.length + 1)).2 = L at *
    (have hg : (987654321 : Nat) - 987654321 = 0 := rfl; have hr := hg; repeat' (first | refine aw_seq ?_ | (refine aw_skip ?_; repeat' (first | with_reducible refine thenQ_n ?_ | with_reducible refine blockQ_n ?_ | with_reducible refine thenQ_e ?_ | with_reducible refine blockQ_t ?_ | with_reducible refine blockQ_f (by decide) ?_)) | (refine aw_exit ?_; repeat' (first | with_reducible refine thenQ_n ?_ | with_reducible refine blockQ_n ?_ | with_reducible refine thenQ_e ?_ | with_reducible refine blockQ_t ?_ | with_reducible refine blockQ_f (by decide) ?_)) | refine aw_ret ?_ | refine aw_block ?_ | refine aw_condT rfl ?_ | refine aw_condF rfl ?_ | ((first | refine aw_hide fun K hK => aw_region ?_ | refine acall0 (ck) ?_ | refine acall0 (va) ?_ | refine acall0 (et2) ?_ | refine ago_if (by omega) ?_ | skip); simp (config := {maxSteps := 10000000}) (disch := first | exact okYes (by kernel_rfl) | omega) only [List.length, Nat.zero_add, Nat.reduceAdd, Nat.reduceMul, envOf, dI, ARun_none, AOpRun, aexec, D.isBot, FSt.ev, St.F, ↓eget_h, Bool.false_eq_true, Option.isSome, hget_n, or_self, ↓reduceIte, D.cells, AGo_ok, St.app, putO, eput_c, Nat.reduceBEq, eput_n, cond_false, hups, hput_n, List.map, eget_c, hget_c, hput_c, ARun_nil, dropE_c, inL_n, dropE_n, beq_self_eq_true, cond_true, Nat.reduceLeDiff, List.drop, List.take, inL_c, isSh, Option.map, abin, bne_self_eq_false, ↓hget_h, dB, Bool.not_true]) | (subst hK; repeat' (first | with_reducible refine thenQ_n ?_ | with_reducible refine blockQ_n ?_ | with_reducible refine thenQ_e ?_ | with_reducible refine blockQ_t ?_ | with_reducible refine blockQ_f (by decide) ?_))))
    all_goals (refine end_to [] [] (by first | exact .inl rfl | exact .inr rfl) rfl (by kernel_rfl) (by kernel_rfl) (by kernel_rfl) ?_ ?_ <;> repeat' (first | exact trivial | exact vr_val _ | exact vr_list _ | apply vr_tup | apply And.intro))
theorem cc_all : ∀ l : List Cd, (cdcells l).all isV = true
  | [] => rfl
  | f :: l => by
    have := cc_all l
    unfold cdcells at *
    rw [List.flatMap_cons, List.all_append, this]; rfl
theorem cc_leaf : ∀ l : List Cd, (cdcells l).all D.leaf = true
  | [] => rfl
  | f :: l => by
    have := cc_leaf l
    unfold cdcells at *
    rw [List.flatMap_cons, List.all_append, this]; rfl
set_option maxRecDepth 100000 in
set_option maxHeartbeats 2000000 in
theorem copied_ac (cs : List Cd) (h : Int) (hn : cs.length ≤ 1000) : AC Try.prog 46 [evD cs h] [] [] (evD cs h) := by
  refine klaw12_copied.ac (n0 := 0) (by simp) ⟨in_ev _ _ _, trivial⟩ trivial rfl ?_
  unfold claw12_copied evD
  have a1 := cds_len cs
  have a2 := cds_all cs
  have a3 := cds_flat cs
  have a4 := cc_leaf cs
  refine aw_seq (aw_region ?_)
  simp (config := {maxSteps := 10000000}) (disch := first | exact okYes (by kernel_rfl) | omega) only [thenQ, List.map, dI, List.length, Nat.zero_add, Nat.reduceAdd, Nat.reduceMul, envOf, ARun_none, AOpRun, aexec, D.isBot, FSt.ev, St.F, ↓eget_h, Bool.false_eq_true, Option.isSome, hget_n, or_self, ↓reduceIte, D.cells, AGo_ok, St.app, putO, eput_c, Nat.reduceBEq, eput_n, cond_false, hups, hput_n, hget_c, hput_c, ARun_nil, dropE_c, inL_n, dropE_n]
  refine aw_seq (aw_region ?_)
  simp (config := {maxSteps := 10000000}) (disch := first | exact okYes (by kernel_rfl) | omega) only [thenQ, List.length, Nat.zero_add, Nat.reduceAdd, Nat.reduceMul, ARun_none, AOpRun, aexec, Option.isSome, hget_c, Nat.reduceBEq, hget_n, cond_false, Bool.false_eq_true, ↓reduceIte, Option.map, fillD, AGo_ok, St.app, putO, eput_c, eput_n, hups, hput_c, hput_n, List.map, FSt.ev, St.F, eget_c, ↓eget_h, run1, beq_self_eq_true, cond_true, List.getElem?_cons_zero, base, ↓hget_h, Nat.zero_le, and_self, List.take, elems, a2, a1, a3, a4, and_true, ups, List.nil_append, List.cons_append]
  refine ago_if (by omega) ?_
  simp (config := {maxSteps := 10000000}) (disch := first | exact okYes (by kernel_rfl) | omega) only [AGo_ok, Nat.reduceAdd, St.app, putO, eput_c, Nat.reduceBEq, eput_n, cond_false, hups, hput_c, hput_n, hdel_c, beq_self_eq_true, hdel_n, cond_true, List.map, ARun_none, AOpRun, aexec, FSt.ev, St.F, eget_c, ↓eget_h, Nat.zero_add, Option.map, run1, hget_c, hget_n, List.getElem?_cons_succ, List.getElem?_cons_zero, fillD, D.isBot, Bool.false_eq_true, D.cells, List.length, ne_eq, not_true_eq_false, Nat.reduceGT, or_self, ↓reduceIte, splice, List.take, List.nil_append, List.drop, List.cons_append, List.append_nil, ↓hget_h, Nat.reduceLeDiff, List.all, D.leaf, Bool.and_true, and_self, ARun_nil, dropE_c, inL_c, inL_n, dropE_n]
  refine aw_ret ?_
  refine end_to [40] [] (by first | exact .inl rfl | exact .inr rfl) rfl (by kernel_rfl) (by kernel_rfl) (by kernel_rfl) ?_ ?_ <;> repeat' (first | exact trivial | exact vr_val _ | apply vr_agg | refine vr_fl _ _ _ _ _ (by decide) rfl ?_ ?_ ?_ ?_ | apply And.intro)
  all_goals first | exact cds_three _ | exact cds_len _ | exact cds_flat _ | exact vals_in (cc_all _)
set_option maxRecDepth 100000 in
set_option maxHeartbeats 1000000 in
theorem farE_ac (cs : List Cd) (h : Int) (hn : cs.length ≤ maxLen) : AC Try.prog 44 [evD cs h] [] [] (dB (decide ((cs.length : Int) > 8))) := by
  refine klaw12_farEvent.ac (n0 := 0) (by simp) ⟨in_ev _ _ _, trivial⟩ trivial rfl ?_
  unfold claw12_farEvent evD
  have hmax : maxLen = 9223372036854775807 := rfl
  cases q : decide ((cs.length : Int) > 8)
  all_goals
    (have hg : (987654321 : Nat) - 987654321 = 0 := rfl; have hr := hg; repeat' (first | refine aw_seq ?_ | (refine aw_skip ?_; try simp only [thenQ, blockQ, if_true, if_false, Nat.reduceEqDiff, reduceCtorEq]) | (refine aw_exit ?_; try simp only [thenQ, blockQ, if_true, if_false, Nat.reduceEqDiff, reduceCtorEq]) | refine aw_ret ?_ | refine aw_block ?_ | refine aw_condT rfl ?_ | refine aw_condF rfl ?_ | ((first | refine aw_region ?_ | refine ago_if (by omega) ?_ | skip); simp (config := {maxSteps := 10000000}) (disch := first | exact okYes (by kernel_rfl) | omega) only [thenQ, List.map, dB, List.length, Nat.zero_add, Nat.reduceAdd, Nat.reduceMul, envOf, dI, ARun_none, AOpRun, aexec, D.isBot, FSt.ev, St.F, ↓eget_h, Bool.false_eq_true, Option.isSome, hget_n, or_self, ↓reduceIte, D.cells, AGo_ok, St.app, putO, eput_c, Nat.reduceBEq, eput_n, cond_false, hups, hput_n, ARun_nil, dropE_c, inL_n, dropE_n, eget_c, Option.map, run1, hget_c, beq_self_eq_true, cond_true, List.getElem?_cons_zero, cds_len, isSh, abin, q, inL_c])))
    all_goals (refine end_to [] [] (by first | exact .inl rfl | exact .inr rfl) rfl (by kernel_rfl) (by kernel_rfl) (by kernel_rfl) ?_ ?_ <;> repeat' (first | exact trivial | exact vr_val _))
end Go.Proofs.Ytdcodicoclecnaa
