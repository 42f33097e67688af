/- Texts of the law RecordLivesCard, part 11. No conditions. -/
import Derived.Test.YtdcodicoclecnaaDoorPRecordLivesCard10
import Derived.Test.YtdcodicoclecnaaDoorRows
set_option linter.unusedSimpArgs false
set_option linter.unusedVariables false
/- record: whether a claim holds with proofs. No conditions. -/
namespace Go.Proofs.YtdcodicoclecnaaDoor
open Go Go.RowKit Lift

theorem clV_any {x : Clm} {h : List Bool} {cn : Nat → Bool} (ha : x.any = true) : ((x.needs.map fun n => h[n.toNat]?.getD false) ++ x.proofs.map fun n => cn n.toNat).any (fun b => b == true) = clV x h cn := by
  unfold clV
  rw [if_pos ha, List.any_append, List.any_map, List.any_map]
  congr 1 <;> (congr 1; funext n; simp)
theorem clV_all {x : Clm} {h : List Bool} {cn : Nat → Bool} (ha : x.any = false) : (!((x.needs.map fun n => h[n.toNat]?.getD false) ++ x.proofs.map fun n => cn n.toNat).any (fun b => b == false)) = clV x h cn := by
  unfold clV
  rw [ha, if_neg (by simp), List.any_append, List.any_map, List.any_map, Bool.not_or, List.not_any_eq_all_not, List.not_any_eq_all_not]
  congr 1 <;> (congr 1; funext n; simp)
theorem bcl_app (A B : List Bool) : bcl A ++ bcl B = bcl (A ++ B) := by simp [bcl]
theorem asc_short {l : List Int} {b : Int} (h : Asc l b) (hb : b ≤ 20) : l.length ≤ 100 := by
  have key : ∀ i, i < l.length → (i : Int) ≤ l[i]?.getD 0 := fun i => by
    induction i with
    | zero => intro hi; have := (h 0 hi).1; omega
    | succ i ih =>
      intro hi
      have h1 := ih (by omega)
      have h2 := (h (i + 1) hi).2.2 (by omega)
      rw [Nat.add_sub_cancel] at h2
      omega
  rcases Nat.eq_zero_or_pos l.length with h0 | h0
  · omega
  · have h1 := key (l.length - 1) (by omega)
    have h2 := (h (l.length - 1) (by omega)).2.1
    omega
theorem bcl_ne {l : List Bool} (h : 0 < l.length) : (bcl l).isEmpty = false := by cases l with
  | nil => simp at h
  | cons a l => rfl
set_option maxRecDepth 100000 in
set_option maxHeartbeats 8000000 in
theorem holds_ac (c : Cas) (hc : CasOk c) (cl : Nat) (hcl : cl < c.cl.length) (p : Nat) (hp : p < 4096) : AC Tryd.prog 27 [casD c, dI cl, dI p] [] [] (dB (holdC c cl p.testBit)) := by
  refine krecord_holds.ac (n0 := 0) (by simp) ⟨in_cas _ _, .val _, .val _, trivial⟩ trivial rfl ?_
  unfold crecord_holds casD
  have n1 := hc.n1
  have n2 := hc.n2
  have e0 : ((cl : Int) + 1).toNat = cl + 1 := by omega
  refine aw_seq (aw_region ?_)
  simp (disch := first | exact okY | omega) only [ZU, dB, Nat.reduceAdd, Nat.reduceMul, dI, AOpRun, aexec, D.isBot, ↓eget_h, or_self, ↓reduceIte, D.cells, Nat.reduceBEq]
  refine aw_seq (aw_region ?_)
  have hm1 : (0 : Int) ≤ (cl : Int) + 1 := by omega
  have hm2 : ((cl : Int) + 1) * 1 ≤ 2 ^ 48 := by omega
  have hm3 : (cl : Int) + 1 < 2 ^ 62 := by omega
  have hf0 : hlF c p.testBit (cl + 1) 0 = List.replicate (cl + 1) false := hlF_zero c p.testBit (cl + 1)
  simp (disch := first | exact okY | omega) only [ZU, Nat.reduceAdd, Nat.reduceMul, AOpRun, aexec, Nat.reduceBEq, ↓eget_h, isSh, ↓reduceIte, abin, fits, hm1, cast_lit, hm2, hm3, e0, rep_bc, ← hf0, ↓hget_h, D.isBot, D.cells, Nat.reduceLeDiff, List.all, D.leaf, splice, List.take, List.drop]
  refine aw_seq (aw_seq (aw_region ?_))
  have hm4 : (cl : Int) + 1 ≤ (c.cl.length : Int) := by omega
  have e1 : ((cl : Int) + 1 - 0).toNat = cl + 1 := by omega
  have ca := cls_all c.cl
  simp (disch := first | exact okY | omega) only [ZU, Nat.reduceAdd, Nat.reduceMul, AOpRun, aexec, Nat.reduceBEq, ↓eget_h, run1, isSh, ↓reduceIte, abin, fits, asI, cls_len, Int.le_refl, hm1, hm4, ca, e1, Int.toNat_zero, List.drop]
  have hSl : ((cls c.cl).take (cl + 1)).length = cl + 1 := by rw [List.length_take, cls_len]; omega
  have hSa : ((cls c.cl).take (cl + 1)).all (fun x => x.length == 3) = true := List.all_eq_true.2 fun x hx => List.all_eq_true.1 ca x (List.mem_of_mem_take hx)
  have hSg : ∀ k, k < cl + 1 → ((cls c.cl).take (cl + 1))[k]? = some (clC (clAt c k)) := fun k hk => by rw [List.getElem?_take_of_lt hk]; exact cls_gd c.cl k (by omega)
  generalize (cls c.cl).take (cl + 1) = S at *
  simp (disch := first | exact okY | omega) only [hSl]
  refine aw_block ?_
  refine aw_loop (fun k : Nat => ⟨[(1, dI cl), (2, dI p), (7, .ptr 16 0), (18, .list S), (19, dI ((cl : Int) + 1)), (20, dI k)], [(16, [.vec 24 (cl + 1) 1]), (24, bcl (hlF c p.testBit (cl + 1) k))], 400⟩) (fun k => k ≤ cl + 1) (fun k => cl + 1 - k) ⟨0, by omega, ?_⟩ ?_
  · refine wk_q [] [(16, 40), (24, 32)] ?_ ?_ <;> repeat' (first | exact trivial | exact vr_val _ | exact vr_list _ | exact vr_vec _ _ _ _ rfl | exact vr_ptr _ _ _ rfl | refine And.intro ⟨_, rfl, .inl ⟨_, rfl, by decide, ?_⟩⟩ ?_ | apply And.intro)
    all_goals exact vrl_flat _ (bcl_in _)
  intro k hk
  by_cases hk2 : k < cl + 1
  case neg =>
    obtain rfl : k = cl + 1 := by omega
    have g1 := bc_gd (hlF c p.testBit (cl + 1) (cl + 1)) cl (by rw [hlF_len]; omega)
    rw [hlF_get c p.testBit (cl + 1) (cl + 1) cl (by omega) (by omega)] at g1
    have g2 := bcl_len (hlF c p.testBit (cl + 1) (cl + 1))
    rw [hlF_len] at g2
    have q : decide (((cl + 1 : Nat) : Int) < (cl : Int) + 1) = false := decide_eq_false (by omega)
    have q2 : (cl : Int) < ((cl + 1 : Nat) : Int) := by omega
    have q3 : (0 : Int) ≤ (cl : Int) := by omega
    show AWb _ _ _ _ _ _ _
    (repeat' (first | apply aw_seq | ((first | apply aw_skip | apply aw_exit); try simp only [thenQ, blockQ, if_true, if_false, Nat.reduceEqDiff, reduceCtorEq]) | apply aw_ret | apply aw_block | apply aw_condT rfl | apply aw_condF rfl | ((first | refine aw_region ?_ | refine ago_if (by omega) ?_ | skip); simp (disch := first | exact okY | omega) only [ZU, dI, Nat.mul_one, Nat.reduceAdd, AOpRun, aexec, Nat.reduceBEq, ↓eget_h, isSh, ↓reduceIte, abin, q, Nat.reduceMul, run1, Nat.add_zero, q3, q2, ↓hget_h, g1])))
    all_goals (refine end_q [] [] ?_ ?_ <;> repeat' (first | exact trivial | exact vr_val _))
  have g1 := hSg k hk2
  unfold clC at g1
  obtain ⟨as1, as2⟩ := hc.asc k (by omega)
  have hsu := hlF_succ c p.testBit (cl + 1) k hk2
  have hdl := hlF_len c p.testBit (cl + 1) k
  have eA : (clAt c k).needs.map (fun n => (hlF c p.testBit (cl + 1) k)[n.toNat]?.getD false) = (clAt c k).needs.map (fun n => (hlK c p.testBit k)[n.toNat]?.getD false) := by
    refine List.map_congr_left fun n hn => ?_
    have := asc_lt as1 hn
    exact hlF_get c p.testBit (cl + 1) k n.toNat (by omega) (by omega)
  have va := clV_any (x := clAt c k) (h := hlK c p.testBit k) (cn := p.testBit)
  have vl := clV_all (x := clAt c k) (h := hlK c p.testBit k) (cn := p.testBit)
  have l1 : (clAt c k).needs.length ≤ 100 := asc_short as1 (by omega)
  have l2 : (clAt c k).proofs.length ≤ 100 := asc_short as2 (by omega)
  have pk1 := pick1_ac (hlF c p.testBit (cl + 1) k) (bcl_ne (by omega)) (clAt c k).needs (by omega) (fun j hj => by have := as1 j hj; omega)
  have pk2 := pick2_ac p hp (clAt c k).proofs (by omega) (fun j hj => by have := as2 j hj; omega)
  rw [eA, hdl] at pk1
  have hAl : ((clAt c k).needs.map (fun n => (hlK c p.testBit k)[n.toNat]?.getD false)).length = (clAt c k).needs.length := List.length_map ..
  have hBl : ((clAt c k).proofs.map (fun n => p.testBit n.toNat)).length = (clAt c k).proofs.length := List.length_map ..
  generalize (clAt c k).needs.map (fun n => (hlK c p.testBit k)[n.toNat]?.getD false) = A at *
  generalize (clAt c k).proofs.map (fun n => p.testBit n.toNat) = B at *
  generalize clV (clAt c k) (hlK c p.testBit k) p.testBit = V at *
  generalize clAt c k = x at *
  generalize hlF c p.testBit (cl + 1) k = H at *
  have ki : (k : Int) < (cl : Int) + 1 := by omega
  refine aw_seq (aw_region ?_)
  simp (disch := first | exact okY | omega) only [ZU, dI, Nat.reduceMul, Nat.reduceAdd, AOpRun, aexec, Nat.reduceBEq, ↓eget_h, isSh, ↓reduceIte, abin, ki]
  refine aw_seq (aw_condT rfl (aw_skip ?_))
  refine aw_seq (aw_block (aw_seq (aw_region ?_)))
  simp (disch := first | exact okY | omega) only [ZU, Nat.reduceAdd, Nat.reduceMul, AOpRun, aexec, Nat.reduceBEq, ↓eget_h, hSa, ↓reduceIte, opt1, g1, dB, Nat.reduceLeDiff, List.take, ↓hget_h, D.isBot, D.cells, List.all, D.leaf, splice, List.drop]
  refine aw_wk (s' := ⟨[(1, dI cl), (2, dI p), (7, .ptr 16 0), (8, dI k), (9, .ptr 40 0), (18, .list S), (19, dI ((cl : Int) + 1)), (20, dI k)], [(16, [.vec 24 (cl + 1) 1]), (24, bcl H), (40, [.list (ints x.needs), .list (ints x.proofs), dB x.any])], 72⟩) ?_ ?_
  · unfold dI dB
    refine wk_q [] [(16, 16), (24, 24), (40, 432)] ?_ ?_ <;> repeat' (first | exact trivial | exact vr_val _ | exact vr_list _ | exact vr_vec _ _ _ _ rfl | exact vr_ptr _ _ _ rfl | refine And.intro ⟨_, rfl, .inl ⟨_, rfl, by decide, ?_⟩⟩ ?_ | apply And.intro)
    all_goals exact vrl_flat _ (bcl_in _)
  refine aw_seq (aw_region ?_)
  simp (disch := first | exact okY | omega) only [ZU, Nat.reduceAdd, Nat.reduceMul, dI, dB, AOpRun, aexec, Nat.reduceBEq, ↓eget_h, run1, ↓hget_h]
  refine acallB pk1 (by repeat' (first | exact trivial | exact rfl | refine And.intro ?_ ?_)) (by kernel_rfl) (by kernel_rfl) (by kernel_rfl) ?_
  simp (disch := first | exact okY | omega) only [ZU, Nat.reduceAdd, Nat.reduceBEq, AOpRun, aexec, ↓eget_h, run1, ↓hget_h]
  refine acallB pk2 (by repeat' (first | exact trivial | exact rfl | refine And.intro ?_ ?_)) (by kernel_rfl) (by kernel_rfl) (by kernel_rfl) ?_
  have hac : (bcl A).length = x.needs.length := by rw [bcl_len]; exact hAl
  have hat : (bcl A).take x.needs.length = bcl A := List.take_of_length_le (by omega)
  have hbc : (bcl B).length = x.proofs.length := by rw [bcl_len]; exact hBl
  have hbt : (bcl B).take x.proofs.length = bcl B := List.take_of_length_le (by omega)
  have hbl := bcl_leaf B
  simp (disch := first | exact okY | omega) only [ZU, Nat.reduceAdd, Nat.reduceBEq, AOpRun, aexec, base, ↓eget_h, ↓hget_h, Nat.mul_one, hac, Nat.le_refl, ↓reduceIte, hat, elems, hbc, hbt, Nat.reduceMul, hbl, and_true, ups]
  refine ago_if (by omega) ?_
  simp (disch := first | exact okY | omega) only [ZU, Nat.reduceAdd, Nat.reduceBEq, hdel_c, hdel_n, AOpRun, aexec, ↓eget_h]
  rw [bcl_app]
  have hL : (A ++ B).length = x.needs.length + x.proofs.length := by simp [hAl, hBl]
  refine aw_wk (s' := ⟨[(1, dI cl), (2, dI p), (7, .ptr 16 0), (8, dI k), (9, .ptr 40 0), (10, .vec 144 (x.needs.length + x.proofs.length) 1), (18, .list S), (19, dI ((cl : Int) + 1)), (20, dI k)], [(16, [.vec 24 (cl + 1) 1]), (24, bcl H), (40, [.list (ints x.needs), .list (ints x.proofs), dB x.any]), (144, bcl (A ++ B))], 200⟩) ?_ ?_
  · unfold dI dB
    refine wk_q [] [(16, 16), (24, 24), (40, 40), (144, 144)] ?_ ?_ <;> repeat' (first | exact trivial | exact vr_val _ | exact vr_list _ | exact vr_vec _ _ _ _ rfl | exact vr_ptr _ _ _ rfl | refine And.intro ⟨_, rfl, .inl ⟨_, rfl, by decide, ?_⟩⟩ ?_ | apply And.intro)
    all_goals exact vrl_flat _ (bcl_in _)
  have ct := cbool_ac (A ++ B) true (by omega)
  have cf := cbool_ac (A ++ B) false (by omega)
  generalize A ++ B = L at *
  have hHc : (bcl H).length = cl + 1 := (bcl_len H).trans hdl
  have hHk : k + 1 ≤ cl + 1 := by omega
  have hHb := bc_t H k V (by omega)
  have hcin := bcl_in (H.set k V)
  have k0 : (0 : Int) ≤ (k : Int) := by omega
  have k1 : (k : Int) < ((cl + 1 : Nat) : Int) := by omega
  have hfin : ∀ s : St, Wk [] s ⟨[(1, dI cl), (2, dI p), (7, .ptr 16 0), (18, .list S), (19, dI ((cl : Int) + 1)), (20, dI ((k + 1 : Nat) : Int))], [(16, [.vec 24 (cl + 1) 1]), (24, bcl (H.set k V))], 400⟩ → ∃ j, j ≤ cl + 1 ∧ cl + 1 - j < cl + 1 - k ∧ Wk [] s ⟨[(1, dI cl), (2, dI p), (7, .ptr 16 0), (18, .list S), (19, dI ((cl : Int) + 1)), (20, dI j)], [(16, [.vec 24 (cl + 1) 1]), (24, bcl (hlF c p.testBit (cl + 1) j))], 400⟩ := fun s hs => ⟨k + 1, by omega, by omega, by rw [hsu]; exact hs⟩
  cases ha : x.any with
  | true =>
    rw [va ha] at ct
    refine aw_seq (aw_region ?_)
    simp (disch := first | exact okY | omega) only [ZU, Nat.reduceAdd, Nat.reduceMul, dI, dB, AOpRun, aexec, Nat.reduceBEq, ↓eget_h, run1, ↓hget_h]
    refine aw_condT rfl (aw_region ?_)
    simp (disch := first | exact okY | omega) only [ZU, blockQ, Nat.reduceAdd, Nat.reduceMul, AOpRun, aexec, run1, Nat.reduceBEq, ↓eget_h]
    refine acall ct [144] ⟨vec_bools L (by simp) rfl hL, .refl _, trivial⟩ (.inr (.val _)) (by intro g hg; simp at hg; subst hg; exact ⟨_, rfl⟩) (by kernel_rfl) ?_
    simp (disch := first | exact okY | omega) only [ZU, Nat.reduceAdd, dB, Nat.reduceBEq, AOpRun, aexec, ↓eget_h, k0, k1, ↓reduceIte, Nat.mul_one, ↓hget_h, D.isBot, D.cells, hHc, hHk, List.all, D.leaf, splice, hHb]
    refine aw_region ?_
    simp (disch := first | exact okY | omega) only [ZU, Nat.reduceAdd, Nat.reduceMul, AOpRun, aexec, Nat.reduceBEq, ↓eget_h, isSh, ↓reduceIte, abin, fits]
    refine hfin _ ?_
    unfold dI
    refine wk_q [] [(16, 16), (24, 24)] ?_ ?_ <;> repeat' (first | exact trivial | exact vr_val _ | exact vr_list _ | exact vr_vec _ _ _ _ rfl | exact vr_ptr _ _ _ rfl | refine And.intro ⟨_, rfl, .inl ⟨_, rfl, by decide, ?_⟩⟩ ?_ | apply And.intro | exact vrl_flat _ (by first | exact icells_in _ | exact rcells_in _ | exact scells_in _ | exact bcells_in _ | assumption) | fail)
    all_goals exact vrl_flat _ hcin
  | false =>
    refine aw_seq (aw_region ?_)
    simp (disch := first | exact okY | omega) only [ZU, Nat.reduceAdd, Nat.reduceMul, dI, dB, AOpRun, aexec, Nat.reduceBEq, ↓eget_h, run1, ↓hget_h]
    refine aw_condF rfl (aw_region ?_)
    simp (disch := first | exact okY | omega) only [ZU, blockQ, Nat.reduceAdd, Nat.reduceMul, AOpRun, aexec, run1, Nat.reduceBEq, ↓eget_h]
    refine acall cf [144] ⟨vec_bools L (by simp) rfl hL, .refl _, trivial⟩ (.inr (.val _)) (by intro g hg; simp at hg; subst hg; exact ⟨_, rfl⟩) (by kernel_rfl) ?_
    have vf := vl ha
    generalize (L.any fun b => b == false) = W at *
    subst vf
    simp (disch := first | exact okY | omega) only [ZU, Nat.reduceAdd, dB, Nat.reduceBEq, AOpRun, aexec, ↓eget_h, k0, k1, ↓reduceIte, Nat.mul_one, ↓hget_h, D.isBot, D.cells, hHc, hHk, List.all, D.leaf, splice, hHb]
    refine aw_region ?_
    simp (disch := first | exact okY | omega) only [ZU, Nat.reduceAdd, Nat.reduceMul, AOpRun, aexec, Nat.reduceBEq, ↓eget_h, isSh, ↓reduceIte, abin, fits]
    refine hfin _ ?_
    unfold dI
    refine wk_q [] [(16, 16), (24, 24)] ?_ ?_ <;> repeat' (first | exact trivial | exact vr_val _ | exact vr_list _ | exact vr_vec _ _ _ _ rfl | exact vr_ptr _ _ _ rfl | refine And.intro ⟨_, rfl, .inl ⟨_, rfl, by decide, ?_⟩⟩ ?_ | apply And.intro | exact vrl_flat _ (by first | exact icells_in _ | exact rcells_in _ | exact scells_in _ | exact bcells_in _ | assumption) | fail)
    all_goals exact vrl_flat _ hcin
end Go.Proofs.YtdcodicoclecnaaDoor
/- record: until when a claim holds. No conditions. -/
namespace Go.Proofs.YtdcodicoclecnaaDoor
open Go Go.RowKit Lift

def untF (h : Nat → Bool) : Nat → Nat → Nat
  | 0, t => t
  | n + 1, t => if h t = true then untF h n (t + 1) else t
def hAtT (c : Cas) (cl : Nat) (t : Nat) : Bool := holdC c cl (cntT c (t : Int))
def untT (c : Cas) (cl tk : Nat) : Nat := untF (hAtT c cl) (2001 - tk) tk
theorem cntN_fun (c : Cas) (tick : Int) : (cntN c tick).testBit = cntT c tick := funext fun j => cntN_test c tick j
theorem cntN_lt {c : Cas} (hc : CasOk c) (tick : Int) : cntN c tick < 4096 := bits_small _ hc.n2 (Nat.le_refl _)
theorem clmE_ok {c : Cas} {claim tick : Int} (h : clmE c claim tick 122 1 = 0) : CasOk c ∧ ∃ cl tk : Nat, claim = cl ∧ tick = tk ∧ cl < c.cl.length ∧ tk ≤ 2000 := by
  unfold clmE at h
  by_cases hc : CasOk c
  · rw [casE_ok hc, if_neg (by simp)] at h
    split at h
    · rename_i h1
      exact ⟨hc, claim.toNat, tick.toNat, by omega, by omega, by omega, by omega⟩
    · omega
  · rw [casE_no hc, if_pos (by omega)] at h; omega
set_option maxRecDepth 100000 in
set_option maxHeartbeats 4000000 in
theorem until_ok (c : Cas) (hi : CasIn c) (cl tk : Nat) (h0 : clmE c cl tk 122 1 = 0) : AC Tryd.prog 15 [casD c, dI cl, dI tk] [] [] (if untT c cl tk = tk then .tup [dI 0, dI 3] else .tup [dI ((untT c cl tk : Nat) - 1 : Int), dI 0]) := by
  refine krecord_Until.ac (n0 := 0) (by simp) ⟨in_cas _ _, .val _, .val _, trivial⟩ trivial rfl ?_
  obtain ⟨hc, cl', tk', e1, e2, hcl, htk⟩ := clmE_ok h0
  obtain rfl : cl = cl' := by omega
  obtain rfl : tk = tk' := by omega
  have ck := ccheck_ac c hi cl tk
  rw [h0] at ck
  have hh := fun t : Nat => holds_ac c hc cl hcl (cntN c t) (cntN_lt hc t)
  have cc := fun t : Nat => counting_ac c hc.n2 (t : Int)
  unfold crecord_Until
  unfold casD at *
  (repeat' (first | apply aw_seq | ((first | apply aw_skip | apply aw_exit); try simp only [thenQ, blockQ, if_true, if_false, Nat.reduceEqDiff, reduceCtorEq]) | apply aw_ret | apply aw_block | apply aw_condT rfl | apply aw_condF rfl | ((first | refine aw_region ?_ | refine acall0 (ck) ?_ | refine ago_if (by omega) ?_ | skip); simp (disch := first | exact okY | omega) only [ZU, dI, Nat.reduceAdd, Nat.reduceMul, AOpRun, aexec, D.isBot, ↓eget_h, or_self, ↓reduceIte, D.cells, Nat.reduceBEq, Nat.reduceLeDiff, List.drop, List.take, isSh, abin, bne_self_eq_false])))
  refine aw_loop (fun t : Nat => ⟨[(1, dI cl), (2, dI tk), (3, .ptr 0 0), (9, dI t)], [(0, [.list (cls c.cl), .list (sps c.pf)])], 400⟩) (fun t => tk ≤ t ∧ t ≤ 2001 ∧ untF (hAtT c cl) (2001 - t) t = untT c cl tk) (fun t => 2001 - t) ⟨tk, ⟨by omega, by omega, rfl⟩, ?_⟩ ?_
  · refine wk_q [] [(0, 0)] ?_ ?_ <;> repeat' (first | exact trivial | exact vr_val _ | exact vr_list _ | exact vr_ptr _ _ _ rfl | refine And.intro ⟨_, rfl, .inl ⟨_, rfl, by decide, ?_⟩⟩ ?_ | apply And.intro)
  rintro t ⟨ht1, ht2, hu⟩
  have ht := hh t
  rw [cntN_fun] at ht
  have ct := cc t
  generalize cntN c t = p at ht ct
  by_cases hle : t ≤ 2000
  case neg =>
    obtain rfl : t = 2001 := by omega
    have e : untT c cl tk = 2001 := by rw [← hu]; rfl
    rw [e, if_neg (by omega)]
    (have hg : (987654321 : Nat) - 987654321 = 0 := rfl; have hr := hg; repeat' (first | apply aw_seq | ((first | apply aw_skip | apply aw_exit); try simp only [thenQ, blockQ, if_true, if_false, Nat.reduceEqDiff, reduceCtorEq]) | apply aw_ret | apply aw_block | apply aw_condT rfl | apply aw_condF rfl | (refine aw_cond rfl (fun hg => ?_) (fun hg => ?_) <;> (try (have hq := hg; simp only [Bool.not_eq_true', Bool.not_eq_false', Bool.and_eq_true, Bool.and_eq_false_iff, Bool.or_eq_true, Bool.or_eq_false_iff, decide_eq_true_eq, decide_eq_false_iff_not, bne_iff_ne, beq_iff_eq, beq_eq_false_iff_ne, bne_eq_false_iff_eq, ne_eq, Int.not_lt, Int.not_le, Decidable.not_not] at hq)) <;> (try (have hr := hg; simp only [decide_eq_true_eq, decide_eq_false_iff_not] at hr)) <;> (try (exfalso; omega))) | ((first | refine aw_region ?_ | refine ago_if (by omega) ?_ | skip); simp (disch := first | exact okY | omega) only [ZU, hg, dI, cast_lit, Int.reduceSub, Nat.reduceAdd, Nat.reduceMul, AOpRun, aexec, Nat.reduceBEq, ↓eget_h, isSh, ↓reduceIte, abin, Int.reduceLE, decide_false, ARun_some, AG_ft, fits])))
    all_goals (refine end_q [] [] ?_ ?_ <;> repeat' (first | exact trivial | exact vr_val _ | apply vr_tup | apply And.intro))
  have q1 : decide ((t : Int) ≤ 2000) = true := decide_eq_true (by omega)
  cases hv : holdC c cl (cntT c (t : Int)) with
  | false =>
    rw [hv] at ht
    have e : untT c cl tk = t := by
      rw [← hu, show 2001 - t = (2000 - t) + 1 by omega]
      unfold untF
      rw [if_neg (by unfold hAtT; simp [hv])]
    rw [e]
    by_cases hte : t = tk
    · subst hte
      rw [if_pos rfl]
      (repeat' (first | apply aw_seq | ((first | apply aw_skip | apply aw_exit); try simp only [thenQ, blockQ, if_true, if_false, Nat.reduceEqDiff, reduceCtorEq]) | apply aw_ret | apply aw_block | apply aw_condT rfl | apply aw_condF rfl | ((first | refine aw_region ?_ | refine acall0 (ct) ?_ | refine acall0 (ht) ?_ | refine ago_if (by omega) ?_ | skip); simp (disch := first | exact okY | omega) only [ZU, dI, Nat.reduceAdd, Nat.reduceMul, AOpRun, aexec, Nat.reduceBEq, ↓eget_h, isSh, ↓reduceIte, abin, q1, ARun_some, AG_tt, Nat.reduceLeDiff, List.drop, List.take, dB])))
      all_goals (refine end_q [] [] ?_ ?_ <;> repeat' (first | exact trivial | exact vr_val _ | apply vr_tup | apply And.intro))
    · rw [if_neg hte]
      have q2 : ((t : Int) == (tk : Int)) = false := by simp only [beq_eq_false_iff_ne]; omega
      (repeat' (first | apply aw_seq | ((first | apply aw_skip | apply aw_exit); try simp only [thenQ, blockQ, if_true, if_false, Nat.reduceEqDiff, reduceCtorEq]) | apply aw_ret | apply aw_block | apply aw_condT rfl | apply aw_condF rfl | ((first | refine aw_region ?_ | refine acall0 (ct) ?_ | refine acall0 (ht) ?_ | refine ago_if (by omega) ?_ | skip); simp (disch := first | exact okY | omega) only [ZU, dI, Nat.reduceAdd, Nat.reduceMul, AOpRun, aexec, Nat.reduceBEq, ↓eget_h, isSh, ↓reduceIte, abin, q1, ARun_some, AG_tt, Nat.reduceLeDiff, List.drop, List.take, dB, q2, fits])))
      all_goals (refine end_q [] [] ?_ ?_ <;> repeat' (first | exact trivial | exact vr_val _ | apply vr_tup | apply And.intro))
  | true =>
    rw [hv] at ht
    have e : untF (hAtT c cl) (2001 - (t + 1)) (t + 1) = untT c cl tk := by
      rw [← hu, show 2001 - t = (2001 - (t + 1)) + 1 by omega]
      conv => rhs; unfold untF
      rw [if_pos (by unfold hAtT; exact hv)]
    (repeat' (first | apply aw_seq | ((first | apply aw_skip | apply aw_exit); try simp only [thenQ, blockQ, if_true, if_false, Nat.reduceEqDiff, reduceCtorEq]) | apply aw_ret | apply aw_block | apply aw_condT rfl | apply aw_condF rfl | ((first | refine aw_region ?_ | refine acall0 (ct) ?_ | refine acall0 (ht) ?_ | refine ago_if (by omega) ?_ | skip); simp (disch := first | exact okY | omega) only [ZU, dI, Nat.reduceAdd, Nat.reduceMul, AOpRun, aexec, Nat.reduceBEq, ↓eget_h, isSh, ↓reduceIte, abin, q1, ARun_some, AG_tt, Nat.reduceLeDiff, List.drop, List.take, dB, blockQ, fits])))
    refine ⟨t + 1, ⟨by omega, by omega, e⟩, by omega, ?_⟩
    refine wk_q [] [(0, 0)] ?_ ?_ <;> repeat' (first | exact trivial | exact vr_val _ | exact vr_list _ | exact vr_ptr _ _ _ rfl | refine And.intro ⟨_, rfl, .inl ⟨_, rfl, by decide, ?_⟩⟩ ?_ | apply And.intro)
end Go.Proofs.YtdcodicoclecnaaDoor
/- law12: the example and what is made of it. No conditions. -/
namespace Go.Proofs.YtdcodicoclecnaaDoor
open Go Go.RowKit Lift

def exL : Lay := ⟨4, 100, 200, 300, 400, [⟨1, 0, 8, true, 1, 2, 10, 1, 0⟩, ⟨2, 4, 3, false, 5, 1, 0, 2, 1⟩, ⟨3, 0, 1, false, 1, 1, 0, 1, 0⟩]⟩
def exF : List (List Int) := [[100, 4, 0, 0], [200, 254, 48, 1], [300, 6, 0, 0]]
def exC : Cas := ⟨[⟨[], [0, 1], false⟩, ⟨[0], [2], true⟩, ⟨[0, 1], [], false⟩], [(0, 10), (5, 20), (8, 30)]⟩
theorem exC_ok : CasOk exC := ⟨by decide, by decide, by decide, by decide⟩
theorem exC_in : CasIn exC := ⟨by decide, by decide, fun i => by
  rcases i with _ | _ | _ | i <;> simp [exC, clAt, cl0], fun i => by
  rcases i with _ | _ | _ | i <;> simp [exC, clAt, cl0]⟩
theorem exU : untT exC 1 5 = 31 := by decide
theorem exE : clmE exC ((1 : Nat) : Int) ((5 : Nat) : Int) 122 1 = 0 := by
  unfold clmE
  rw [casE_ok exC_ok]
  decide
theorem exL_in : LayIn exL := ⟨by decide, fun k hk => by
  rcases (by have : exL.fl.length = 3 := rfl
             omega : k = 0 ∨ k = 1 ∨ k = 2) with rfl | rfl | rfl <;> decide⟩
def isV : D → Bool
  | .val _ => true
  | .list _ => true
  | _ => false
theorem vals_in {S : Nat → Prop} {c : List D} (h : c.all isV = true) : ∀ d ∈ c, In S d := fun d hd => by
  have := List.all_eq_true.1 h d hd
  cases d <;> first | exact .val _ | exact .list _ | (simp [isV] at this)
set_option maxRecDepth 100000 in
set_option maxHeartbeats 4000000 in
theorem example_ac : AC Tryd.prog 13 [] [] [] (.tup [layD exL, .list (rows exF), casD exC]) := by
  refine klaw12_Example.ac (n0 := 0) (by simp) trivial trivial rfl ?_
  unfold claw12_Example
  refine aw_seq (aw_region ?_)
  simp (disch := first | exact okY | omega) only [ZU, Nat.reduceAdd, Nat.reduceMul, AOpRun, aexec, ↓reduceIte, Nat.reduceBEq]
  refine aw_seq (aw_region ?_)
  simp (disch := first | exact okY | omega) only [ZU, Nat.reduceAdd, Nat.reduceMul, AOpRun, aexec, fillD, D.isBot, D.cells, ne_eq, not_true_eq_false, Nat.reduceGT, or_self, ↓reduceIte, splice, List.take, List.drop, Nat.reduceBEq, ↓eget_h, ↓hget_h, Nat.reduceLeDiff, List.all, D.leaf]
  refine aw_wk (s' := ⟨[(0, .ptr 0 0), (2, .ptr 16 0), (3, .ptr 32 0)], [(0, [.val (.int .i64 0), .val (.int .i64 0), .val (.int .i64 0), .val (.int .i64 0), .val (.int .i64 0), .val (.slice none 0 0)]), (16, [.val (.slice none 0 0), .val (.slice none 0 0)]), (32, layC exL)], 100⟩) ?_ ?_
  · unfold layC dI exL
    refine wk_q [56] [(0, 0), (16, 16), (32, 72)] ?_ ?_ <;> repeat' (first | exact trivial | exact vr_val _ | exact vr_ptr _ _ _ rfl | refine vr_fl _ _ _ _ _ (by decide) rfl ?_ ?_ ?_ ?_ | refine And.intro ⟨_, rfl, .inl ⟨_, rfl, by decide, ?_⟩⟩ ?_ | apply And.intro)
    all_goals first | exact fls_nine _ | exact rfl | exact vals_in rfl
  refine aw_seq (aw_region_cut [⟨some 11, .buildSl 1 2 [(.val (.int .i64 0)), (.val (.int .i64 0))] [(0, 1, (.const (.int .i64 0))), (1, 1, (.const (.int .i64 1)))], none, []⟩,
     ⟨some 12, .build [(.val (.slice none 0 0)), (.val (.slice none 0 0)), (.val (.bool false))] [(1, 1, (.tmp 11))], none, []⟩,
     ⟨some 13, .buildSl 1 1 [(.val (.int .i64 0))] [(0, 1, (.const (.int .i64 0)))], none, []⟩,
     ⟨some 14, .buildSl 1 1 [(.val (.int .i64 0))] [(0, 1, (.const (.int .i64 2)))], none, []⟩,
     ⟨some 15, .build [(.val (.slice none 0 0)), (.val (.slice none 0 0)), (.val (.bool false))] [(0, 1, (.tmp 13)), (1, 1, (.tmp 14)), (2, 1, (.const (.bool true)))], none, []⟩,
     ⟨some 16, .buildSl 1 2 [(.val (.int .i64 0)), (.val (.int .i64 0))] [(0, 1, (.const (.int .i64 0))), (1, 1, (.const (.int .i64 1)))], none, []⟩,
     ⟨some 17, .build [(.val (.slice none 0 0)), (.val (.slice none 0 0)), (.val (.bool false))] [(0, 1, (.tmp 16))], none, []⟩]
    [⟨some 18, .buildSl 3 3 [(.val (.slice none 0 0)), (.val (.slice none 0 0)), (.val (.bool false)), (.val (.slice none 0 0)), (.val (.slice none 0 0)), (.val (.bool false)), (.val (.slice none 0 0)), (.val (.slice none 0 0)), (.val (.bool false))] [(0, 3, (.tmp 12)), (3, 3, (.tmp 15)), (6, 3, (.tmp 17))], none, []⟩,
     ⟨some 19, .build [(.val (.int .i64 0)), (.val (.int .i64 0))] [(1, 1, (.const (.int .i64 10)))], none, []⟩,
     ⟨some 20, .build [(.val (.int .i64 0)), (.val (.int .i64 0))] [(0, 1, (.const (.int .i64 5))), (1, 1, (.const (.int .i64 20)))], none, []⟩,
     ⟨some 21, .build [(.val (.int .i64 0)), (.val (.int .i64 0))] [(0, 1, (.const (.int .i64 8))), (1, 1, (.const (.int .i64 30)))], none, []⟩,
     ⟨some 22, .buildSl 2 3 [(.val (.int .i64 0)), (.val (.int .i64 0)), (.val (.int .i64 0)), (.val (.int .i64 0)), (.val (.int .i64 0)), (.val (.int .i64 0))] [(0, 2, (.tmp 19)), (2, 2, (.tmp 20)), (4, 2, (.tmp 21))], none, []⟩,
     ⟨some 23, .build [(.val (.slice none 0 0)), (.val (.slice none 0 0))] [(0, 1, (.tmp 18)), (1, 1, (.tmp 22))], none, []⟩,
     ⟨some 4, .mem [(.val (.slice none 0 0)), (.val (.slice none 0 0))], none, []⟩,
     ⟨none, .store 2 (.tmp 4) (.tmp 23), none, []⟩] ?_)
  simp (disch := first | exact okY | omega) only [ZU, Nat.reduceAdd, Nat.reduceMul, AOpRun, aexec, fillD, D.isBot, D.cells, ne_eq, Nat.reduceGT, or_false, splice, List.take, Nat.reduceBEq, ↓reduceIte, not_true_eq_false, or_self, List.drop, ↓eget_h]
  refine ⟨⟨[(0, .ptr 0 0), (2, .ptr 16 0), (3, .ptr 32 0), (12, .agg [.list (ints []), .list (ints [0, 1]), dB false]), (15, .agg [.list (ints [0]), .list (ints [2]), dB true]), (17, .agg [.list (ints [0, 1]), .list (ints []), dB false])], [(0, [.val (.int .i64 0), .val (.int .i64 0), .val (.int .i64 0), .val (.int .i64 0), .val (.int .i64 0), .val (.slice none 0 0)]), (16, [.val (.slice none 0 0), .val (.slice none 0 0)]), (32, layC exL)], 200⟩, ?_, of_decide_eq_true (by kernel_rfl), ?_⟩
  · unfold dB
    refine wk_q [100, 116, 124, 140] [(0, 0), (16, 16), (32, 32)] ?_ ?_ <;> repeat' (first | exact trivial | exact vr_val _ | exact vr_list _ | exact vr_nil | exact vr_ptr _ _ _ rfl | apply vr_agg | refine vr_fl _ _ _ _ _ (by decide) rfl ?_ ?_ ?_ ?_ | refine And.intro ⟨_, rfl, .inl ⟨_, rfl, by decide, ?_⟩⟩ ?_ | apply And.intro)
    all_goals first | exact ints_one _ | exact rfl | exact vals_in rfl | exact vrl_flat _ (vals_in rfl)
  simp (disch := first | exact okY | omega) only [ZU, Nat.reduceSub, Nat.reduceAdd, Nat.reduceBEq, ↓reduceIte, ↓eget_h, not_true_eq_false, or_self, List.drop, Nat.reduceGT, List.take, AOpRun, aexec, fillD, D.isBot, D.cells, ne_eq, splice, Nat.reduceMul, ↓hget_h, Nat.reduceLeDiff, List.all, D.leaf]
  refine aw_wk (s' := ⟨[(0, .ptr 0 0), (2, .ptr 16 0), (3, .ptr 32 0), (4, .ptr 40 0)], [(0, [.val (.int .i64 0), .val (.int .i64 0), .val (.int .i64 0), .val (.int .i64 0), .val (.int .i64 0), .val (.slice none 0 0)]), (16, [.val (.slice none 0 0), .val (.slice none 0 0)]), (32, layC exL), (40, [.list (cls exC.cl), .list (sps exC.pf)])], 400⟩) ?_ ?_
  · refine wk_q [200, 232] [(0, 0), (16, 16), (32, 32), (40, 248)] ?_ ?_ <;> repeat' (first | exact trivial | exact vr_val _ | exact vr_list _ | exact vr_ptr _ _ _ rfl | refine vr_fl _ _ _ _ _ (by decide) rfl ?_ ?_ ?_ ?_ | refine And.intro ⟨_, rfl, .inl ⟨_, rfl, by decide, ?_⟩⟩ ?_ | apply And.intro)
    all_goals first | exact cls_three _ | exact sps_two _ | exact rfl | exact vals_in rfl | exact vrl_flat _ (vals_in rfl)
  unfold layC exL
  refine aw_seq (aw_region ?_)
  simp (disch := first | exact okY | omega) only [ZU, Nat.reduceAdd, Nat.reduceMul, dI, AOpRun, aexec, Nat.reduceBEq, ↓eget_h, ↓hget_h, Nat.reduceLeDiff, ↓reduceIte, List.drop, List.take, fillD, D.isBot, D.cells, ne_eq, not_true_eq_false, Nat.reduceGT, or_self, splice, List.all, D.leaf]
  refine aw_wk (s' := ⟨[(0, .ptr 0 0), (1, .vec 432 3 1), (2, .ptr 16 0)], [(0, layC exL), (16, [.list (cls exC.cl), .list (sps exC.pf)]), (432, [.list (ints [100, 4, 0, 0]), .list (ints [200, 254, 48, 1]), .list (ints [300, 6, 0, 0])])], 500⟩) ?_ ?_
  · unfold layC dI exL
    refine wk_q [408, 416, 424] [(0, 0), (16, 16), (432, 432)] ?_ ?_ <;> repeat' (first | exact trivial | exact vr_val _ | exact vr_list _ | exact vr_vec _ _ _ _ rfl | exact vr_ptr _ _ _ rfl | refine vr_fl _ _ _ _ _ (by decide) rfl ?_ ?_ ?_ ?_ | refine And.intro ⟨_, rfl, .inl ⟨_, rfl, by decide, ?_⟩⟩ ?_ | apply And.intro)
    all_goals first | exact ints_one _ | exact rfl | exact vals_in rfl | exact vrl_flat _ (vals_in rfl)
  refine aw_ret ?_
  unfold layD casD
  refine end_q [432] [] ?_ ?_ <;> repeat' (first | exact trivial | exact vr_val _ | exact vr_list _ | apply vr_agg | apply vr_tup | refine vr_fl _ _ _ _ _ (by decide) rfl ?_ ?_ ?_ ?_ | apply And.intro)
  all_goals first | exact vals_in rfl | exact vrl_flat _ (vals_in rfl) | exact rfl | (intro e he; simp [rows, exF] at he; rcases he with rfl | rfl | rfl <;> rfl)
theorem exL_ok : LayOk exL := ⟨by decide, by decide, by decide, by decide, by decide, fun k hk => by
  rcases (by have : exL.fl.length = 3 := rfl
             omega : k = 0 ∨ k = 1 ∨ k = 2) with rfl | rfl | rfl <;> exact ⟨by decide, by decide, by decide, by decide, by decide, by decide, by decide, by decide, by decide, by decide, by decide, by decide, by decide, by decide⟩, fun i hi k hk s hs h1 h2 h3 => by
  have : exL.fl.length = 3 := rfl
  have h4 := h3.1
  rcases (by omega : i = 1 ∧ k = 0 ∨ i = 2 ∧ k = 0 ∨ i = 2 ∧ k = 1) with ⟨rfl, rfl⟩ | ⟨rfl, rfl⟩ | ⟨rfl, rfl⟩ <;> exact absurd h4 (by decide)⟩
theorem exF_in : FrIn exF := ⟨by decide, fun k => by
  unfold frm
  rcases k with _ | _ | _ | k <;> simp [exF, maxLen]⟩
theorem exP : pkS exL (fAt exL 0) exF 3 = (2, 26) := by decide
theorem exPk : peakR exL exF ((0 : Nat) : Int) = (2, 26, 0) := by
  have h : wfE exL exF [((0 : Nat) : Int)] = 0 := by
    unfold wfE
    rw [if_pos (tpE_ok exL_ok (by decide)), if_pos (by decide)]
  unfold peakR
  rw [if_pos h]
  have : pkS exL (fAt exL ((0 : Nat) : Int).toNat) exF exF.length = (2, 26) := exP
  rw [this, if_neg (by decide)]
set_option maxRecDepth 100000 in
set_option maxHeartbeats 4000000 in
theorem works_ac : AC Tryd.prog 6 [] [] [] (dB true) := by
  refine klaw12_works.ac (n0 := 0) (by simp) trivial trivial rfl ?_
  have ex := example_ac
  have pk := peak_ac exL exF ((0 : Nat) : Int) exL_in exF_in
  rw [exPk] at pk
  have un := until_ok exC exC_in 1 5 exE
  rw [exU, if_neg (by decide)] at un
  unfold claw12_works
  unfold layD casD layC at *
  (repeat' (first | apply aw_seq | ((first | apply aw_skip | apply aw_exit); try simp only [thenQ, blockQ, if_true, if_false, Nat.reduceEqDiff, reduceCtorEq]) | apply aw_ret | apply aw_block | apply aw_condT rfl | apply aw_condF rfl | ((first | refine aw_region ?_ | refine acall0 (ex) ?_ | refine acall0 (pk) ?_ | refine acall0 (un) ?_ | refine ago_if (by omega) ?_ | skip); simp (disch := first | exact okY | omega) only [ZU, dB, Nat.reduceMul, AOpRun, aexec, Nat.reduceAdd, dI, Nat.reduceBEq, ↓eget_h, opt1, ↓reduceIte, D.isBot, D.cells, Nat.reduceLeDiff, List.all, D.leaf, splice, List.take, List.drop, ↓hget_h, cast_lit, Int.reduceSub, isSh, abin, ARun_some, AG_tt])))
  all_goals (refine end_q [] [] ?_ ?_ <;> repeat' (first | exact trivial | exact vr_val _))
end Go.Proofs.YtdcodicoclecnaaDoor
/- law12: copies, comparisons, what is too large. No conditions. -/
namespace Go.Proofs.YtdcodicoclecnaaDoor
open Go Go.RowKit Lift

theorem fc_all : ∀ l : List Fl, (flcells l).all isV = true
  | [] => rfl
  | f :: l => by
    have := fc_all l
    unfold flcells at *
    rw [List.flatMap_cons, List.all_append, this]; rfl
theorem fc_leaf : ∀ l : List Fl, (flcells l).all D.leaf = true
  | [] => rfl
  | f :: l => by
    have := fc_leaf l
    unfold flcells at *
    rw [List.flatMap_cons, List.all_append, this]; rfl
set_option maxRecDepth 100000 in
set_option maxHeartbeats 2000000 in
theorem copyL_ac (l : Lay) (hn : l.fl.length ≤ 1000) : AC Tryd.prog 16 [layD l] [] [] (layD l) := by
  refine kref12_CopyLayout.ac (n0 := 0) (by simp) ⟨in_layD _ _, trivial⟩ trivial rfl ?_
  unfold cref12_CopyLayout layD layC
  have a1 := fls_len l.fl
  have a2 := fls_all l.fl
  have a3 := fls_flat l.fl
  have a4 := fc_leaf l.fl
  refine aw_seq (aw_region ?_)
  simp (disch := first | exact okY | omega) only [ZU, dI, Nat.reduceAdd, Nat.reduceMul, AOpRun, aexec, D.isBot, ↓eget_h, or_self, ↓reduceIte, D.cells, Nat.reduceBEq]
  refine aw_seq (aw_region ?_)
  simp (disch := first | exact okY | omega) only [ZU, Nat.reduceAdd, Nat.reduceMul, AOpRun, aexec, Nat.reduceBEq, ↓eget_h, Nat.reduceLeDiff, ↓reduceIte, List.drop, List.take, ↓hget_h, D.isBot, D.cells, List.all, D.leaf, splice]
  refine aw_seq (aw_region ?_)
  simp (disch := first | exact okY | omega) only [ZU, Nat.reduceAdd, Nat.reduceMul, AOpRun, aexec, Nat.reduceBEq, ↓reduceIte, fillD, ↓eget_h, run1, base, ↓hget_h, Nat.zero_le, List.take, elems, a2, a1, a3, a4, and_true, ups]
  refine ago_if (by omega) ?_
  simp (disch := first | exact okY | omega) only [ZU, Nat.reduceAdd, Nat.reduceBEq, hdel_c, hdel_n, AOpRun, aexec, ↓eget_h, ↓hget_h, D.isBot, D.cells, Nat.reduceLeDiff, List.all, D.leaf, ↓reduceIte, splice, List.take, List.drop]
  refine aw_seq (aw_region ?_)
  simp (disch := first | exact okY | omega) only [ZU, Nat.reduceAdd, Nat.reduceMul, AOpRun, aexec, Nat.reduceBEq, ↓eget_h, ↓hget_h, Nat.reduceLeDiff, ↓reduceIte, List.drop, List.take, D.isBot, D.cells, List.all, D.leaf, splice]
  refine aw_ret ?_
  refine end_q [64] [] ?_ ?_ <;> repeat' (first | exact trivial | exact vr_val _ | apply vr_agg | refine vr_fl _ _ _ _ _ (by decide) rfl ?_ ?_ ?_ ?_ | apply And.intro)
  all_goals first | exact fls_nine _ | exact fls_len _ | exact fls_flat _ | exact vals_in (fc_all _)
set_option maxRecDepth 100000 in
set_option maxHeartbeats 2000000 in
theorem copyF_ac (frs : List (List Int)) (hn : frs.length ≤ 1000) (hm : ∀ k, (frm frs k).length ≤ 1000000) : AC Tryd.prog 17 [.list (rows frs)] [] [] (.list (rows frs)) := by
  refine kref12_CopyFrames.ac (n0 := 0) (by simp) ⟨.list _, trivial⟩ trivial rfl ?_
  unfold cref12_CopyFrames
  refine aw_seq (aw_region ?_)
  simp (disch := first | exact okY | omega) only [ZU, Nat.reduceMul, AOpRun, aexec, Nat.reduceBEq]
  refine aw_seq (aw_region ?_)
  simp (disch := first | exact okY | omega) only [ZU, Nat.reduceMul, Nat.reduceAdd, AOpRun, aexec, Nat.reduceBEq]
  refine aw_seq (aw_seq (aw_region ?_))
  simp (disch := first | exact okY | omega) only [ZU, Nat.reduceMul, Nat.reduceAdd, AOpRun, aexec, Nat.reduceBEq]
  refine aw_block (aw_loop (fun k : Nat => ⟨[(0, .list (rows frs)), (3, .vec 40 k 1), (4, dI k)], [(40, rcells (frs.take k))], 400⟩) (fun k => k ≤ frs.length) (fun k => frs.length - k) ⟨0, by omega, ?_⟩ ?_)
  · show Wk _ _ ⟨_, [(40, [])], _⟩
    refine wk_q [] [(40, 900)] ?_ ?_ <;> repeat' (first | exact trivial | exact vr_val _ | exact vr_list _ | exact vr_nilv _ _ _ rfl | refine And.intro ⟨_, rfl, .inr ⟨rfl, rfl, of_decide_eq_true (by kernel_rfl)⟩⟩ ?_ | apply And.intro)
  intro k hk
  by_cases hk2 : k < frs.length
  case neg =>
    obtain rfl : k = frs.length := by omega
    have e : frs.take frs.length = frs := List.take_of_length_le (by omega)
    rw [e]
    (have hg : (987654321 : Nat) - 987654321 = 0 := rfl; have hr := hg; repeat' (first | apply aw_seq | ((first | apply aw_skip | apply aw_exit); try simp only [thenQ, blockQ, if_true, if_false, Nat.reduceEqDiff, reduceCtorEq]) | apply aw_ret | apply aw_block | apply aw_condT rfl | apply aw_condF rfl | (refine aw_cond rfl (fun hg => ?_) (fun hg => ?_) <;> (try (have hq := hg; simp only [Bool.not_eq_true', Bool.not_eq_false', Bool.and_eq_true, Bool.and_eq_false_iff, Bool.or_eq_true, Bool.or_eq_false_iff, decide_eq_true_eq, decide_eq_false_iff_not, bne_iff_ne, beq_iff_eq, beq_eq_false_iff_ne, bne_eq_false_iff_eq, ne_eq, Int.not_lt, Int.not_le, Decidable.not_not] at hq)) <;> (try (have hr := hg; simp only [decide_eq_true_eq, decide_eq_false_iff_not] at hr)) <;> (try (exfalso; omega))) | ((first | refine aw_region ?_ | refine ago_if (by omega) ?_ | skip); simp (disch := first | exact okY | omega) only [ZU, dI, Nat.reduceAdd, Nat.reduceMul, AOpRun, aexec, Nat.reduceBEq, ↓eget_h, rows_len, isSh, ↓reduceIte, abin, hr, decide_false])))
    refine end_q [40] [] ?_ ?_ <;> repeat' (first | exact trivial | refine vr_fl _ _ _ _ _ (by decide) rfl ?_ ?_ ?_ ?_)
    all_goals first | exact rows_one _ | exact rows_len _ | exact rows_flat _ | exact rcells_in _
  have g1 := rows_gd frs k hk2
  rw [show frs[k]?.getD [] = frm frs k from rfl] at g1
  have hfl := hm k
  have e : rcells (frs.take (k + 1)) = rcells (frs.take k) ++ [.list (ints (frm frs k))] := by
    unfold rcells
    rw [List.take_add_one, List.map_append]
    simp [hk2, frm]
  have hcin := rcells_in (frs.take (k + 1))
  have hrl : (rcells (frs.take k)).length = k := by rw [rcells_len, List.length_take]; omega
  have hrt : (rcells (frs.take k)).take k = rcells (frs.take k) := List.take_of_length_le (by omega)
  have ki : (k : Int) < (frs.length : Int) := by omega
  rw [e] at hcin
  generalize frm frs k = fr at *
  generalize rcells (frs.take k) = R at *
  refine aw_seq (aw_seq (aw_region ?_))
  simp (disch := first | exact okY | omega) only [ZU, dI, Nat.reduceAdd, Nat.reduceMul, AOpRun, aexec, Nat.reduceBEq, ↓eget_h, rows_len, isSh, ↓reduceIte, abin, ki]
  refine aw_condT rfl (aw_skip ?_)
  refine aw_seq (aw_block ?_)
  refine aw_region_cut [⟨some 11, .mv (.tmp 3), none, []⟩,
            ⟨some 12, .buildSl 1 0 [] [], none, []⟩,
            ⟨some 13, .mv (.tmp 0), none, []⟩,
            ⟨some 14, .mv (.tmp 4), none, []⟩,
            ⟨some 15, .iadS 1 (.tmp 13) (.tmp 14), none, []⟩,
            ⟨some 16, .load1 (.tmp 15), none, []⟩,
            ⟨some 17, .app 1 8 (.tmp 12) (.tmp 16), none, []⟩] [⟨some 18, .buildSl 1 1 [(.val (.slice none 0 0))] [(0, 1, (.tmp 17))], none, []⟩,
            ⟨some 19, .app 1 24 (.tmp 11) (.tmp 18), none, []⟩,
            ⟨some 3, .mv (.tmp 19), none, []⟩] ?_
  simp (disch := first | exact okY | omega) only [ZU, Nat.reduceAdd, Nat.reduceMul, blockQ, AOpRun, aexec, fillD, D.isBot, D.cells, ne_eq, Nat.reduceGT, or_false, splice, List.take, Nat.reduceBEq, ↓eget_h, ↓reduceIte, rows_all, opt1, g1, run1, base, ↓hget_h, Nat.zero_le, elems, ints_all, ints_len, ints_flat, icells_leaf, and_true, ups]
  refine ago_if (by omega) ?_
  simp (disch := first | exact okY | omega) only [ZU, Nat.reduceAdd, Nat.reduceBEq, hdel_c, hdel_n]
  refine ⟨⟨[(0, .list (rows frs)), (4, dI k), (11, .vec 40 k 1), (17, .list (ints fr))], [(40, R)], 600⟩, ?_, of_decide_eq_true (by kernel_rfl), ?_⟩
  · unfold dI
    refine wk_q [480] [(40, 40)] ?_ ?_ <;> repeat' (first | exact trivial | exact vr_val _ | exact vr_list _ | exact vr_vec _ _ _ _ rfl | refine vr_fl _ _ _ _ _ (by decide) rfl ?_ ?_ ?_ ?_ | refine And.intro ⟨_, rfl, .inl ⟨_, rfl, by decide, ?_⟩⟩ ?_ | apply And.intro)
    all_goals first | exact ints_one _ | exact ints_len _ | exact ints_flat _ | exact icells_in _ | (refine vrl_flat _ fun d hd => hcin d ?_; simp [hd])
  simp (disch := first | exact okY | omega) only [ZU, Nat.reduceSub, Nat.reduceAdd, Nat.reduceBEq, ↓reduceIte, dI, ↓eget_h, not_true_eq_false, or_self, List.drop, AOpRun, aexec, base, Nat.mul_one, hrl, Nat.le_refl, hrt, elems, ↓hget_h, List.take, Nat.reduceMul, List.all, D.leaf, and_true, ups]
  refine ago_if (by omega) ?_
  simp (disch := first | exact okY | omega) only [ZU, Nat.reduceAdd, Nat.reduceBEq, hdel_c, hdel_n, AOpRun, aexec, ↓eget_h]
  refine aw_region ?_
  simp (disch := first | exact okY | omega) only [ZU, Nat.reduceAdd, Nat.reduceMul, AOpRun, aexec, Nat.reduceBEq, ↓eget_h, isSh, ↓reduceIte, abin, fits]
  refine ⟨k + 1, by omega, by omega, ?_⟩
  rw [e]
  refine wk_q [] [(40, 608)] ?_ ?_ <;> repeat' (first | exact trivial | exact vr_val _ | exact vr_list _ | exact vr_vec _ _ _ _ rfl | refine And.intro ⟨_, rfl, .inl ⟨_, rfl, by decide, ?_⟩⟩ ?_ | apply And.intro | exact vrl_flat _ (by first | exact icells_in _ | exact rcells_in _ | exact scells_in _ | exact bcells_in _ | assumption) | fail)
  all_goals exact vrl_flat _ hcin
def tpD (l : Lay) (frs : List (List Int)) : D := .agg [dI l.words, dI l.s0, dI l.s1, dI l.s2, dI l.s3, .list (fls l.fl), .list (rows frs)]
theorem in_tpD (S : Nat → Prop) (l : Lay) (frs : List (List Int)) : In S (tpD l frs) := .agg _ (vals_in rfl)
set_option maxRecDepth 100000 in
set_option maxHeartbeats 2000000 in
theorem own_ac (l : Lay) (frs : List (List Int)) (h1 : l.fl.length ≤ 1000) (hn : frs.length ≤ 1000) (hm : ∀ k, (frm frs k).length ≤ 1000000) : AC Tryd.prog 7 [tpD l frs] [] [] (tpD l frs) := by
  refine klaw12_own.ac (n0 := 0) (by simp) ⟨in_tpD _ _ _, trivial⟩ trivial rfl ?_
  have c1 := copyL_ac l h1
  have c2 := copyF_ac frs hn hm
  unfold claw12_own
  unfold tpD
  unfold layD layC at c1
  (repeat' (first | apply aw_seq | ((first | apply aw_skip | apply aw_exit); try simp only [thenQ, blockQ, if_true, if_false, Nat.reduceEqDiff, reduceCtorEq]) | apply aw_ret | apply aw_block | apply aw_condT rfl | apply aw_condF rfl | ((first | refine aw_region ?_ | refine acall0 (c1) ?_ | refine acall0 (c2) ?_ | refine ago_if (by omega) ?_ | skip); simp (disch := first | exact okY | omega) only [ZU, dI, Nat.reduceAdd, Nat.reduceMul, AOpRun, aexec, D.isBot, ↓eget_h, or_self, ↓reduceIte, D.cells, Nat.reduceBEq, Nat.reduceLeDiff, List.drop, List.take, run1, fillD, ne_eq, not_true_eq_false, Nat.reduceGT, splice, ↓hget_h, List.all, D.leaf])))
  all_goals (refine end_q [] [] ?_ ?_ <;> repeat' (first | exact trivial | exact vr_val _ | exact vr_list _ | apply vr_agg | apply And.intro))
def farTp (l : Lay) (frs : List (List Int)) : Bool := decide ((l.fl.length : Int) > 20) || decide ((frs.length : Int) > 220) || frs.any fun f => decide ((f.length : Int) > 50)
theorem far_small {l : Lay} {frs : List (List Int)} (h : farTp l frs = false) : l.fl.length ≤ 20 ∧ frs.length ≤ 220 ∧ ∀ k, (frm frs k).length ≤ 50 := by
  unfold farTp at h
  simp only [Bool.or_eq_false_iff, decide_eq_false_iff_not, List.any_eq_false] at h
  obtain ⟨⟨h1, h2⟩, h3⟩ := h
  refine ⟨by omega, by omega, fun k => ?_⟩
  unfold frm
  by_cases hk : k < frs.length
  · have := h3 _ (List.getElem_mem hk)
    simp [hk] at this ⊢
    omega
  · simp [List.getElem?_eq_none (by omega : frs.length ≤ k)]
set_option maxRecDepth 100000 in
set_option maxHeartbeats 2000000 in
theorem far_ac (l : Lay) (frs : List (List Int)) (m1 : l.fl.length ≤ maxLen) (m2 : frs.length ≤ maxLen) (m3 : ∀ k, (frm frs k).length ≤ maxLen) : AC Tryd.prog 4 [tpD l frs] [] [] (dB (farTp l frs)) := by
  refine klaw12_Far.ac (n0 := 0) (by simp) ⟨in_tpD _ _ _, trivial⟩ trivial rfl ?_
  unfold claw12_Far tpD farTp
  have hmax : maxLen = 9223372036854775807 := rfl
  cases q1 : decide ((l.fl.length : Int) > 20) with
  | true =>
    simp only [Bool.true_or]
    (repeat' (first | apply aw_seq | ((first | apply aw_skip | apply aw_exit); try simp only [thenQ, blockQ, if_true, if_false, Nat.reduceEqDiff, reduceCtorEq]) | apply aw_ret | apply aw_block | apply aw_condT rfl | apply aw_condF rfl | ((first | refine aw_region ?_ | refine ago_if (by omega) ?_ | skip); simp (disch := first | exact okY | omega) only [ZU, dB, Nat.reduceAdd, Nat.reduceMul, dI, AOpRun, aexec, D.isBot, ↓eget_h, or_self, ↓reduceIte, D.cells, Nat.reduceBEq, run1, fls_len, isSh, abin, q1, ARun_some, AG_tf])))
    all_goals (refine end_q [] [] ?_ ?_ <;> repeat' (first | exact trivial | exact vr_val _))
  | false =>
  cases q2 : decide ((frs.length : Int) > 220) with
  | true =>
    simp only [Bool.true_or, Bool.or_true]
    (repeat' (first | apply aw_seq | ((first | apply aw_skip | apply aw_exit); try simp only [thenQ, blockQ, if_true, if_false, Nat.reduceEqDiff, reduceCtorEq]) | apply aw_ret | apply aw_block | apply aw_condT rfl | apply aw_condF rfl | ((first | refine aw_region ?_ | refine ago_if (by omega) ?_ | skip); simp (disch := first | exact okY | omega) only [ZU, dB, Nat.reduceAdd, Nat.reduceMul, dI, AOpRun, aexec, D.isBot, ↓eget_h, or_self, ↓reduceIte, D.cells, Nat.reduceBEq, run1, fls_len, isSh, abin, q1, ARun_some, AG_ff, rows_len, q2])))
    all_goals (refine end_q [] [] ?_ ?_ <;> repeat' (first | exact trivial | exact vr_val _))
  | false =>
  simp only [Bool.or_self, Bool.false_or]
  refine aw_seq (aw_region ?_)
  simp (disch := first | exact okY | omega) only [ZU, Nat.reduceAdd, Nat.reduceMul, dI, AOpRun, aexec, D.isBot, ↓eget_h, or_self, ↓reduceIte, D.cells, Nat.reduceBEq]
  refine aw_seq (aw_seq (aw_region ?_))
  simp (disch := first | exact okY | omega) only [ZU, Nat.reduceAdd, Nat.reduceMul, AOpRun, aexec, Nat.reduceBEq, ↓eget_h, run1, fls_len, isSh, ↓reduceIte, abin, q1, ARun_some, AG_ff, rows_len, q2]
  refine aw_condF rfl (aw_skip ?_)
  refine aw_seq (aw_seq (aw_region ?_))
  simp (disch := first | exact okY | omega) only [ZU, Nat.reduceMul, Nat.reduceAdd, AOpRun, aexec, Nat.reduceBEq]
  refine aw_block (aw_loop (fun k : Nat => ⟨[(1, .ptr 0 0), (3, dI k)], [(0, [dI l.words, dI l.s0, dI l.s1, dI l.s2, dI l.s3, .list (fls l.fl), .list (rows frs)])], 400⟩) (fun k => k ≤ frs.length ∧ ∀ j, j < k → decide (((frm frs j).length : Int) > 50) = false) (fun k => frs.length - k) ⟨0, ⟨by omega, fun j hj => by omega⟩, ?_⟩ ?_)
  · unfold dI
    refine wk_q [] [(0, 0)] ?_ ?_ <;> repeat' (first | exact trivial | exact vr_val _ | exact vr_list _ | exact vr_ptr _ _ _ rfl | refine And.intro ⟨_, rfl, .inl ⟨_, rfl, by decide, ?_⟩⟩ ?_ | apply And.intro)
  rintro k ⟨hk, hin⟩
  have hm := m3 k
  by_cases hk2 : k < frs.length
  case neg =>
    obtain rfl : k = frs.length := by omega
    have e : frs.any (fun f => decide ((f.length : Int) > 50)) = false := List.any_eq_false.2 fun x hx => by
      obtain ⟨j, hj, rfl⟩ := List.getElem_of_mem hx
      have := hin j hj
      simp only [frm, hj, List.getElem?_eq_getElem, Option.getD_some] at this
      rw [this]; simp
    rw [e]
    (have hg : (987654321 : Nat) - 987654321 = 0 := rfl; have hr := hg; repeat' (first | apply aw_seq | ((first | apply aw_skip | apply aw_exit); try simp only [thenQ, blockQ, if_true, if_false, Nat.reduceEqDiff, reduceCtorEq]) | apply aw_ret | apply aw_block | apply aw_condT rfl | apply aw_condF rfl | (refine aw_cond rfl (fun hg => ?_) (fun hg => ?_) <;> (try (have hq := hg; simp only [Bool.not_eq_true', Bool.not_eq_false', Bool.and_eq_true, Bool.and_eq_false_iff, Bool.or_eq_true, Bool.or_eq_false_iff, decide_eq_true_eq, decide_eq_false_iff_not, bne_iff_ne, beq_iff_eq, beq_eq_false_iff_ne, bne_eq_false_iff_eq, ne_eq, Int.not_lt, Int.not_le, Decidable.not_not] at hq)) <;> (try (have hr := hg; simp only [decide_eq_true_eq, decide_eq_false_iff_not] at hr)) <;> (try (exfalso; omega))) | ((first | refine aw_region ?_ | refine ago_if (by omega) ?_ | skip); simp (disch := first | exact okY | omega) only [ZU, dI, dB, Nat.reduceAdd, Nat.reduceMul, AOpRun, aexec, Nat.reduceBEq, ↓eget_h, run1, rows_len, isSh, ↓reduceIte, abin, hr, decide_false])))
    all_goals (refine end_q [] [] ?_ ?_ <;> repeat' (first | exact trivial | exact vr_val _))
  have g1 := rows_gd frs k hk2
  rw [show frs[k]?.getD [] = frm frs k from rfl] at g1
  cases he : decide (((frm frs k).length : Int) > 50) with
  | true =>
    have e : frs.any (fun f => decide ((f.length : Int) > 50)) = true := List.any_eq_true.2 ⟨frs[k], List.getElem_mem hk2, by
      simp only [frm, hk2, List.getElem?_eq_getElem, Option.getD_some] at he
      exact he⟩
    rw [e]
    (have hg : (987654321 : Nat) - 987654321 = 0 := rfl; have hr := hg; repeat' (first | apply aw_seq | ((first | apply aw_skip | apply aw_exit); try simp only [thenQ, blockQ, if_true, if_false, Nat.reduceEqDiff, reduceCtorEq]) | apply aw_ret | apply aw_block | apply aw_condT rfl | apply aw_condF rfl | (refine aw_cond rfl (fun hg => ?_) (fun hg => ?_) <;> (try (have hq := hg; simp only [Bool.not_eq_true', Bool.not_eq_false', Bool.and_eq_true, Bool.and_eq_false_iff, Bool.or_eq_true, Bool.or_eq_false_iff, decide_eq_true_eq, decide_eq_false_iff_not, bne_iff_ne, beq_iff_eq, beq_eq_false_iff_ne, bne_eq_false_iff_eq, ne_eq, Int.not_lt, Int.not_le, Decidable.not_not] at hq)) <;> (try (have hr := hg; simp only [decide_eq_true_eq, decide_eq_false_iff_not] at hr)) <;> (try (exfalso; omega))) | ((first | refine aw_region ?_ | refine ago_if (by omega) ?_ | skip); simp (disch := first | exact okY | omega) only [ZU, dI, dB, Nat.reduceAdd, Nat.reduceMul, AOpRun, aexec, Nat.reduceBEq, ↓eget_h, run1, rows_len, isSh, ↓reduceIte, abin, hr, rows_all, opt1, g1, ints_len, he, blockQ])))
    all_goals (refine end_q [] [] ?_ ?_ <;> repeat' (first | exact trivial | exact vr_val _))
  | false =>
    (have hg : (987654321 : Nat) - 987654321 = 0 := rfl; have hr := hg; repeat' (first | apply aw_seq | ((first | apply aw_skip | apply aw_exit); try simp only [thenQ, blockQ, if_true, if_false, Nat.reduceEqDiff, reduceCtorEq]) | apply aw_ret | apply aw_block | apply aw_condT rfl | apply aw_condF rfl | (refine aw_cond rfl (fun hg => ?_) (fun hg => ?_) <;> (try (have hq := hg; simp only [Bool.not_eq_true', Bool.not_eq_false', Bool.and_eq_true, Bool.and_eq_false_iff, Bool.or_eq_true, Bool.or_eq_false_iff, decide_eq_true_eq, decide_eq_false_iff_not, bne_iff_ne, beq_iff_eq, beq_eq_false_iff_ne, bne_eq_false_iff_eq, ne_eq, Int.not_lt, Int.not_le, Decidable.not_not] at hq)) <;> (try (have hr := hg; simp only [decide_eq_true_eq, decide_eq_false_iff_not] at hr)) <;> (try (exfalso; omega))) | ((first | refine aw_region ?_ | refine ago_if (by omega) ?_ | skip); simp (disch := first | exact okY | omega) only [ZU, dI, dB, Nat.reduceAdd, Nat.reduceMul, AOpRun, aexec, Nat.reduceBEq, ↓eget_h, run1, rows_len, isSh, ↓reduceIte, abin, hr, rows_all, opt1, g1, ints_len, he, fits])))
    refine ⟨k + 1, ⟨by omega, fun j hj => ?_⟩, by omega, ?_⟩
    · rcases (by omega : j < k ∨ j = k) with h | rfl
      · exact hin j h
      · exact he
    · refine wk_q [] [(0, 0)] ?_ ?_ <;> repeat' (first | exact trivial | exact vr_val _ | exact vr_list _ | exact vr_ptr _ _ _ rfl | refine And.intro ⟨_, rfl, .inl ⟨_, rfl, by decide, ?_⟩⟩ ?_ | apply And.intro)
end Go.Proofs.YtdcodicoclecnaaDoor
/- The law of Events (views last). No conditions. -/
namespace Go.Proofs.YtdcodicoclecnaaDoor
open Go Go.RowKit Lift

theorem cc_all : ∀ l : List Cd, (cdcells l).all isV = true
  | [] => rfl
  | f :: l => by
    have := cc_all l
    unfold cdcells at *
    rw [List.flatMap_cons, List.all_append, this]; rfl
theorem cc_leaf : ∀ l : List Cd, (cdcells l).all D.leaf = true
  | [] => rfl
  | f :: l => by
    have := cc_leaf l
    unfold cdcells at *
    rw [List.flatMap_cons, List.all_append, this]; rfl
set_option maxRecDepth 100000 in
set_option maxHeartbeats 2000000 in
theorem copied_ac (cs : List Cd) (h : Int) (hn : cs.length ≤ 1000) : AC Tryd.prog 9 [evD cs h] [] [] (evD cs h) := by
  refine klaw12_copied.ac (n0 := 0) (by simp) ⟨in_ev _ _ _, trivial⟩ trivial rfl ?_
  unfold claw12_copied evD
  have a1 := cds_len cs
  have a2 := cds_all cs
  have a3 := cds_flat cs
  have a4 := cc_leaf cs
  refine aw_seq (aw_region ?_)
  simp (disch := first | exact okY | omega) only [ZU, dI, Nat.reduceAdd, Nat.reduceMul, AOpRun, aexec, D.isBot, ↓eget_h, or_self, ↓reduceIte, D.cells, Nat.reduceBEq]
  refine aw_seq (aw_region ?_)
  simp (disch := first | exact okY | omega) only [ZU, Nat.reduceAdd, Nat.reduceMul, AOpRun, aexec, Nat.reduceBEq, ↓reduceIte, fillD, ↓eget_h, run1, base, ↓hget_h, Nat.zero_le, List.take, elems, a2, a1, a3, a4, and_true, ups]
  refine ago_if (by omega) ?_
  simp (disch := first | exact okY | omega) only [ZU, Nat.reduceAdd, Nat.reduceBEq, hdel_c, hdel_n, AOpRun, aexec, ↓eget_h, run1, fillD, D.isBot, D.cells, ne_eq, not_true_eq_false, Nat.reduceGT, or_self, ↓reduceIte, splice, List.take, List.drop, ↓hget_h, Nat.reduceLeDiff, List.all, D.leaf]
  refine aw_ret ?_
  refine end_q [40] [] ?_ ?_ <;> repeat' (first | exact trivial | exact vr_val _ | apply vr_agg | refine vr_fl _ _ _ _ _ (by decide) rfl ?_ ?_ ?_ ?_ | apply And.intro)
  all_goals first | exact cds_three _ | exact cds_len _ | exact cds_flat _ | exact vals_in (cc_all _)
set_option maxRecDepth 100000 in
set_option maxHeartbeats 1000000 in
theorem farE_ac (cs : List Cd) (h : Int) (hn : cs.length ≤ maxLen) : AC Tryd.prog 5 [evD cs h] [] [] (dB (decide ((cs.length : Int) > 8))) := by
  refine klaw12_farEvent.ac (n0 := 0) (by simp) ⟨in_ev _ _ _, trivial⟩ trivial rfl ?_
  unfold claw12_farEvent evD
  have hmax : maxLen = 9223372036854775807 := rfl
  cases q : decide ((cs.length : Int) > 8)
  all_goals
    (repeat' (first | apply aw_seq | ((first | apply aw_skip | apply aw_exit); try simp only [thenQ, blockQ, if_true, if_false, Nat.reduceEqDiff, reduceCtorEq]) | apply aw_ret | apply aw_block | apply aw_condT rfl | apply aw_condF rfl | ((first | refine aw_region ?_ | refine ago_if (by omega) ?_ | skip); simp (disch := first | exact okY | omega) only [ZU, dB, Nat.reduceAdd, Nat.reduceMul, dI, AOpRun, aexec, D.isBot, ↓eget_h, or_self, ↓reduceIte, D.cells, Nat.reduceBEq, run1, cds_len, isSh, abin, q])))
    all_goals (refine end_q [] [] ?_ ?_ <;> repeat' (first | exact trivial | exact vr_val _))
end Go.Proofs.YtdcodicoclecnaaDoor
/- Flights, on both sides (views last). No conditions. -/
namespace Go.Proofs.YtdcodicoclecnaaDoor
open Go Go.RowKit Lift

def hrs (o : Int) (x : Int × Int) : Int := (x.2 - x.1 + o).tdiv o
def wks (m : Int) (L : List Int) : List (List D) := L.map fun h => [dI 1, dI m, dI h, dI 1]
def wkc (m : Int) (L : List Int) : List D := L.flatMap fun h => [dI 1, dI m, dI h, dI 1]
theorem wks_len (m : Int) (L : List Int) : (wks m L).length = L.length := by simp [wks]
theorem wks_four (m : Int) (L : List Int) : ∀ e ∈ wks m L, e.length = 4 := by simp [wks]
theorem wks_flat (m : Int) (L : List Int) : (wks m L).flatten = wkc m L := by simp [wks, wkc, List.flatMap]
theorem wkc_len (m : Int) : ∀ L : List Int, (wkc m L).length = L.length * 4
  | [] => rfl
  | x :: L => by
    have := wkc_len m L
    unfold wkc at *
    rw [List.flatMap_cons, List.length_append, this]
    simp
    omega
theorem wkc_isV (m : Int) : ∀ L : List Int, (wkc m L).all isV = true
  | [] => rfl
  | x :: L => by
    have := wkc_isV m L
    unfold wkc at *
    rw [List.flatMap_cons, List.all_append, this]; rfl
theorem wkc_snoc (m : Int) (L : List Int) (h : Int) : wkc m L ++ [dI 1, dI m, dI h, dI 1] = wkc m (L ++ [h]) := by simp [wkc]
noncomputable def flE (l : Lay) (frs : List (List Int)) (cs : List Cd) (h m o : Int) : Int := if evE l frs cs h = 0 then (if wI m 0 3 = true ∧ wI o 1 200 = true then (if (evR l frs cs h).any (fun x => decide (hrs o x > 100)) = true then 2 else 0) else 1) else evE l frs cs h
noncomputable def flR (l : Lay) (frs : List (List Int)) (cs : List Cd) (h m o : Int) : List Int := if flE l frs cs h m o = 0 then (evR l frs cs h).map (hrs o) else []
theorem evR_bd (l : Lay) (frs : List (List Int)) (cs : List Cd) (h : Int) : ∀ x ∈ evR l frs cs h, 0 ≤ x.1 ∧ x.1 ≤ x.2 ∧ x.2 ≤ 200 := by
  intro x hx
  unfold evR at hx
  split at hx
  · rename_i h0
    rcases tpE_cases l frs with ⟨t0, _, h2⟩ | ⟨h3, _⟩
    · have hv : evB l cs h = true := by
        unfold evE at h0
        rw [if_pos t0] at h0
        cases hb : evB l cs h with
        | true => rfl
        | false => rw [hb] at h0; simp at h0
      unfold evB at hv
      rw [Bool.and_eq_true] at hv
      have hh := wI_t hv.2
      obtain ⟨a, b⟩ := x
      have := ev_sound (isJ l frs cs) h (frs.length + 1) a b hx
      simp only
      omega
    · unfold evE at h0; rw [if_neg h3] at h0; exact absurd h0 h3
  · simp at hx
theorem hrs_bd {o : Int} (ho : 1 ≤ o ∧ o ≤ 200) {x : Int × Int} (hx : 0 ≤ x.1 ∧ x.1 ≤ x.2 ∧ x.2 ≤ 200) : 0 ≤ hrs o x ∧ hrs o x ≤ 400 := by
  unfold hrs
  have h0 : 0 ≤ x.2 - x.1 + o := by omega
  rw [Int.tdiv_eq_ediv_of_nonneg h0]
  refine ⟨Int.ediv_nonneg h0 (by omega), ?_⟩
  have := Int.ediv_le_self o h0
  omega
set_option maxRecDepth 100000 in
set_option maxHeartbeats 8000000 in
theorem flights_ac (l : Lay) (frs : List (List Int)) (cs : List Cd) (h m o : Int) (hl : LayIn l) (hf : FrIn frs) (hn : cs.length ≤ 1000000) : AC Tryd.prog 8 [layD l, .list (rows frs), evD cs h, dI m, dI o] [] [] (.tup [.list (wks m (flR l frs cs h m o)), dI (flE l frs cs h m o)]) := by
  refine krecord_Flights.ac (n0 := 0) (by simp) ⟨in_layD _ _, .list _, in_ev _ _ _, .val _, .val _, trivial⟩ trivial rfl ?_
  unfold crecord_Flights
  have ev := events_ac l frs cs h hl hf hn
  have hbd := evR_bd l frs cs h
  have hln := evR_len l frs cs h
  have eF : flE l frs cs h m o = if evE l frs cs h = 0 then (if wI m 0 3 = true ∧ wI o 1 200 = true then (if (evR l frs cs h).any (fun x => decide (hrs o x > 100)) = true then 2 else 0) else 1) else evE l frs cs h := rfl
  have eR : flR l frs cs h m o = if flE l frs cs h m o = 0 then (evR l frs cs h).map (hrs o) else [] := rfl
  generalize evR l frs cs h = s at *
  generalize evE l frs cs h = E at *
  unfold layD layC evD at *
  by_cases hE : E = 0
  case neg =>
    have q : (E != 0) = true := by simpa using hE
    rw [if_neg hE] at eF
    rw [eF, if_neg hE] at eR
    rw [eR, eF]
    (repeat' (first | (with_reducible first | refine thenQ_n ?_ | refine blockQ_n ?_ | refine thenQ_e ?_ | refine blockQ_t ?_ | refine blockQ_f (by decide) ?_) | apply aw_seq | apply aw_skip | apply aw_exit | apply aw_ret | apply aw_block | apply aw_condT rfl | apply aw_condF rfl | ((first | refine aw_hide fun K hK => aw_region ?_ | refine acall0 (ev) ?_ | refine ago_if (by omega) ?_ | skip); simp (disch := first | exact okY | omega) only [ZU, Nat.reduceAdd, Nat.reduceMul, dI, AOpRun, aexec, D.isBot, ↓eget_h, or_self, ↓reduceIte, D.cells, Nat.reduceBEq, Nat.reduceLeDiff, List.drop, List.take, ↓hget_h, opt1, isSh, abin, q]) | subst hK))
    all_goals (refine end_q [] [] ?_ ?_ <;> repeat' (first | exact trivial | exact vr_val _ | exact vr_nil | apply vr_tup | apply And.intro))
  subst hE
  rw [if_pos rfl] at eF
  have w1 := within_ac m 0 3
  have w2 := within_ac o 1 200
  cases p1 : wI m 0 3 with
  | false =>
    rw [p1] at w1 eF
    rw [if_neg (by simp)] at eF
    rw [eF, if_neg (by omega)] at eR
    rw [eR, eF]
    (repeat' (first | (with_reducible first | refine thenQ_n ?_ | refine blockQ_n ?_ | refine thenQ_e ?_ | refine blockQ_t ?_ | refine blockQ_f (by decide) ?_) | apply aw_seq | apply aw_skip | apply aw_exit | apply aw_ret | apply aw_block | apply aw_condT rfl | apply aw_condF rfl | ((first | refine aw_hide fun K hK => aw_region ?_ | refine acall0 (ev) ?_ | refine acall0 (w1) ?_ | refine ago_if (by omega) ?_ | skip); simp (disch := first | exact okY | omega) only [ZU, Nat.reduceAdd, Nat.reduceMul, dI, AOpRun, aexec, D.isBot, ↓eget_h, or_self, ↓reduceIte, D.cells, Nat.reduceBEq, Nat.reduceLeDiff, List.drop, List.take, ↓hget_h, opt1, isSh, abin, bne_self_eq_false, dB, ARun_some, AG_tf]) | subst hK))
    all_goals (refine end_q [] [] ?_ ?_ <;> repeat' (first | exact trivial | exact vr_val _ | exact vr_nil | apply vr_tup | apply And.intro))
  | true =>
  rw [p1] at w1
  cases p2 : wI o 1 200 with
  | false =>
    rw [p2] at w2 eF
    rw [if_neg (by simp)] at eF
    rw [eF, if_neg (by omega)] at eR
    rw [eR, eF]
    (repeat' (first | (with_reducible first | refine thenQ_n ?_ | refine blockQ_n ?_ | refine thenQ_e ?_ | refine blockQ_t ?_ | refine blockQ_f (by decide) ?_) | apply aw_seq | apply aw_skip | apply aw_exit | apply aw_ret | apply aw_block | apply aw_condT rfl | apply aw_condF rfl | ((first | refine aw_hide fun K hK => aw_region ?_ | refine acall0 (ev) ?_ | refine acall0 (w1) ?_ | refine acall0 (w2) ?_ | refine ago_if (by omega) ?_ | skip); simp (disch := first | exact okY | omega) only [ZU, Nat.reduceAdd, Nat.reduceMul, dI, AOpRun, aexec, D.isBot, ↓eget_h, or_self, ↓reduceIte, D.cells, Nat.reduceBEq, Nat.reduceLeDiff, List.drop, List.take, ↓hget_h, opt1, isSh, abin, bne_self_eq_false, dB, ARun_some, AG_ff]) | subst hK))
    all_goals (refine end_q [] [] ?_ ?_ <;> repeat' (first | exact trivial | exact vr_val _ | exact vr_nil | apply vr_tup | apply And.intro))
  | true =>
  rw [p2] at w2
  rw [p1, p2, if_pos ⟨rfl, rfl⟩] at eF
  have ho := wI_t p2
  have hm := wI_t p1
  refine aw_seq (aw_region ?_)
  simp (disch := first | exact okY | omega) only [ZU, dI, Nat.reduceAdd, Nat.reduceMul, AOpRun, aexec, D.isBot, ↓eget_h, or_self, ↓reduceIte, D.cells, Nat.reduceBEq]
  refine aw_seq (aw_region ?_)
  simp (disch := first | exact okY | omega) only [ZU, Nat.reduceAdd, Nat.reduceMul, AOpRun, aexec, Nat.reduceBEq, ↓eget_h, Nat.reduceLeDiff, ↓reduceIte, List.drop, List.take, ↓hget_h]
  refine acall0 ev ?_
  simp (disch := first | exact okY | omega) only [ZU, Nat.reduceAdd, dI, Nat.reduceBEq, AOpRun, aexec, ↓eget_h, opt1]
  refine aw_seq (aw_seq (aw_region ?_))
  simp (disch := first | exact okY | omega) only [ZU, Nat.reduceAdd, Nat.reduceMul, AOpRun, aexec, Nat.reduceBEq, ↓eget_h, isSh, ↓reduceIte, abin, bne_self_eq_false]
  refine aw_condF rfl (aw_skip ?_)
  refine aw_seq (aw_seq (aw_region ?_))
  simp (disch := first | exact okY | omega) only [ZU, Nat.reduceAdd, Nat.reduceMul, AOpRun, aexec, Nat.reduceBEq, ↓eget_h]
  refine acall0 w1 ?_
  simp (disch := first | exact okY | omega) only [ZU, Nat.reduceAdd, dB, Nat.reduceBEq, AOpRun, aexec, ↓eget_h, ARun_some, AG_ff]
  refine acall0 w2 ?_
  simp (disch := first | exact okY | omega) only [ZU, Nat.reduceAdd, dB, Nat.reduceBEq, ARun_some, ↓eget_h, AG_ff, AOpRun, aexec, ↓reduceIte]
  refine aw_condF rfl (aw_skip ?_)
  refine aw_seq (aw_seq (aw_region ?_))
  simp (disch := first | exact okY | omega) only [ZU, Nat.reduceAdd, Nat.reduceMul, AOpRun, aexec, Nat.reduceBEq, ↓eget_h, sps_len]
  refine aw_block ?_
  refine aw_loop (fun k : Nat => ⟨[(3, dI m), (4, dI o), (10, .vec 24 k 4), (34, .list (sps s)), (35, dI s.length), (36, dI k)], [(24, wkc m ((s.take k).map (hrs o)))], 400⟩) (fun k => k ≤ s.length ∧ ∀ j, j < k → hrs o (s[j]?.getD (0, 0)) ≤ 100) (fun k => s.length - k) ⟨0, ⟨by omega, fun j hj => by omega⟩, ?_⟩ ?_
  · show Wk _ _ ⟨[_, _, (10, .vec 24 0 4), _, _, _], [(24, [])], _⟩
    unfold dI
    refine wk_q [] [(24, 900)] ?_ ?_ <;> repeat' (first | exact trivial | exact vr_val _ | exact vr_list _ | exact vr_nilv _ _ _ rfl | refine And.intro ⟨_, rfl, .inr ⟨rfl, rfl, of_decide_eq_true (by kernel_rfl)⟩⟩ ?_ | apply And.intro)
  rintro k ⟨hk, hin⟩
  have hel : ((s.take k).map (hrs o)).length = k := by rw [List.length_map, List.length_take]; omega
  by_cases hk2 : k < s.length
  case neg =>
    obtain rfl : k = s.length := by omega
    have hany : s.any (fun x => decide (hrs o x > 100)) = false := List.any_eq_false.2 fun x hx => by
      obtain ⟨j, hj, rfl⟩ := List.getElem_of_mem hx
      have := hin j hj
      simp only [hj, List.getElem?_eq_getElem, Option.getD_some] at this
      simp; omega
    rw [hany, if_neg (by simp)] at eF
    rw [eF, if_pos rfl] at eR
    rw [eR, eF, List.take_of_length_le (Nat.le_refl _)]
    rw [List.take_of_length_le (Nat.le_refl _)] at hel
    have q0 : decide ((s.length : Int) < (s.length : Int)) = false := decide_eq_false (by omega)
    generalize s.map (hrs o) = L at *
    (repeat' (first | (with_reducible first | refine thenQ_n ?_ | refine blockQ_n ?_ | refine thenQ_e ?_ | refine blockQ_t ?_ | refine blockQ_f (by decide) ?_) | apply aw_seq | apply aw_skip | apply aw_exit | apply aw_ret | apply aw_block | apply aw_condT rfl | apply aw_condF rfl | ((first | refine aw_hide fun K hK => aw_region ?_ | refine ago_if (by omega) ?_ | skip); simp (disch := first | exact okY | omega) only [ZU, Nat.reduceMul, Nat.reduceAdd, dI, AOpRun, aexec, Nat.reduceBEq, ↓eget_h, isSh, ↓reduceIte, abin, q0]) | subst hK))
    refine end_q [24] [] ?_ ?_ <;> repeat' (first | exact trivial | exact vr_val _ | apply vr_tup | refine vr_fl _ _ _ _ _ (by decide) rfl ?_ ?_ ?_ ?_ | apply And.intro)
    all_goals first | exact wks_four _ _ | exact (wks_len _ _).trans hel | exact wks_flat _ _ | exact vals_in (wkc_isV _ _)
  have g1 := sp_at s k hk2
  have hxb := hbd (s[k]?.getD (0, 0)) (by simp [hk2])
  have hhb := hrs_bd ho hxb
  have ki : (k : Int) < (s.length : Int) := by omega
  have q0 : decide ((k : Int) < (s.length : Int)) = true := decide_eq_true (by omega)
  have etk : (s.take (k + 1)).map (hrs o) = (s.take k).map (hrs o) ++ [hrs o (s[k]?.getD (0, 0))] := by rw [List.take_add_one, List.map_append]; simp [hk2]
  have hbig : hrs o (s[k]?.getD (0, 0)) > 100 → s.any (fun x => decide (hrs o x > 100)) = true := fun h => List.any_eq_true.2 ⟨s[k]?.getD (0, 0), by simp [hk2], decide_eq_true h⟩
  have hh : hrs o (s[k]?.getD (0, 0)) = ((s[k]?.getD (0, 0)).2 - (s[k]?.getD (0, 0)).1 + o).tdiv o := rfl
  have hin2 : hrs o (s[k]?.getD (0, 0)) ≤ 100 → ∀ j, j < k + 1 → hrs o (s[j]?.getD (0, 0)) ≤ 100 := fun h j hj => by
    rcases (by omega : j < k ∨ j = k) with h' | rfl
    · exact hin j h'
    · exact h
  generalize s[k]?.getD (0, 0) = x at *
  obtain ⟨a, b⟩ := x
  generalize hrs o (a, b) = H at *
  simp only at hxb hh
  have e1 : IntKind.i64.wrap (b - a) = b - a := wrap_in (by omega) (by omega)
  have e2 : IntKind.i64.wrap (b - a + o) = b - a + o := wrap_in (by omega) (by omega)
  have e3 : IntKind.i64.wrap ((b - a + o).tdiv o) = H := by rw [← hh]; exact wrap_in (by omega) (by omega)
  have o0 : ¬ o = 0 := by omega
  unfold dI at g1
  by_cases hb : H > 100
  · have q1 : decide (H > 100) = true := decide_eq_true hb
    rw [hbig hb, if_pos rfl] at eF
    rw [eF, if_neg (by omega)] at eR
    rw [eR, eF]
    (repeat' (first | (with_reducible first | refine thenQ_n ?_ | refine blockQ_n ?_ | refine thenQ_e ?_ | refine blockQ_t ?_ | refine blockQ_f (by decide) ?_) | apply aw_seq | apply aw_skip | apply aw_exit | apply aw_ret | apply aw_block | apply aw_condT rfl | apply aw_condF rfl | ((first | refine aw_hide fun K hK => aw_region ?_ | refine ago_if (by omega) ?_ | skip); simp (disch := first | exact okY | omega) only [ZU, Nat.reduceMul, Nat.reduceAdd, dI, AOpRun, aexec, Nat.reduceBEq, ↓eget_h, isSh, ↓reduceIte, abin, ki, sps_all, opt1, g1, Nat.reduceLeDiff, List.take, ↓hget_h, D.isBot, D.cells, List.all, D.leaf, splice, List.drop, run1, e1, e2, o0, e3, q1, blockQ]) | subst hK))
    all_goals (refine end_q [] [] ?_ ?_ <;> repeat' (first | exact trivial | exact vr_val _ | exact vr_nil | apply vr_tup | apply And.intro))
  · have q1 : decide (H > 100) = false := decide_eq_false hb
    have hic : (wkc m ((s.take k).map (hrs o))).length = k * 4 := by rw [wkc_len, hel]
    have hit : (wkc m ((s.take k).map (hrs o))).take (k * 4) = wkc m ((s.take k).map (hrs o)) := List.take_of_length_le (by omega)
    have e4 : wkc m ((s.take (k + 1)).map (hrs o)) = wkc m ((s.take k).map (hrs o)) ++ [.val (.int .i64 1), .val (.int .i64 m), .val (.int .i64 H), .val (.int .i64 1)] := by rw [etk]; exact (wkc_snoc m _ H).symm
    have hcin : ∀ y ∈ wkc m ((s.take k).map (hrs o)) ++ [.val (.int .i64 1), .val (.int .i64 m), .val (.int .i64 H), .val (.int .i64 1)], In (fun _ => False) y := by rw [← e4]; exact vals_in (wkc_isV _ _)
    generalize wkc m ((s.take k).map (hrs o)) = R at *
    (repeat' (first | (with_reducible first | refine thenQ_n ?_ | refine blockQ_n ?_ | refine thenQ_e ?_ | refine blockQ_t ?_ | refine blockQ_f (by decide) ?_) | apply aw_seq | apply aw_skip | apply aw_exit | apply aw_ret | apply aw_block | apply aw_condT rfl | apply aw_condF rfl | ((first | refine aw_hide fun K hK => aw_region ?_ | refine ago_if (by omega) ?_ | skip); simp (disch := first | exact okY | omega) only [ZU, Nat.reduceMul, Nat.reduceAdd, dI, AOpRun, aexec, Nat.reduceBEq, ↓eget_h, isSh, ↓reduceIte, abin, ki, sps_all, opt1, g1, Nat.le_refl, List.take, ↓hget_h, D.isBot, D.cells, List.all, D.leaf, splice, List.drop, run1, e1, e2, o0, e3, q1, fillD, ne_eq, not_true_eq_false, Nat.reduceGT, or_self, base, hic, hit, elems, and_true, ups, hdel_c, hdel_n, fits]) | subst hK))
    refine ⟨k + 1, ⟨by omega, hin2 (by omega)⟩, by omega, ?_⟩
    rw [e4]
    refine wk_q [] [(24, 576)] ?_ ?_ <;> repeat' (first | exact trivial | exact vr_val _ | exact vr_list _ | exact vr_vec _ _ _ _ rfl | refine And.intro ⟨_, rfl, .inl ⟨_, rfl, by decide, ?_⟩⟩ ?_ | apply And.intro | exact vrl_flat _ (by first | exact icells_in _ | exact rcells_in _ | exact scells_in _ | exact bcells_in _ | assumption) | fail)
    all_goals assumption
end Go.Proofs.YtdcodicoclecnaaDoor
/- The law of lives, in numbers. No conditions. -/
namespace Go.Proofs.YtdcodicoclecnaaDoor
open Go Go.RowKit Lift

theorem flR_len2 (l : Lay) (frs : List (List Int)) (cs : List Cd) (h m o : Int) : (flR l frs cs h m o).length ≤ 201 := by
  unfold flR
  split
  · rw [List.length_map]; exact evR_len _ _ _ _
  · simp
theorem wks_flW (m : Int) (L : List Int) : wks m L = wkL (flW m L) := by simp [wks, wkL, flW, w4C]
def wkF (l : List W4) : List D := l.flatMap w4C
theorem wkL_flat (l : List W4) : (wkL l).flatten = wkF l := by simp [wkL, wkF, List.flatMap]
theorem wkF_app (a b : List W4) : wkF a ++ wkF b = wkF (a ++ b) := by simp [wkF]
theorem wkF_len (l : List W4) : (wkF l).length = l.length * 4 := by
  induction l with
  | nil => rfl
  | cons w l ih =>
    unfold wkF at *
    rw [List.flatMap_cons, List.length_append, ih]
    simp [w4C]; omega
theorem wkF_take (l : List W4) : (wkF l).take (l.length * 4) = wkF l := List.take_of_length_le (by rw [wkF_len]; omega)
theorem wkF_leaf (l : List W4) : (wkF l).all D.leaf = true := by
  rw [List.all_eq_true]
  intro d hd
  obtain ⟨w, _, hw⟩ := List.mem_flatMap.1 hd
  simp [w4C] at hw
  rcases hw with rfl | rfl | rfl | rfl <;> rfl
theorem wkF_in (l : List W4) : ∀ d ∈ wkF l, In (fun _ => False) d := fun d hd => by
  obtain ⟨w, _, hw⟩ := List.mem_flatMap.1 hd
  simp [w4C] at hw
  rcases hw with rfl | rfl | rfl | rfl <;> exact .val _
theorem wkL_four (l : List W4) : ∀ e ∈ wkL l, e.length = 4 := fun e he => by
  obtain ⟨w, _, rfl⟩ := List.mem_map.1 he; rfl
theorem flW_len (m : Int) (L : List Int) : (flW m L).length = L.length := by simp [flW]
theorem wkL_flW_nth (m : Int) (L : List Int) (k : Nat) (h : k < L.length) : (wkL (flW m L))[k]? = some [dI 1, dI m, dI (L[k]?.getD 0), dI 1] := by simp [wkL, flW, w4C, h]
theorem evL_nth {f : Prt → Int × Int} {r : Reg} {l : List W4} (h : oE r l = 0) {i : Nat} {p : Prt} (hp : (opS r l l.length).pts[i]? = some p) : (sps (evL f r l))[i]? = some [dI (f p).1, dI (f p).2] := by
  unfold evL
  rw [if_pos h]
  simp [sps, hp, dI]
theorem evL_len (f : Prt → Int × Int) {r : Reg} {l : List W4} (h : oE r l = 0) : (evL f r l).length = r.ps.length := by
  unfold evL
  rw [if_pos h, List.length_map, opS_len]
theorem gather (r : Reg) (hr : RegOk r) (W : List W4) (m : Int) (L : List Int) (hA : oE r (W ++ flW m L) = 0) (hW : oE r W = 0) (hok : ∀ t, t < (W ++ flW m L).length → opB r (W ++ flW m L) t = true) :
    ∀ i, i < r.ps.length → ∃ p q, Flown m L L.length p q ∧ (sps (evL (fun p => (p.h, p.c)) r W))[i]? = some [dI p.h, dI p.c] ∧ (sps (evL (fun p => (p.m, p.pl)) r W))[i]? = some [dI p.m, dI p.pl] ∧ (sps (evL (fun p => (p.h, p.c)) r (W ++ flW m L)))[i]? = some [dI q.h, dI q.c] := by
  intro i hi
  obtain ⟨p, hp⟩ := nthI (l := (opS r W W.length).pts) (k := i) (by rw [opS_len]; exact hi)
  obtain ⟨q, hq, hf⟩ := (flown r hr W m L hok L.length (Nat.le_refl _)).2 i p hp
  have hq' : (opS r (W ++ flW m L) (W ++ flW m L).length).pts[i]? = some q := by rw [List.length_append, flW_len]; exact hq
  exact ⟨p, q, hf, evL_nth hW hp, evL_nth (f := fun p => (p.m, p.pl)) hW hp, evL_nth hA hq'⟩
end Go.Proofs.YtdcodicoclecnaaDoor
/- The functions' bodies, translated. Written by a program; no conditions. -/
namespace Go.Proofs.YtdcodicoclecnaaDoor
open Go.RowKit Lift

def claw12_RecordLives : ACode :=
 (.seq
 (.region false [oo 2 (.box (.tmp 0)),
 oo 3 (.box (.tmp 1)),
 oo 4 (.mv (.const (.bool false)))] [])
 (.seq
 (.seq
 (.region false [oo 21 (.loadN 7 (.tmp 2)),
 oo 22 (.call (.func 4) [(.tmp 21)]),
 oo 23 (.mv (.tmp 22)),
 og 24 23 false (.fad 5 (.tmp 3)) [],
 og 25 23 false (.fad 0 (.tmp 24)) [],
 og 26 23 false (.loadN 2 (.tmp 25)) [],
 og 27 23 false (.call (.func 5) [(.tmp 26)]) [],
 oo 28 (.pick (.tmp 23) (.const (.bool true)) (.tmp 27)),
 oo 29 (.mv (.tmp 28)),
 og 30 29 false (.fad 4 (.tmp 3)) [],
 og 31 29 false (.load1 (.tmp 30)) [],
 og 32 29 false (.len_ (.tmp 31)) [],
 og 33 29 false (.bin .gtr (.tmp 32) (kI 100)) [],
 oo 34 (.pick (.tmp 29) (.const (.bool true)) (.tmp 33)),
 oo 35 (.mv (.tmp 34)),
 og 36 35 false (.fad 0 (.tmp 3)) [],
 og 37 35 false (.fad 0 (.tmp 36)) [],
 og 38 35 false (.load1 (.tmp 37)) [],
 og 39 35 false (.len_ (.tmp 38)) [],
 og 40 35 false (.bin .gtr (.tmp 39) (kI 12)) [],
 oo 41 (.pick (.tmp 35) (.const (.bool true)) (.tmp 40)),
 oo 42 (.mv (.tmp 41)),
 og 43 42 false (.fad 0 (.tmp 3)) [],
 og 44 42 false (.fad 1 (.tmp 43)) [],
 og 45 42 false (.load1 (.tmp 44)) [],
 og 46 42 false (.len_ (.tmp 45)) [],
 og 47 42 false (.bin .gtr (.tmp 46) (kI 40)) [],
 oo 48 (.pick (.tmp 42) (.const (.bool true)) (.tmp 47)),
 oo 49 (.mv (.tmp 48)),
 og 50 49 false (.fad 0 (.tmp 3)) [],
 og 51 49 false (.fad 3 (.tmp 50)) [],
 og 52 49 false (.load1 (.tmp 51)) [],
 og 53 49 false (.len_ (.tmp 52)) [],
 og 54 49 false (.bin .gtr (.tmp 53) (kI 12)) [],
 oo 55 (.pick (.tmp 49) (.const (.bool true)) (.tmp 54))] [21,22,23,24,25,26,27,28,29,30,31,32,33,34,35,36,37,38,39,40,41,42,43,44,45,46,47,48,49,50,51,52,53,54])
 (.cond (.tmp 55)
 (.seq
 (.region false [oo 56 (.call (.func 6) []),
 oo 4 (.mv (.tmp 56))] [56])
 .ret)
 .skip))
 (.seq
 (.region false [oo 57 (.loadN 7 (.tmp 2)),
 oo 58 (.call (.func 7) [(.tmp 57)]),
 oo 5 (.mem [(.val (.int .i64 0)), (.val (.int .i64 0)), (.val (.int .i64 0)), (.val (.int .i64 0)), (.val (.int .i64 0)), (.val (.slice none 0 0)), (.val (.slice none 0 0))]),
 on (.store 7 (.tmp 5) (.tmp 58))] [57,58])
 (.seq
 (.region true [oo 60 (.fad 0 (.tmp 5)),
 oa 61 (.loadN 6 (.tmp 60)) [0],
 oo 62 (.fad 6 (.tmp 5)),
 oa 63 (.load1 (.tmp 62)) [2],
 oo 64 (.fad 5 (.tmp 3)),
 oa 65 (.fad 0 (.tmp 64)) [4],
 oa 66 (.loadN 2 (.tmp 65)) [5,4],
 oa 67 (.call (.func 9) [(.tmp 66)]) [6,5,4],
 oo 68 (.fad 5 (.tmp 3)),
 oa 69 (.fad 2 (.tmp 68)) [8],
 oa 70 (.load1 (.tmp 69)) [9,8],
 oo 71 (.fad 5 (.tmp 3)),
 oa 72 (.fad 3 (.tmp 71)) [11],
 oa 73 (.load1 (.tmp 72)) [12,11],
 oa 74 (.call (.func 8) [(.tmp 61), (.tmp 63), (.tmp 67), (.tmp 70), (.tmp 73)]) [1,0,3,2,7,6,5,4,10,9,8,13,12,11],
 oa 59 (.mv (.tmp 74)) [14,1,0,3,2,7,6,5,4,10,9,8,13,12,11],
 oa 75 (.ext (.tmp 59) 0) [15,14,1,0,3,2,7,6,5,4,10,9,8,13,12,11],
 oa 76 (.ext (.tmp 59) 1) [15,14,1,0,3,2,7,6,5,4,10,9,8,13,12,11],
 oa 6 (.mv (.tmp 75)) [16,15,14,1,0,3,2,7,6,5,4,10,9,8,13,12,11],
 oa 7 (.mv (.tmp 76)) [17,15,14,1,0,3,2,7,6,5,4,10,9,8,13,12,11,18,16]] [60,61,62,63,64,65,66,67,68,69,70,71,72,73,74,59,75,76])
 (.seq
 (.seq
 (.region false [oo 77 (.mv (.tmp 7)),
 oo 78 (.bin .neq (.tmp 77) (kI 0))] [77])
 (.cond (.tmp 78)
 (.seq
 (.region false [oo 79 (.call (.func 6) []),
 oo 4 (.mv (.tmp 79))] [79])
 .ret)
 .skip))
 (.seq
 (.region false [oo 80 (.buildSl 4 0 [] []),
 oo 81 (.fad 4 (.tmp 3)),
 oo 82 (.load1 (.tmp 81)),
 oo 83 (.app 4 32 (.tmp 80) (.tmp 82)),
 oo 84 (.mv (.tmp 6)),
 oo 85 (.app 4 32 (.tmp 83) (.tmp 84)),
 oo 8 (.mv (.tmp 85))] [80,81,82,83,84,85])
 (.seq
 (.region false [oo 87 (.fad 0 (.tmp 3)),
 oo 88 (.loadN 4 (.tmp 87)),
 oo 89 (.mv (.tmp 8)),
 oo 90 (.call (.func 10) [(.tmp 88), (.tmp 89)]),
 oo 86 (.mv (.tmp 90)),
 oo 91 (.ext (.tmp 86) 0),
 oo 92 (.ext (.tmp 86) 1),
 oo 9 (.mv (.tmp 91)),
 oo 10 (.mv (.tmp 92))] [87,88,89,90,86,91,92,9])
 (.seq
 (.region true [oo 94 (.fad 0 (.tmp 3)),
 oa 95 (.loadN 4 (.tmp 94)) [0],
 oo 96 (.buildSl 4 0 [] []),
 oo 97 (.fad 4 (.tmp 3)),
 oa 98 (.load1 (.tmp 97)) [3],
 oa 99 (.app 4 32 (.tmp 96) (.tmp 98)) [2,4,3],
 oa 100 (.call (.func 11) [(.tmp 95), (.tmp 99)]) [1,0,5,2,4,3],
 oa 93 (.mv (.tmp 100)) [6,1,0,5,2,4,3],
 oa 101 (.ext (.tmp 93) 0) [7,6,1,0,5,2,4,3],
 oa 102 (.ext (.tmp 93) 1) [7,6,1,0,5,2,4,3],
 oa 11 (.mv (.tmp 101)) [8,7,6,1,0,5,2,4,3],
 oa 12 (.mv (.tmp 102)) [9,7,6,1,0,5,2,4,3,10,8]] [94,95,96,97,98,99,100,93,101,102])
 (.seq
 (.region true [oo 104 (.fad 0 (.tmp 3)),
 oa 105 (.loadN 4 (.tmp 104)) [0],
 oo 106 (.buildSl 4 0 [] []),
 oo 107 (.fad 4 (.tmp 3)),
 oa 108 (.load1 (.tmp 107)) [3],
 oa 109 (.app 4 32 (.tmp 106) (.tmp 108)) [2,4,3],
 oa 110 (.call (.func 12) [(.tmp 105), (.tmp 109)]) [1,0,5,2,4,3],
 oa 103 (.mv (.tmp 110)) [6,1,0,5,2,4,3],
 oa 111 (.ext (.tmp 103) 0) [7,6,1,0,5,2,4,3],
 oa 112 (.ext (.tmp 103) 1) [7,6,1,0,5,2,4,3],
 oa 13 (.mv (.tmp 111)) [8,7,6,1,0,5,2,4,3],
 oa 14 (.mv (.tmp 112)) [9,7,6,1,0,5,2,4,3,10,8]] [104,105,106,107,108,109,110,103,111,112])
 (.seq
 (.seq
 (.region false [oo 113 (.mv (.tmp 10)),
 oo 114 (.bin .neq (.tmp 113) (kI 0)),
 oo 115 (.mv (.tmp 114)),
 og 116 115 false (.mv (.tmp 12)) [],
 og 117 115 false (.bin .neq (.tmp 116) (kI 0)) [],
 oo 118 (.pick (.tmp 115) (.const (.bool true)) (.tmp 117)),
 oo 119 (.mv (.tmp 118)),
 og 120 119 false (.mv (.tmp 14)) [],
 og 121 119 false (.bin .neq (.tmp 120) (kI 0)) [],
 oo 122 (.pick (.tmp 119) (.const (.bool true)) (.tmp 121))] [113,114,115,116,117,118,119,120,121])
 (.cond (.tmp 122)
 (.seq
 (.region false [oo 123 (.call (.func 6) []),
 oo 4 (.mv (.tmp 123))] [123])
 .ret)
 .skip))
 (.seq
 (.region false [oo 125 (.fad 0 (.tmp 3)),
 oo 126 (.loadN 4 (.tmp 125)),
 oo 127 (.mv (.tmp 8)),
 oo 128 (.call (.func 11) [(.tmp 126), (.tmp 127)]),
 oo 124 (.mv (.tmp 128)),
 oo 129 (.ext (.tmp 124) 0),
 oo 130 (.ext (.tmp 124) 1),
 oo 15 (.mv (.tmp 129)),
 oo 16 (.mv (.tmp 130))] [125,126,127,128,124,129,130])
 (.seq
 (.seq
 (.region false [oo 131 (.mv (.tmp 16)),
 oo 132 (.bin .neq (.tmp 131) (kI 0)),
 oo 133 (.mv (.tmp 132)),
 og 134 133 false (.mv (.tmp 11)) [],
 og 135 133 false (.len_ (.tmp 134)) [],
 og 136 133 false (.fad 0 (.tmp 3)) [],
 og 137 133 false (.fad 1 (.tmp 136)) [],
 og 138 133 false (.load1 (.tmp 137)) [],
 og 139 133 false (.len_ (.tmp 138)) [],
 og 140 133 false (.bin .neq (.tmp 135) (.tmp 139)) [],
 oo 141 (.pick (.tmp 133) (.const (.bool true)) (.tmp 140)),
 oo 142 (.mv (.tmp 141)),
 og 143 142 false (.mv (.tmp 15)) [],
 og 144 142 false (.len_ (.tmp 143)) [],
 og 145 142 false (.mv (.tmp 11)) [],
 og 146 142 false (.len_ (.tmp 145)) [],
 og 147 142 false (.bin .neq (.tmp 144) (.tmp 146)) [],
 oo 148 (.pick (.tmp 142) (.const (.bool true)) (.tmp 147)),
 oo 149 (.mv (.tmp 148)),
 og 150 149 false (.mv (.tmp 13)) [],
 og 151 149 false (.len_ (.tmp 150)) [],
 og 152 149 false (.mv (.tmp 11)) [],
 og 153 149 false (.len_ (.tmp 152)) [],
 og 154 149 false (.bin .neq (.tmp 151) (.tmp 153)) [],
 oo 155 (.pick (.tmp 149) (.const (.bool true)) (.tmp 154))] [131,132,133,134,135,136,137,138,139,140,141,142,143,144,145,146,147,148,149,150,151,152,153,154])
 (.cond (.tmp 155)
 (.seq
 (.region false [oo 4 (.mv (.const (.bool false)))] [])
 .ret)
 .skip))
 (.seq
 (.region false [oo 17 (.mv (kI 0))] [])
 (.seq
 (.seq
 (.region false [oo 18 (.mv (kI 0))] [])
 (.block 0
 (.loop
 (.seq
 (.seq
 (.region false [oo 156 (.mv (.tmp 18)),
 oo 157 (.mv (.tmp 6)),
 oo 158 (.len_ (.tmp 157)),
 oo 159 (.bin .lss (.tmp 156) (.tmp 158))] [156,157,158])
 (.cond (.tmp 159)
 .skip
 (.exit 0)))
 (.seq
 (.block 1
 (.seq
 (.seq
 (.region true [oo 162 (.mv (.tmp 6)),
 oo 163 (.mv (.tmp 18)),
 oa 164 (.iadS 4 (.tmp 162) (.tmp 163)) [0,1],
 oa 165 (.fad 0 (.tmp 164)) [2,0,1],
 oa 166 (.load1 (.tmp 165)) [3,2,0,1],
 oa 167 (.bin .neq (.tmp 166) (kI 1)) [4,3,2,0,1],
 oa 168 (.mv (.tmp 167)) [5,4,3,2,0,1],
 og 169 168 false (.mv (.tmp 6)) [6,5,4,3,2,0,1],
 og 170 168 false (.mv (.tmp 18)) [6,5,4,3,2,0,1],
 og 171 168 false (.iadS 4 (.tmp 169) (.tmp 170)) [7,6,5,4,3,2,0,1,8],
 og 172 168 false (.fad 1 (.tmp 171)) [9,7,6,5,4,3,2,0,1,8],
 og 173 168 false (.load1 (.tmp 172)) [10,9,7,6,5,4,3,2,0,1,8],
 og 174 168 false (.fad 5 (.tmp 3)) [6,5,4,3,2,0,1],
 og 175 168 false (.fad 2 (.tmp 174)) [12,6,5,4,3,2,0,1],
 og 176 168 false (.load1 (.tmp 175)) [13,12,6,5,4,3,2,0,1],
 og 177 168 false (.bin .neq (.tmp 173) (.tmp 176)) [11,10,9,7,6,5,4,3,2,0,1,8,14,13,12],
 oa 178 (.pick (.tmp 168) (.const (.bool true)) (.tmp 177)) [6,5,4,3,2,0,1,15,11,10,9,7,8,14,13,12],
 oa 179 (.mv (.tmp 178)) [16,6,5,4,3,2,0,1,15,11,10,9,7,8,14,13,12],
 og 180 179 false (.mv (.tmp 6)) [17,16,6,5,4,3,2,0,1,15,11,10,9,7,8,14,13,12],
 og 181 179 false (.mv (.tmp 18)) [17,16,6,5,4,3,2,0,1,15,11,10,9,7,8,14,13,12],
 og 182 179 false (.iadS 4 (.tmp 180) (.tmp 181)) [18,17,16,6,5,4,3,2,0,1,15,11,10,9,7,8,14,13,12,19],
 og 183 179 false (.fad 3 (.tmp 182)) [20,18,17,16,6,5,4,3,2,0,1,15,11,10,9,7,8,14,13,12,19],
 og 184 179 false (.load1 (.tmp 183)) [21,20,18,17,16,6,5,4,3,2,0,1,15,11,10,9,7,8,14,13,12,19],
 og 185 179 false (.bin .neq (.tmp 184) (kI 1)) [22,21,20,18,17,16,6,5,4,3,2,0,1,15,11,10,9,7,8,14,13,12,19],
 oa 186 (.pick (.tmp 179) (.const (.bool true)) (.tmp 185)) [17,16,6,5,4,3,2,0,1,15,11,10,9,7,8,14,13,12,23,22,21,20,18,19]] [162,163,164,165,166,167,168,169,170,171,172,173,174,175,176,177,178,179,180,181,182,183,184,185])
 (.cond (.tmp 186)
 (.seq
 (.region false [oo 4 (.mv (.const (.bool false)))] [])
 .ret)
 .skip))
 (.region false [oo 187 (.mv (.tmp 17)),
 oo 188 (.mv (.tmp 6)),
 oo 189 (.mv (.tmp 18)),
 oo 190 (.iadS 4 (.tmp 188) (.tmp 189)),
 oo 191 (.fad 2 (.tmp 190)),
 oo 192 (.load1 (.tmp 191)),
 oo 193 (.bin .add (.tmp 187) (.tmp 192)),
 oo 17 (.mv (.tmp 193))] [187,188,189,190,191,192,193])))
 (.region false [oo 160 (.mv (.tmp 18)),
 oo 161 (.bin .add (.tmp 160) (kI 1)),
 oo 18 (.mv (.tmp 161))] [160,161]))))))
 (.seq
 (.seq
 (.region false [oo 19 (.mv (kI 0))] [])
 (.block 2
 (.loop
 (.seq
 (.seq
 (.region false [oo 194 (.mv (.tmp 19)),
 oo 195 (.mv (.tmp 11)),
 oo 196 (.len_ (.tmp 195)),
 oo 197 (.bin .lss (.tmp 194) (.tmp 196))] [194,195,196])
 (.cond (.tmp 197)
 .skip
 (.exit 2)))
 (.seq
 (.block 3
 (.seq
 (.region false [oo 200 (.mv (.tmp 11)),
 oo 201 (.mv (.tmp 19)),
 oo 202 (.iadS 2 (.tmp 200) (.tmp 201)),
 oo 203 (.loadN 2 (.tmp 202)),
 oo 20 (.mem [(.val (.int .i64 0)), (.val (.int .i64 0))]),
 on (.store 2 (.tmp 20) (.tmp 203))] [200,201,202,203])
 (.seq
 (.seq
 (.region true [oo 204 (.mv (.tmp 13)),
 oo 205 (.mv (.tmp 19)),
 oa 206 (.iadS 2 (.tmp 204) (.tmp 205)) [0,1],
 oa 207 (.iadA 2 1 (.tmp 206) (kI 0)) [2,0,1],
 oa 208 (.load1 (.tmp 207)) [3,2,0,1],
 oo 209 (.fad 5 (.tmp 3)),
 oa 210 (.fad 2 (.tmp 209)) [5],
 oa 211 (.load1 (.tmp 210)) [6,5],
 oa 212 (.bin .eql (.tmp 208) (.tmp 211)) [4,3,2,0,1,7,6,5]] [204,205,206,207,208,209,210,211])
 (.cond (.tmp 212)
 (.seq
 (.region false [oo 213 (.iadA 2 1 (.tmp 20) (kI 0)),
 oo 214 (.load1 (.tmp 213)),
 oo 215 (.mv (.tmp 17)),
 oo 216 (.bin .add (.tmp 214) (.tmp 215)),
 oo 217 (.iadA 2 1 (.tmp 20) (kI 0)),
 on (.store 1 (.tmp 217) (.tmp 216))] [213,214,215,216,217])
 (.region false [oo 218 (.iadA 2 1 (.tmp 20) (kI 1)),
 oo 219 (.load1 (.tmp 218)),
 oo 220 (.mv (.tmp 6)),
 oo 221 (.len_ (.tmp 220)),
 oo 222 (.bin .add (.tmp 219) (.tmp 221)),
 oo 223 (.iadA 2 1 (.tmp 20) (kI 1)),
 on (.store 1 (.tmp 223) (.tmp 222))] [218,219,220,221,222,223]))
 .skip))
 (.seq
 (.region true [oo 224 (.mv (.tmp 15)),
 oo 225 (.mv (.tmp 19)),
 oa 226 (.iadS 2 (.tmp 224) (.tmp 225)) [0,1],
 oa 227 (.loadN 2 (.tmp 226)) [2,0,1],
 oo 228 (.loadN 2 (.tmp 20)),
 oa 229 (.eqa true [false, false] (.tmp 227) (.tmp 228)) [3,2,0,1,4]] [224,225,226,227,228])
 (.cond (.tmp 229)
 (.seq
 (.region false [oo 4 (.mv (.const (.bool false)))] [])
 .ret)
 .skip)))))
 (.region false [oo 198 (.mv (.tmp 19)),
 oo 199 (.bin .add (.tmp 198) (kI 1)),
 oo 19 (.mv (.tmp 199))] [198,199]))))))
 (.seq
 (.region false [oo 230 (.call (.func 6) []),
 oo 4 (.mv (.tmp 230))] [230])
 .ret))))))))))))))))
set_option maxRecDepth 100000 in
theorem klaw12_RecordLives : IsCode Tryd.prog 3 231 claw12_RecordLives [.tmp 4] :=
 ⟨Tryd.f3, _, [229,212,197,186,159,155,122,78,55,0,1,2,3,5,7,6,8,10,12,14,16,11,15,13,18,17,19,20,4], Tryd.func3, rfl, by decide, rfl, by kernel_rfl, by kernel_rfl⟩
end Go.Proofs.YtdcodicoclecnaaDoor
/- A weaker state within a region that draws its order. No conditions. -/
namespace Go.Proofs.YtdcodicoclecnaaDoor.Lift
open Go Go.RowKit

theorem wpAny_cut {P : Program} {ops : Array Oper} {base : Nat} {C : Ctx} {K fuel2 : Nat} {L0 : Array Bool} {R : FSt → Prop} {Q' : Exit → Act → World → Prop} (hd : ∀ o ∈ ops, ∀ d, o.dst = some d → d < C.n) (hpl : ∀ o ∈ ops, ∀ c, o.op ≠ .defer c)
    (hR : ∀ s a w β Z, RelS C β Z s a w → FreeB base (fun j => L0.getD j false = true) β → R s → wpAnyIn (Fw C.r) 0 P .any ops Q' fuel2 L0 a w) : ∀ (m : Nat) (listed : Array Bool) (s : FSt) (log : Log) (a : Act) (w : World) (β : Bet) (Z : Blk), listed.size = ops.size →
    RelS C β Z s a w → FreeB base (fun j => listed.getD j false = true) β → aUpTo P ops base K L0 R m listed s log → wpAnyIn (Fw C.r) 0 P .any ops Q' (m + fuel2) listed a w := by
  intro m
  induction m with
  | zero =>
    intro listed s log a w β Z hl h hf ha
    obtain ⟨rfl, h1, h2, h3⟩ := ha
    rw [Nat.zero_add]
    exact hR _ _ _ _ _ h hf h3
  | succ m ih =>
    intro listed s log a w β Z hl h hf ha
    obtain ⟨h1, ⟨j0, h2⟩, h3⟩ := ha
    rw [show m + 1 + fuel2 = (m + fuel2) + 1 by omega]
    refine ⟨fun h0 => (by rw [h0] at h2; cases h2), fun i hi => ?_⟩
    obtain ⟨hun, o, ho, _⟩ := mem_ready.1 hi
    obtain ⟨s', log', hst, hK⟩ := h3 i hi o ho
    have hlt : i < listed.size := by rw [hl]; exact (Array.getElem?_eq_some_iff.1 ho).1
    refine stepA_wpOp (done' := fun j => (listed.setIfInBounds i true).getD j false = true) ho h hd hpl hf ?_ (fun j hj => getD_set_true hj) (by simp [hlt]) hst fun β' Z' a' w' hr hf' => ih _ _ _ _ _ β' Z' (by simp [hl]) hr hf' hK
    simp [hlt] at hun ⊢
    exact hun
theorem aw_region_cutD {rd : Rd} {P : Program} {n : Nat} {pre : List Nat} {Q : AExit → St → Prop} {s : St} (ops1 : List AOper) (o2 : AOper) (ops2 : List AOper) {drop : List Nat}
    (hg1 : (List.range ops1.length).all (fun i => o2.anc.contains i) = true) (hg2 : ops2.all (fun o => o.anc.contains ops1.length) = true)
    (h : ARun P true s.nx (fun s' => ∃ s0, Wk pre ⟨s'.env, s'.hp, s.nx + 8 * ops1.length⟩ s0 ∧ 8 * ops1.length ≤ s0.nx ∧ ARun P true (s0.nx - 8 * ops1.length) (fun s2 => Q .norm ⟨dropE s2.env drop, s2.hp, s0.nx + 8 * (ops2.length + 1)⟩) (o2 :: ops2) ops1.length s0 []) ops1 0 s []) :
    AWb rd P n pre (.region true (ops1 ++ o2 :: ops2) drop) Q s := fun code keep hc C a w hn hp hd hr => by
  cases code with
  | region id oa draw =>
    simp only [compCode] at hc
    split at hc
    · rename_i al hal
      split at hc
      · rename_i hcond
        cases hc
        obtain ⟨β, Z, hR0, hβ⟩ := hr
        simp only [if_true] at hal
        obtain ⟨hm1, hlexB⟩ := hcond.resolve_left (by simp)
        obtain ⟨ans, hans0⟩ : ∃ ans, ancGo oa.toList [] = ans := ⟨_, rfl⟩
        have hans : ∀ i j, j ∈ (ans[i]?).getD [] → Anc .any oa i j := hans0 ▸ ancGo_sound oa.toList [] (by simp) (by simp)
        rw [hans0] at hal
        obtain ⟨hd', hlen⟩ := compOps_dst _ _ _ hal
        have hpl := compOps_plain _ _ _ hal
        obtain ⟨l1, l2, hl, e1, e2, e3, e4⟩ := compOps_app _ _ _ _ hal
        rw [Nat.zero_add] at e4
        have hdo : ∀ o ∈ oa, ∀ d, o.dst = some d → d < C.n := fun o ho d hdd => hn ▸ hd' o (by simpa using ho) d hdd
        have hplo : ∀ o ∈ oa, ∀ c, o.op ≠ .defer c := fun o ho => hpl o (by simpa using ho)
        have hsz : oa.size = l1.length + l2.length := by have := congrArg List.length hl; simpa using this
        have hl2 : l2.length = ops2.length + 1 := by simpa using e2
        have hget : ∀ j, oa[j]? = (l1 ++ l2)[j]? := fun j => by rw [← hl, Array.getElem?_toList]
        have hKlt : l1.length < oa.size := by omega
        have hancK : o2.anc = (ans[ops1.length]?).getD [] := by
          have := compOps_anc _ _ _ hal ops1.length (by simp)
          simpa using this
        have hanc : ∀ i, i < l1.length → Anc .any oa l1.length i := fun i hi => by
          refine hans _ _ ?_
          rw [e1, ← hancK]
          have := List.all_eq_true.1 hg1 i (by simp; omega)
          simpa using this
        have hdesc : ∀ j, l1.length < j → j < oa.size → Anc .any oa j l1.length := fun j hj hjs => by
          obtain ⟨m, rfl⟩ : ∃ m, j = l1.length + (m + 1) := ⟨j - l1.length - 1, by omega⟩
          have hm : m < ops2.length := by omega
          have h1 := compOps_anc _ _ _ hal (ops1.length + (m + 1)) (by simp; omega)
          rw [List.getElem_append_right (by omega)] at h1
          simp only [Nat.add_sub_cancel_left, List.getElem_cons_succ, Nat.zero_add] at h1
          refine hans _ _ ?_
          rw [e1, ← h1]
          have := List.all_eq_true.1 hg2 _ (List.getElem_mem hm)
          simpa using this
        have hlex : Region.lexFrom .any oa oa.size 0 (firstL oa.size 0) = true := by
          simp only [Region.lexB, Bool.and_eq_true] at hlexB
          rw [firstL_zero]; simpa using hlexB.2
        have hR : RelS C β Z s.F a { w with drawn := w.drawn + 1 } := by
          have h := hR0
          have f : Fr (fun _ => False) w { w with drawn := w.drawn + 1 } := Fr.drawn _ _ _
          exact ⟨h.size, ⟨h.defers.1, fun d hd => (h.defers.2 d hd).mono f (fun _ _ h => h.elim) (fun _ _ h => h)⟩, fun t => (h.env t).mono f (fun _ _ h => h.elim) (Ext.refl β) (fun _ _ h => h), fun g c hc => (h.objs g c hc).mono f (fun _ _ h => h.elim) (fun _ _ h => h) (Ext.refl β) (fun h => h) (fun _ _ => Iff.rfl), h.inj,
            h.fr.trans f (fun _ _ h => h.elim), h.z0, h.old, h.orig, h.ext, h.zlt⟩
        refine wpIn_region_any hm1 ?_
        have hup := wpAny_cut (P := P) (ops := oa) (base := s.nx) (C := C) (K := l1.length) (fuel2 := l2.length) (L0 := firstL oa.size l1.length) (Q' := PostQ C Q) hdo hplo ?_ l1.length (firstL oa.size 0) s.F (fun _ _ => False) a { w with drawn := w.drawn + 1 } β Z (firstL_size _ _) hR (fun g hg hn => absurd (hβ g hg) hn)
          (aUpTo_lex hanc hdesc hKlt l1 0 s.F _ (by simp) (lex_at hlex 0 (by omega)).1 (fun j hj => by rw [Nat.zero_add, hget, List.getElem?_append_left hj]) (by simpa using hlex) (arun_lex hans l1 ops1 0 s [] _ e3 (fun j ef hf => hf.elim) h))
        · rw [firstL_zero, ← hsz] at hup; exact hup
        rintro fs a1 w1 β1 Z1 hR1 hF ⟨s1, rfl, _, s0, hwk, hge, hrun⟩
        obtain ⟨β0, Z0, hR2, hβ0⟩ := hwk C a1 w1 hp ⟨β1, Z1, hR1, fun g hg => by
          cases hb : β1 g with
          | none => rfl
          | some B =>
            simp only at hg
            obtain ⟨j, hj, h1, h2⟩ := hF g (by omega) (by rw [hb]; simp)
            rw [firstL_get] at hj
            split at hj
            · have := of_decide_eq_true hj; omega
            · cases hj⟩
        refine wpAny_of_aAny (P := P) (ops := oa) (dr := true) (base := s0.nx - 8 * ops1.length) (C := C) (Q' := PostQ C Q) hdo hplo
          (Q := fun fs => ∃ s3 : St, fs = s3.F ∧ s3.nx = s0.nx ∧ Q .norm ⟨dropE s3.env _, s3.hp, s0.nx + 8 * (ops2.length + 1)⟩) ?_ l2.length (firstL oa.size l1.length) _ (fun _ _ => False) _ _ β0 Z0 (firstL_size _ _) hR2 (fun g' hg' hn0 => by
            by_cases hgn : s0.nx ≤ g'
            · exact absurd (hβ0 g' hgn) hn0
            · refine ⟨(g' - (s0.nx - 8 * ops1.length)) / 8, ?_, ?_, ?_⟩
              · show (firstL _ _).getD _ _ = true; rw [firstL_get, if_pos (by omega)]; exact decide_eq_true (by omega)
              · omega
              · omega)
          (aAny_lex rfl l2 l1.length _ _ _ (lex_at hlex l1.length (by omega)).1 (fun j => by rw [hget, List.getElem?_append_right (by omega)]; simp)
            (by have := (lex_at hlex l1.length (by omega)).2; rwa [show oa.size - l1.length = l2.length by omega] at this)
            (arun_lex hans l2 (o2 :: ops2) l1.length s0 [] _ (by rw [e1]; exact e4) (fun j ef hf => hf.elim) (by rw [e1]; exact hrun)))
        rintro fs a4 w5 β4 Z4 hR5 hF5 ⟨s3, rfl, _, hQ⟩
        refine ⟨_, hQ, β4, Z4, ⟨hR5.size, hR5.defers, fun t => ?_, hR5.objs, hR5.inj, hR5.fr, hR5.z0, hR5.old, hR5.orig, hR5.ext, hR5.zlt⟩, fun g' hg' => ?_⟩
        · show Rep w5 β4 Z4 _ (eget (dropE s3.env _) t)
          rcases get_drop s3.env _ t with h1 | h1
          · rw [h1]; exact hR5.env t
          · rw [h1]; exact .bot _
        · cases hb : β4 g' with
          | none => rfl
          | some B =>
            simp only at hg'
            obtain ⟨j, hj, h1, h2⟩ := hF5 g' (by omega) (by rw [hb]; simp)
            omega
      · cases hc
    · cases hc
  | seq a b => simp only [compCode] at hc; split at hc <;> cases hc
  | cond c a b => simp only [compCode] at hc; split at hc <;> cases hc
  | block id a => simp [compCode] at hc
  | loop a => simp [compCode] at hc
  | rangeFunc x1 x2 x3 x4 => simp only [compCode] at hc; repeat' (first | (cases hc; done) | split at hc)
  | _ => cases hc
end Go.Proofs.YtdcodicoclecnaaDoor.Lift
