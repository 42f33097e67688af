/- Texts of the law RecordShakes, part 9. No conditions. -/
import Derived.Test.YtdcodicoclecnaaPRecordShakes08
/- record: Shake (a reference to a yield, .yref, lies in memory). No conditions. -/
set_option linter.unusedSimpArgs false
set_option linter.unusedVariables false
namespace Go.Proofs.Ytdcodicoclecnaa
open Go.RowKit Lift

def mkB (l : Lay) (g : Fl) (fr : List Int) : Bool := match smp l g fr with
  | some v => v != 0
  | none => false
def mks (l : Lay) (g : Fl) (frs : List (List Int)) (k : Nat) : List Bool := (List.range frs.length).map fun j => decide (j < k) && mkB l g (frm frs j)
theorem mks_len (l : Lay) (g : Fl) (frs : List (List Int)) (k : Nat) : (mks l g frs k).length = frs.length := by simp [mks]
theorem mks_zero (l : Lay) (g : Fl) (frs : List (List Int)) : mks l g frs 0 = List.replicate frs.length false := by
  refine List.ext_getElem (by simp [mks]) fun j h1 h2 => ?_
  simp [mks]
theorem mks_set (l : Lay) (g : Fl) (frs : List (List Int)) (k : Nat) (v : Int) (h : k < frs.length) (hs : smp l g (frm frs k) = some v) : (mks l g frs k).set k (v != 0) = mks l g frs (k + 1) := by
  refine List.ext_getElem (by simp [mks]) fun j h1 h2 => ?_
  rw [List.getElem_set]
  simp only [mks, List.getElem_map, List.getElem_range]
  by_cases hj : k = j
  · subst hj
    rw [if_pos rfl, decide_eq_true (by omega), Bool.true_and]
    unfold mkB; rw [hs]
  · rw [if_neg hj]
    congr 1
    rw [decide_eq_decide]; omega
theorem mks_no (l : Lay) (g : Fl) (frs : List (List Int)) (k : Nat) (hs : smp l g (frm frs k) = none) : mks l g frs (k + 1) = mks l g frs k := by
  refine List.ext_getElem (by simp [mks]) fun j h1 h2 => ?_
  simp only [mks, List.getElem_map, List.getElem_range]
  by_cases hj : k = j
  · subst hj
    have : mkB l g (frm frs k) = false := by unfold mkB; rw [hs]
    rw [this, Bool.and_false, Bool.and_false]
  · congr 1
    rw [decide_eq_decide]; omega
theorem mks_get (l : Lay) (g : Fl) (frs : List (List Int)) (k : Nat) (h : k < frs.length) : (mks l g frs frs.length)[k]?.getD false = mkB l g (frm frs k) := by
  simp [mks, h]
def smV (l : Lay) (f : Fl) (frs : List (List Int)) (k : Nat) : List Int := (smps l f frs k).map (·.2)
theorem smV_len (l : Lay) (f : Fl) (frs : List (List Int)) (k : Nat) : (smV l f frs k).length = (smps l f frs k).length := by simp [smV]
def smM (l : Lay) (f g : Fl) (frs : List (List Int)) : Nat → List Int
  | 0 => []
  | k + 1 => match smp l f (frm frs k) with
    | some _ => if mkB l g (frm frs k) = true then smM l f g frs k ++ [((smps l f frs k).length : Int)] else smM l f g frs k
    | none => smM l f g frs k
theorem smM_len (l : Lay) (f g : Fl) (frs : List (List Int)) : ∀ k, (smM l f g frs k).length ≤ k
  | 0 => Nat.le_refl _
  | k + 1 => by
    have := smM_len l f g frs k
    simp only [smM]
    split
    · split
      · simp; omega
      · omega
    · omega
theorem bcl_low (n g : Nat) (L : List Bool) (hg : g < n) {h : Hp} (h1 : LowH n h) : LowH n ((g, bcl L) :: h) :=
  .cons hg (fun d hd => (bcl_in L d hd).mono fun _ h => h.elim) (bc_noY _ _) h1
theorem icl_low (n g : Nat) (L : List Int) (hg : g < n) {h : Hp} (h1 : LowH n h) : LowH n ((g, icells L) :: h) :=
  .cons hg (fun d hd => (icells_in L d hd).mono fun _ h => h.elim) (ic_noY _ _) h1
theorem hasA_two (l : Lay) (x y : Int) : hasA l [x, y] = (wI x 0 ((l.fl.length : Int) - 1) && wI y 0 ((l.fl.length : Int) - 1)) := by simp [hasA]
set_option maxRecDepth 100000 in
set_option maxHeartbeats 8000000 in
theorem shake_ok (l : Lay) (frs : List (List Int)) (kf km : Nat) (pts : Int) (hl : LayIn l) (h1 : LayOk l) (h2 : frs.length ≤ 200) (hf : FrIn frs) (hkf : kf < l.fl.length) (hkm : km < l.fl.length) :
    AC Try.prog 52 [layD l, .list (rows frs), dI kf, dI km, dI pts] [] [] (.tup [.list (ints (avL (smV l (fAt l kf) frs frs.length) (smM l (fAt l kf) (fAt l km) frs frs.length) pts)), dI (avD (smV l (fAt l kf) frs frs.length) (smM l (fAt l kf) (fAt l km) frs frs.length) pts), dI (avE (smV l (fAt l kf) frs frs.length) (smM l (fAt l kf) (fAt l km) frs frs.length) pts)]) := by
  refine krecord_Shake.ac (n0 := 0) (by simp) ⟨in_layD _ _, .list _, .val _, .val _, .val _, trivial⟩ trivial rfl ?_
  unfold crecord_Shake layD layC
  have hh : hasA l [(kf : Int), (km : Int)] = true := by rw [hasA_two, wI_y (by omega) (by omega), wI_y (by omega) (by omega)]; rfl
  have nt := withField_ok l frs [(kf : Int), (km : Int)] hl h1 h2 hf (Nat.le_of_ble_eq_true rfl) hh
  have sa := samples_ac l frs km hkm (by have := h1.nf; omega)
  have sb := samples_ac l frs kf hkf (by have := h1.nf; omega)
  have hfo := fAt_ok h1 hkf
  have hgo := fAt_ok h1 hkm
  have av := havg_ac (smV l (fAt l kf) frs frs.length) (smM l (fAt l kf) (fAt l km) frs frs.length) pts (by rw [smV_len]; have := smps_len l (fAt l kf) frs frs.length; omega) (by have := smM_len l (fAt l kf) (fAt l km) frs frs.length; omega)
  generalize fAt l kf = f at *
  generalize fAt l km = g at *
  refine aw_seq (aw_region ?_)
  simp (config := {maxSteps := 10000000}) (disch := first | exact okYes (by kernel_rfl) | omega) only [thenQ, List.map, dI, List.length, Nat.zero_add, Nat.reduceAdd, Nat.reduceMul, envOf, ARun_none, AOpRun, aexec, D.isBot, FSt.ev, St.F, ↓eget_h, Bool.false_eq_true, Option.isSome, hget_n, or_self, ↓reduceIte, D.cells, AGo_ok, St.app, putO, eput_c, Nat.reduceBEq, eput_n, cond_false, hups, hput_n, ARun_nil, dropE_c, inL_n, dropE_n]
  refine aw_wk (s' := ⟨[(1, .list (rows frs)), (2, dI kf), (3, dI km), (4, dI pts), (5, .ptr 0 0)], [(0, [dI l.words, dI l.s0, dI l.s1, dI l.s2, dI l.s3, .list (fls l.fl)])], 40⟩) ?_ ?_
  · unfold dI
    refine wk_to [] [(0, 0)] (by kernel_rfl) (by kernel_rfl) (by kernel_rfl) (by kernel_rfl) (by kernel_rfl) ?_ ?_ <;> repeat' (first | exact trivial | exact vr_val _ | exact vr_list _ | exact vr_ptr _ _ _ rfl | refine And.intro ⟨_, rfl, .inl ⟨_, rfl, by decide, ?_⟩⟩ ?_ | apply And.intro)
  refine aw_seq (aw_region_cut [⟨some 21, .loadN 6 (.tmp 5), none, []⟩,
     ⟨some 22, .mv (.tmp 1), none, []⟩,
     ⟨some 23, .mv (.tmp 2), none, []⟩,
     ⟨some 24, .mv (.tmp 3), none, []⟩,
     ⟨some 25, .buildSl 1 2 [(.val (.int .i64 0)), (.val (.int .i64 0))] [(0, 1, (.tmp 23)), (1, 1, (.tmp 24))], none, []⟩]
     [⟨some 26, .call (.func 66) [(.tmp 21), (.tmp 22), (.tmp 25)], none, []⟩,
     ⟨some 20, .mv (.tmp 26), none, []⟩,
     ⟨some 27, .ext (.tmp 20) 0, none, []⟩,
     ⟨some 28, .ext (.tmp 20) 1, none, []⟩,
     ⟨some 13, .mv (.tmp 27), none, []⟩,
     ⟨some 12, .mv (.tmp 28), none, []⟩] ?_)
  simp (config := {maxSteps := 10000000}) (disch := first | exact okYes (by kernel_rfl) | omega) only [List.length, Nat.zero_add, Nat.reduceAdd, Nat.reduceMul, thenQ, ARun_none, AOpRun, FSt.ev, List.map, St.F, dI, aexec, eget_c, Nat.reduceBEq, ↓eget_h, cond_false, hget_c, beq_self_eq_true, hget_n, cond_true, Nat.reduceLeDiff, ↓reduceIte, List.drop, List.take, AGo_ok, St.app, putO, eput_c, eput_n, hups, Option.isSome, Bool.false_eq_true, Option.map, fillD, D.isBot, D.cells, ne_eq, not_true_eq_false, Nat.reduceGT, or_self, splice, List.nil_append, List.cons_append, List.append_nil, hput_c, hput_n, ARun_nil]
  refine ⟨⟨[(1, .list (rows frs)), (2, dI kf), (3, dI km), (4, dI pts), (21, layD l), (22, .list (rows frs)), (25, .list (ints [(kf : Int), (km : Int)]))], [], 96⟩, ?_, of_decide_eq_true (by kernel_rfl), ?_⟩
  · unfold layD layC dI
    refine wk_to [72] [] (by kernel_rfl) (by kernel_rfl) (by kernel_rfl) (by kernel_rfl) (by kernel_rfl) ?_ ?_ <;> repeat' (first | exact trivial | exact vr_val _ | exact vr_list _ | apply vr_agg | refine vr_fl _ _ _ _ _ (by decide) rfl ?_ ?_ ?_ ?_ | apply And.intro)
    all_goals first | exact ints_one _ | exact ints_len _ | exact ints_flat _ | exact icells_in _ | exact icells_in [(kf : Int), (km : Int)]
  simp (config := {maxSteps := 10000000}) (disch := first | exact okYes (by kernel_rfl) | omega) only [Nat.reduceSub, Nat.reduceAdd, eget_c, Nat.reduceBEq, ↓eget_h, cond_false]
  refine acallB nt (by repeat' (first | exact trivial | exact rfl | refine And.intro ?_ ?_)) (by kernel_rfl) (by kernel_rfl) (by kernel_rfl) ?_
  simp (config := {maxSteps := 10000000}) (disch := first | exact okYes (by kernel_rfl) | omega) only [Nat.reduceAdd, St.app, putO, dI, eput_c, Nat.reduceBEq, eput_n, cond_false, hups, hput_n, List.map, List.append_nil, ARun_none, AOpRun, aexec, FSt.ev, St.F, eget_c, ↓eget_h, AGo_ok, opt1, Option.map, List.getElem?_cons_zero, List.getElem?_cons_succ, ARun_nil, dropE_c, inL_c, inL_n, beq_self_eq_true, cond_true, dropE_n]
  refine aw_seq (aw_seq (aw_region ?_))
  simp (config := {maxSteps := 10000000}) (disch := first | exact okYes (by kernel_rfl) | omega) only [thenQ, List.length, Nat.zero_add, Nat.reduceAdd, Nat.reduceMul, ARun_none, AOpRun, aexec, FSt.ev, St.F, eget_c, Nat.reduceBEq, ↓eget_h, cond_false, AGo_ok, St.app, putO, eput_c, eput_n, hups, List.map, isSh, Bool.false_eq_true, ↓reduceIte, Option.map, abin, bne_self_eq_false, ARun_nil, dropE_c, inL_c, inL_n, beq_self_eq_true, cond_true, dropE_n]
  refine aw_condF rfl (aw_skip ?_)
  have hrz := rep_bc frs.length
  have m2 : (frs.length : Int) * 1 ≤ 2 ^ 48 := by omega
  have m3 : (frs.length : Int) < 2 ^ 62 := by omega
  have hb0 := bcl_in (List.replicate frs.length false)
  have hb1 := bcl_in (mks l g frs 0)
  refine aw_seq (aw_region ?_)
  simp (config := {maxSteps := 10000000}) (disch := first | exact okYes (by kernel_rfl) | omega) only [thenQ, List.length, Nat.zero_add, Nat.reduceAdd, Nat.reduceMul, ARun_none, AOpRun, aexec, FSt.ev, St.F, ↓eget_h, AGo_ok, St.app, putO, eput_c, Nat.reduceBEq, eput_n, cond_false, hups, List.map, eget_c, rows_len, Int.natCast_nonneg, cast_lit, m2, m3, Option.isSome, hget_c, hget_n, and_self, ↓reduceIte, Int.toNat_natCast, hrz, hput_c, hput_n, Bool.false_eq_true, ↓hget_h, D.isBot, D.cells, Nat.reduceLeDiff, List.all, D.leaf, Bool.and_true, splice, List.take, List.nil_append, List.drop, List.append_nil, beq_self_eq_true, cond_true, ARun_nil, dropE_c, inL_c, inL_n, dropE_n]
  refine aw_wk (s' := ⟨[(2, dI kf), (3, dI km), (4, dI pts), (13, .ptr 96 0), (14, .ptr 8 0)], [(96, tpC l frs), (8, [.vec 16 frs.length 1]), (16, bcl (mks l g frs 0))], 104⟩) ?_ ?_
  · rw [mks_zero]
    unfold dI
    refine wk_to [] [(96, 96), (8, 184), (16, 176)] (by kernel_rfl) (by kernel_rfl) (by kernel_rfl) (by kernel_rfl) (by kernel_rfl) ?_ ?_ <;> repeat' (first | exact trivial | exact vr_val _ | exact vr_list _ | exact vr_vec _ _ _ _ rfl | exact vr_ptr _ _ _ rfl | refine And.intro ⟨_, rfl, .inl ⟨_, rfl, by decide, ?_⟩⟩ ?_ | apply And.intro | exact vrl_flat _ (by first | exact icells_in _ | exact rcells_in _ | exact scells_in _ | exact bcells_in _ | assumption))
    all_goals first | exact tpC_in _ _ _ | exact bcl_in _ | exact vrl_flat _ (bcl_in _)
  refine aw_seq (aw_seq (aw_region ?_))
  simp (config := {maxSteps := 10000000}) (disch := first | exact okYes (by kernel_rfl) | omega) only [thenQ, List.length, Nat.zero_add, Nat.reduceAdd, Nat.reduceMul, dI, ARun_none, AOpRun, aexec, FSt.ev, St.F, eget_c, Nat.reduceBEq, ↓eget_h, cond_false, AGo_ok, St.app, putO, eput_c, eput_n, hups, List.map]
  refine acallB sa (by repeat' (first | exact trivial | exact rfl | refine And.intro ?_ ?_)) (by kernel_rfl) (by kernel_rfl) (by kernel_rfl) ?_
  simp (config := {maxSteps := 10000000}) (disch := first | exact okYes (by kernel_rfl) | omega) only [Nat.reduceAdd, St.app, putO, eput_c, Nat.reduceBEq, eput_n, cond_false, hups, hput_c, hput_n, beq_self_eq_true, cond_true, List.map, List.append_nil, ARun_nil, dropE_c, inL_c, inL_n, dropE_n]
  refine aw_wk (s' := ⟨[(2, dI kf), (4, dI pts), (13, .ptr 96 0), (14, .ptr 8 0), (37, .fn 113 [] [.ptr 120 0, .ptr 121 0])], [(96, tpC l frs), (120, [.ptr 96 0]), (121, flC g), (8, [.vec 16 frs.length 1]), (16, bcl (mks l g frs 0))], 800⟩) ?_ ?_
  · unfold dI
    refine wk_to [] [(8, 8), (16, 16), (96, 96), (120, 120), (121, 121)] (by kernel_rfl) (by kernel_rfl) (by kernel_rfl) (by kernel_rfl) (by kernel_rfl) ?_ ?_ <;> repeat' (first | exact trivial | exact vr_val _ | exact vr_list _ | exact vr_vec _ _ _ _ rfl | exact vr_ptr _ _ _ rfl | apply vr_fn | refine And.intro ⟨_, rfl, .inl ⟨_, rfl, by decide, ?_⟩⟩ ?_ | apply And.intro | exact vrl_flat _ (by first | exact icells_in _ | exact rcells_in _ | exact scells_in _ | exact bcells_in _ | assumption))
    all_goals first | exact tpC_in _ _ _ | exact flC_in _ _ | exact bcl_in _ | exact vrl_flat _ (bcl_in _)
  refine aw_block (aw_range [8, 96, 120, 121] [(2, dI kf), (4, dI pts), (13, .ptr 96 0), (14, .ptr 8 0)] [.bot, .bot, .bot, .bot, .bot, .bot, .bot, .bot, .bot, .bot, .bot, .bot, .bot, .bot, .ptr 8 0] kprecord_tape_samples_S1 rfl (by simp) ⟨.inl rfl, .inl rfl, .inl rfl, .inl rfl, .inl rfl, .inl rfl, .inl rfl, .inl rfl, .inl rfl, .inl rfl, .inl rfl, .inl rfl, .inl rfl, .inl rfl, .inr rfl, trivial⟩ rfl rfl (by simp) ⟨.inr ⟨rfl, .val _⟩, .inr ⟨rfl, .val _⟩, .inr ⟨rfl, .ptr _ _ (by simp)⟩, .inr ⟨rfl, .ptr _ _ (by simp)⟩, trivial⟩ (fun r hr => ?_))
  refine samples_hit hr rfl l frs h2 h1 g hgo hf [8, 96, 120, 121] (by decide) [.bot, .bot, .bot, .bot, .bot, .bot, .bot, .bot, .bot, .bot, .bot, .bot, .bot, .bot, .ptr 8 0] rfl (by intro d hd; simp at hd; rcases hd with rfl | rfl; exact .bot; exact .ptr _ _ (by simp)) (by simp) (by simp) (by simp) (fun i => [(8, [.vec 16 frs.length 1]), (16, bcl (mks l g frs i))]) (fun i => .cons (by decide) (by intro d hd; simp at hd; subst hd; exact .vec _ _ _ (by decide)) rfl (bcl_low _ _ _ (by decide) .nil)) (fun i hi hs => ?_) (fun i v hi hs => ?_) ?_
  · simp only [mks_no l g frs i hs]
  · have hml := mks_len l g frs i
    have hbt := bc_t (mks l g frs i) i (v != 0) (by omega)
    rw [mks_set l g frs i v hi hs] at hbt
    have hcl : (bcl (mks l g frs i)).length = frs.length := by rw [bcl_len]; exact hml
    have hcin := bcl_in (mks l g frs (i + 1))
    generalize mks l g frs i = L at *
    generalize hg1 : mks l g frs (i + 1) = L1 at *
    have ki : (i : Int) < (frs.length : Int) := by omega
    have k1 : i + 1 ≤ frs.length := by omega
    unfold crecord_Shake_B38 smH
    refine aw_block (aw_region ?_)
    simp (config := {maxSteps := 10000000}) (disch := first | exact okYes (by kernel_rfl) | omega) only [blockQ, List.length, Nat.zero_add, Nat.reduceAdd, Nat.reduceMul, true_and, bodyE, asgE, parE, envOf, dI, eput_c, Nat.reduceBEq, eput_n, cond_false, eget_c, ↓eget_h, ARun_none, AOpRun, aexec, Option.map, run1, FSt.ev, St.F, hget_c, ↓hget_h, Nat.add_zero, List.getElem?_cons_zero, AGo_ok, St.app, putO, hups, List.map, isSh, Bool.false_eq_true, ↓reduceIte, abin, Int.natCast_nonneg, ki, and_self, Int.toNat_natCast, Nat.mul_one, D.isBot, D.cells, hcl, k1, List.all, D.leaf, Bool.and_true, splice, hbt, hput_c, beq_self_eq_true, hput_n, cond_true, ARun_nil, dropE_c, inL_c, inL_n, dropE_n]
    try refine ⟨rfl, ?_⟩
    refine wk_to [] [(8, 8), (16, 16), (96, 96), (120, 120), (121, 121), (800, 800), (808, 808), (1000, 1000)] (by kernel_rfl) (by kernel_rfl) (by kernel_rfl) (by kernel_rfl) (by kernel_rfl) ?_ ?_ <;> repeat' (first | exact trivial | exact vr_val _ | exact vr_list _ | exact vr_vec _ _ _ _ rfl | exact vr_ptr _ _ _ rfl | refine And.intro ⟨_, rfl, .inl ⟨_, rfl, by decide, ?_⟩⟩ ?_ | apply And.intro | exact vr_yrefs _ _ rfl | exact vrl_flat _ (by first | exact icells_in _ | exact rcells_in _ | exact scells_in _ | exact bcells_in _ | assumption))
    all_goals first | exact tpC_in _ _ _ | exact flC_in _ _ | exact vrl_flat _ hcin | assumption
  have hml := mks_len l g frs frs.length
  have hmg := mks_get l g frs
  have hcl : (bcl (mks l g frs frs.length)).length = frs.length := by rw [bcl_len]; exact hml
  have hcin := bcl_in (mks l g frs frs.length)
  have hbg := bc_gd (mks l g frs frs.length)
  rw [hml] at hbg
  generalize mks l g frs frs.length = MK at *
  unfold smH
  simp only [blockQ, thenQ]
  refine aw_seq (aw_region ?_)
  simp (config := {maxSteps := 10000000}) (disch := first | exact okYes (by kernel_rfl) | omega) only [thenQ, List.length, Nat.zero_add, Nat.reduceMul, Nat.reduceAdd, dI, ARun_none, AOpRun, aexec, Option.isSome, hget_c, Nat.reduceBEq, hget_n, cond_false, Bool.false_eq_true, ↓reduceIte, AGo_ok, St.app, putO, eput_c, eput_n, hups, hput_c, hput_n, List.map, ARun_nil, dropE_c, inL_n, dropE_n]
  refine aw_wk (s' := ⟨[(2, dI kf), (4, dI pts), (13, .ptr 96 0), (14, .ptr 8 0), (17, .ptr 24 0)], [(96, tpC l frs), (24, [.vec 32 0 1, .vec 40 0 1]), (32, icells []), (40, icells []), (8, [.vec 16 frs.length 1]), (16, bcl MK)], 104⟩) ?_ ?_
  · unfold dI
    refine wk_to [] [(96, 96), (8, 8), (16, 16), (24, 1100), (32, 1200), (40, 1201)] (by kernel_rfl) (by kernel_rfl) (by kernel_rfl) (by kernel_rfl) (by kernel_rfl) ?_ ?_ <;> repeat' (first | exact trivial | exact vr_val _ | exact vr_list _ | exact vr_vec _ _ _ _ rfl | exact vr_ptr _ _ _ rfl | exact vr_nilv _ _ _ rfl | refine And.intro ⟨_, rfl, .inl ⟨_, rfl, by decide, ?_⟩⟩ ?_ | refine And.intro ⟨_, rfl, .inr ⟨rfl, rfl, of_decide_eq_true (by kernel_rfl)⟩⟩ ?_ | apply And.intro | exact vrl_flat _ (by first | exact icells_in _ | exact rcells_in _ | exact scells_in _ | exact bcells_in _ | assumption))
    all_goals first | exact tpC_in _ _ _ | exact vrl_flat _ hcin
  refine aw_seq (aw_seq (aw_region ?_))
  simp (config := {maxSteps := 10000000}) (disch := first | exact okYes (by kernel_rfl) | omega) only [thenQ, List.length, Nat.zero_add, Nat.reduceAdd, Nat.reduceMul, dI, ARun_none, AOpRun, aexec, FSt.ev, St.F, eget_c, Nat.reduceBEq, ↓eget_h, cond_false, AGo_ok, St.app, putO, eput_c, eput_n, hups, List.map]
  refine acallB sb (by repeat' (first | exact trivial | exact rfl | refine And.intro ?_ ?_)) (by kernel_rfl) (by kernel_rfl) (by kernel_rfl) ?_
  simp (config := {maxSteps := 10000000}) (disch := first | exact okYes (by kernel_rfl) | omega) only [Nat.reduceAdd, St.app, putO, eput_c, Nat.reduceBEq, eput_n, cond_false, hups, hput_c, hput_n, beq_self_eq_true, cond_true, List.map, List.append_nil, ARun_nil, dropE_c, inL_c, inL_n, dropE_n]
  refine aw_wk (s' := ⟨[(4, dI pts), (14, .ptr 8 0), (17, .ptr 24 0), (47, .fn 113 [] [.ptr 120 0, .ptr 121 0])], [(96, tpC l frs), (120, [.ptr 96 0]), (121, flC f), (24, [.vec 32 0 1, .vec 40 0 1]), (32, icells []), (40, icells []), (8, [.vec 16 frs.length 1]), (16, bcl MK)], 800⟩) ?_ ?_
  · unfold dI
    refine wk_to [] [(8, 8), (16, 16), (24, 24), (32, 32), (40, 40), (96, 96), (120, 120), (121, 121)] (by kernel_rfl) (by kernel_rfl) (by kernel_rfl) (by kernel_rfl) (by kernel_rfl) ?_ ?_ <;> repeat' (first | exact trivial | exact vr_val _ | exact vr_list _ | exact vr_vec _ _ _ _ rfl | exact vr_ptr _ _ _ rfl | apply vr_fn | refine And.intro ⟨_, rfl, .inl ⟨_, rfl, by decide, ?_⟩⟩ ?_ | apply And.intro | exact vrl_flat _ (by first | exact icells_in _ | exact rcells_in _ | exact scells_in _ | exact bcells_in _ | assumption))
    all_goals first | exact tpC_in _ _ _ | exact flC_in _ _ | exact vrl_flat _ hcin
  refine aw_block (aw_range [8, 24, 96, 120, 121] [(4, dI pts), (17, .ptr 24 0)] [.bot, .bot, .bot, .bot, .bot, .bot, .bot, .bot, .bot, .bot, .bot, .bot, .bot, .bot, .ptr 8 0, .bot, .bot, .ptr 24 0] kprecord_tape_samples_S1 rfl (by simp) ⟨.inl rfl, .inl rfl, .inl rfl, .inl rfl, .inl rfl, .inl rfl, .inl rfl, .inl rfl, .inl rfl, .inl rfl, .inl rfl, .inl rfl, .inl rfl, .inl rfl, .inr rfl, .inl rfl, .inl rfl, .inr rfl, trivial⟩ rfl rfl (by simp) ⟨.inr ⟨rfl, .val _⟩, .inr ⟨rfl, .ptr _ _ (by simp)⟩, trivial⟩ (fun r hr => ?_))
  refine samples_hit hr rfl l frs h2 h1 f hfo hf [8, 24, 96, 120, 121] (by decide) [.bot, .bot, .bot, .bot, .bot, .bot, .bot, .bot, .bot, .bot, .bot, .bot, .bot, .bot, .ptr 8 0, .bot, .bot, .ptr 24 0] rfl (by intro d hd; simp at hd; rcases hd with rfl | rfl | rfl | rfl; exact .bot; exact .ptr _ _ (by simp); exact .bot; exact .ptr _ _ (by simp)) (by simp) (by simp) (by simp)
    (fun i => [(24, [.vec 32 (smV l f frs i).length 1, .vec 40 (smM l f g frs i).length 1]), (32, icells (smV l f frs i)), (40, icells (smM l f g frs i)), (8, [.vec 16 frs.length 1]), (16, bcl MK)])
    (fun i => .cons (by decide) (by intro d hd; simp at hd; rcases hd with rfl | rfl <;> exact .vec _ _ _ (by decide)) rfl (icl_low _ _ _ (by decide) (icl_low _ _ _ (by decide) (.cons (by decide) (by intro d hd; simp at hd; subst hd; exact .vec _ _ _ (by decide)) rfl (bcl_low _ _ _ (by decide) .nil))))) (fun i hi hs => ?_) (fun i v hi hs => ?_) ?_
  · have e1 : smV l f frs (i + 1) = smV l f frs i := by unfold smV; rw [smps_succ, hs]; simp
    have e2 : smM l f g frs (i + 1) = smM l f g frs i := by simp only [smM, hs]
    simp only [e1, e2]
  · have hvl := smV_len l f frs i
    have hsl := smps_len l f frs i
    have hml2 := smM_len l f g frs i
    have e1 : smV l f frs (i + 1) = smV l f frs i ++ [v] := by unfold smV; rw [smps_succ, hs]; simp
    have e2 : smM l f g frs (i + 1) = if mkB l g (frm frs i) = true then smM l f g frs i ++ [((smV l f frs i).length : Int)] else smM l f g frs i := by rw [smV_len]; simp only [smM, hs]
    have gb := hbg i hi
    rw [hmg i hi] at gb
    rw [e1, e2]
    clear e1 e2
    have ki : (i : Int) < (frs.length : Int) := by omega
    generalize smV l f frs i = V at *
    generalize smM l f g frs i = M at *
    have hvc : (icells V).length = V.length := icells_len V
    have hmc : (icells M).length = M.length := icells_len M
    have hvt : (icells V).take V.length = icells V := ic_take V _ rfl
    have hmt : (icells M).take M.length = icells M := ic_take M _ rfl
    have hva : (V ++ [v]).length = V.length + 1 := by simp
    have hma : (M ++ [(V.length : Int)]).length = M.length + 1 := by simp
    have hvcin : ∀ y ∈ icells V ++ [.val (.int .i64 v)], In (fun _ => False) y := by rw [ic_app]; exact icells_in _
    have hmcin : ∀ y ∈ icells M ++ [.val (.int .i64 (V.length : Int))], In (fun _ => False) y := by rw [ic_app]; exact icells_in _
    rw [← ic_app V v, hva]
    unfold crecord_Shake_B48 smH
    cases hb : mkB l g (frm frs i) with
    | true =>
      rw [hb] at gb
      rw [if_pos rfl, hma, ← ic_app M]
      (have hg : (987654321 : Nat) - 987654321 = 0 := rfl; have hr := hg; repeat' (first | refine aw_seq ?_ | (refine aw_skip ?_; repeat' (first | with_reducible refine thenQ_n ?_ | with_reducible refine blockQ_n ?_ | with_reducible refine thenQ_e ?_ | with_reducible refine blockQ_t ?_ | with_reducible refine blockQ_f (by decide) ?_)) | (refine aw_exit ?_; repeat' (first | with_reducible refine thenQ_n ?_ | with_reducible refine blockQ_n ?_ | with_reducible refine thenQ_e ?_ | with_reducible refine blockQ_t ?_ | with_reducible refine blockQ_f (by decide) ?_)) | refine aw_ret ?_ | refine aw_block ?_ | refine aw_condT rfl ?_ | refine aw_condF rfl ?_ | ((first | refine aw_hide fun K hK => aw_region ?_ | refine ago_if (by omega) ?_ | skip); simp (config := {maxSteps := 10000000}) (disch := first | exact okYes (by kernel_rfl) | omega) only [List.length, Nat.zero_add, Nat.reduceAdd, Nat.reduceMul, bodyE, asgE, parE, envOf, dI, eput_c, Nat.reduceBEq, eput_n, cond_false, eget_c, ↓eget_h, ARun_none, AOpRun, aexec, Option.map, run1, FSt.ev, St.F, hget_c, ↓hget_h, Nat.add_zero, List.getElem?_cons_zero, AGo_ok, St.app, putO, hups, List.map, Int.natCast_nonneg, ki, and_self, ↓reduceIte, Int.toNat_natCast, Nat.mul_one, gb, ARun_nil, dropE_c, inL_c, inL_n, beq_self_eq_true, cond_true, dropE_n, List.getElem?_cons_succ, Option.isSome, hget_n, Bool.false_eq_true, fillD, D.isBot, D.cells, ne_eq, not_true_eq_false, Nat.reduceGT, or_self, splice, List.take, List.nil_append, List.drop, List.append_nil, hput_c, hput_n, base, hmc, Nat.le_refl, hmt, elems, List.all, D.leaf, Bool.and_true, and_true, ups, List.cons_append, hdel_c, hdel_n, hvc, hvt, Nat.reduceLeDiff, true_and]) | (subst hK; repeat' (first | with_reducible refine thenQ_n ?_ | with_reducible refine blockQ_n ?_ | with_reducible refine thenQ_e ?_ | with_reducible refine blockQ_t ?_ | with_reducible refine blockQ_f (by decide) ?_))))
      try refine ⟨rfl, ?_⟩
      refine wk_to [] [(8, 8), (16, 16), (24, 24), (32, 1636), (40, 1580), (96, 96), (120, 120), (121, 121), (800, 800), (808, 808), (1000, 1000)] (by kernel_rfl) (by kernel_rfl) (by kernel_rfl) (by kernel_rfl) (by kernel_rfl) ?_ ?_ <;> repeat' (first | exact trivial | exact vr_val _ | exact vr_list _ | exact vr_vec _ _ _ _ rfl | exact vr_ptr _ _ _ rfl | refine And.intro ⟨_, rfl, .inl ⟨_, rfl, by decide, ?_⟩⟩ ?_ | apply And.intro | exact vr_yrefs _ _ rfl | exact vrl_flat _ (by first | exact icells_in _ | exact rcells_in _ | exact scells_in _ | exact bcells_in _ | assumption))
      all_goals first | exact tpC_in _ _ _ | exact flC_in _ _ | exact vrl_flat _ hcin | assumption
    | false =>
      rw [hb] at gb
      rw [if_neg (by simp)]
      (have hg : (987654321 : Nat) - 987654321 = 0 := rfl; have hr := hg; repeat' (first | refine aw_seq ?_ | (refine aw_skip ?_; repeat' (first | with_reducible refine thenQ_n ?_ | with_reducible refine blockQ_n ?_ | with_reducible refine thenQ_e ?_ | with_reducible refine blockQ_t ?_ | with_reducible refine blockQ_f (by decide) ?_)) | (refine aw_exit ?_; repeat' (first | with_reducible refine thenQ_n ?_ | with_reducible refine blockQ_n ?_ | with_reducible refine thenQ_e ?_ | with_reducible refine blockQ_t ?_ | with_reducible refine blockQ_f (by decide) ?_)) | refine aw_ret ?_ | refine aw_block ?_ | refine aw_condT rfl ?_ | refine aw_condF rfl ?_ | ((first | refine aw_hide fun K hK => aw_region ?_ | refine ago_if (by omega) ?_ | skip); simp (config := {maxSteps := 10000000}) (disch := first | exact okYes (by kernel_rfl) | omega) only [List.length, Nat.zero_add, Nat.reduceAdd, Nat.reduceMul, bodyE, asgE, parE, envOf, dI, eput_c, Nat.reduceBEq, eput_n, cond_false, eget_c, ↓eget_h, ARun_none, AOpRun, aexec, Option.map, run1, FSt.ev, St.F, hget_c, ↓hget_h, Nat.add_zero, List.getElem?_cons_zero, AGo_ok, St.app, putO, hups, List.map, Int.natCast_nonneg, ki, and_self, ↓reduceIte, Int.toNat_natCast, Nat.mul_one, gb, ARun_nil, dropE_c, inL_c, inL_n, beq_self_eq_true, cond_true, dropE_n, Option.isSome, hget_n, Bool.false_eq_true, fillD, D.isBot, D.cells, ne_eq, not_true_eq_false, Nat.reduceGT, or_self, splice, List.take, List.nil_append, List.drop, List.append_nil, hput_c, hput_n, base, hvc, Nat.le_refl, hvt, elems, List.all, D.leaf, Bool.and_true, and_true, ups, List.cons_append, hdel_c, hdel_n, Nat.reduceLeDiff, true_and]) | (subst hK; repeat' (first | with_reducible refine thenQ_n ?_ | with_reducible refine blockQ_n ?_ | with_reducible refine thenQ_e ?_ | with_reducible refine blockQ_t ?_ | with_reducible refine blockQ_f (by decide) ?_))))
      try refine ⟨rfl, ?_⟩
      refine wk_to [] [(8, 8), (16, 16), (24, 24), (32, 1564), (40, 40), (96, 96), (120, 120), (121, 121), (800, 800), (808, 808), (1000, 1000)] (by kernel_rfl) (by kernel_rfl) (by kernel_rfl) (by kernel_rfl) (by kernel_rfl) ?_ ?_ <;> repeat' (first | exact trivial | exact vr_val _ | exact vr_list _ | exact vr_vec _ _ _ _ rfl | exact vr_ptr _ _ _ rfl | refine And.intro ⟨_, rfl, .inl ⟨_, rfl, by decide, ?_⟩⟩ ?_ | apply And.intro | exact vr_yrefs _ _ rfl | exact vrl_flat _ (by first | exact icells_in _ | exact rcells_in _ | exact scells_in _ | exact bcells_in _ | assumption))
      all_goals first | exact tpC_in _ _ _ | exact flC_in _ _ | exact vrl_flat _ hcin | assumption
  · generalize smV l f frs frs.length = V at *
    generalize smM l f g frs frs.length = M at *
    unfold smH
    simp only [blockQ, thenQ]
    refine aw_wk (s' := ⟨[(4, dI pts), (17, .ptr 24 0)], [(24, [.list (ints V), .list (ints M)])], 2000⟩) ?_ ?_
    · unfold dI
      refine wk_to [32, 40] [(24, 24)] (by kernel_rfl) (by kernel_rfl) (by kernel_rfl) (by kernel_rfl) (by kernel_rfl) ?_ ?_ <;> repeat' (first | exact trivial | exact vr_val _ | exact vr_ptr _ _ _ rfl | refine vr_fl _ _ _ _ _ (by decide) rfl ?_ ?_ ?_ ?_ | refine And.intro ⟨_, rfl, .inl ⟨_, rfl, by decide, ?_⟩⟩ ?_ | apply And.intro)
      all_goals first | exact ints_one _ | exact ints_len _ | exact ints_flat _ | exact icells_in _
    (have hg : (987654321 : Nat) - 987654321 = 0 := rfl; have hr := hg; repeat' (first | refine aw_seq ?_ | (refine aw_skip ?_; repeat' (first | with_reducible refine thenQ_n ?_ | with_reducible refine blockQ_n ?_ | with_reducible refine thenQ_e ?_ | with_reducible refine blockQ_t ?_ | with_reducible refine blockQ_f (by decide) ?_)) | (refine aw_exit ?_; repeat' (first | with_reducible refine thenQ_n ?_ | with_reducible refine blockQ_n ?_ | with_reducible refine thenQ_e ?_ | with_reducible refine blockQ_t ?_ | with_reducible refine blockQ_f (by decide) ?_)) | refine aw_ret ?_ | refine aw_block ?_ | refine aw_condT rfl ?_ | refine aw_condF rfl ?_ | ((first | refine aw_hide fun K hK => aw_region ?_ | refine acall0 (av) ?_ | refine ago_if (by omega) ?_ | skip); simp (config := {maxSteps := 10000000}) (disch := first | exact okYes (by kernel_rfl) | omega) only [List.length, Nat.zero_add, Nat.reduceAdd, Nat.reduceMul, dI, ARun_none, AOpRun, aexec, FSt.ev, St.F, eget_c, Nat.reduceBEq, ↓eget_h, cond_false, hget_c, beq_self_eq_true, hget_n, cond_true, Nat.reduceLeDiff, ↓reduceIte, List.drop, List.take, AGo_ok, St.app, putO, eput_c, eput_n, hups, List.map, opt1, Option.map, List.getElem?_cons_zero, List.getElem?_cons_succ, ARun_nil, dropE_c, inL_c, inL_n, dropE_n]) | (subst hK; repeat' (first | with_reducible refine thenQ_n ?_ | with_reducible refine blockQ_n ?_ | with_reducible refine thenQ_e ?_ | with_reducible refine blockQ_t ?_ | with_reducible refine blockQ_f (by decide) ?_))))
    (refine end_to [] [] (by first | exact .inl rfl | exact .inr rfl) rfl (by kernel_rfl) (by kernel_rfl) (by kernel_rfl) ?_ ?_ <;> repeat' (first | exact trivial | exact vr_val _ | exact vr_list _ | apply vr_tup | apply And.intro))
end Go.Proofs.Ytdcodicoclecnaa
