/- Texts of the law RecordEvery, part 8. No conditions. -/
import Derived.Test.YtdcodicoclecnaaPRecordEvery07
/- record: the events of a tape (views last). No conditions. -/
set_option linter.unusedSimpArgs false
set_option linter.unusedVariables false
namespace Go.Proofs.Ytdcodicoclecnaa
open Go Go.RowKit Lift

/-- a list of truth values, by a rule -/
def fL (n : Nat) (F : Nat → Bool) : List Bool := (List.range n).map F
theorem fL_len (n : Nat) (F : Nat → Bool) : (fL n F).length = n := by simp [fL]
theorem fL_get {n j : Nat} (F : Nat → Bool) (h : j < n) : (fL n F)[j]?.getD false = F j := by simp [fL, h]
theorem fL_set {n m : Nat} {F G : Nat → Bool} (hG : ∀ j, j ≠ m → G j = F j) : fL n G = (fL n F).set m (G m) := by
  unfold fL
  refine List.ext_getElem (by simp) fun j h1 h2 => ?_
  rw [List.getElem_set]
  simp only [List.getElem_map, List.getElem_range]
  by_cases e : m = j
  · subst e; rw [if_pos rfl]
  · rw [if_neg e]; exact hG j (Ne.symm e)
theorem fL_eq {n : Nat} {F G : Nat → Bool} (h : ∀ j, j < n → F j = G j) : fL n F = fL n G := List.map_congr_left fun j hj => h j (List.mem_range.1 hj)
theorem fL_rep (n : Nat) : List.replicate n false = fL n fun _ => false := by
  refine List.ext_getElem (by simp [fL]) fun j h1 h2 => by simp [fL]
def aF (l : Lay) (frs : List (List Int)) (cs : List Cd) (k j : Nat) : Bool := decide (j < frs.length) && allK l frs cs k j
def xF (l : Lay) (frs : List (List Int)) (cs : List Cd) (k m j : Nat) : Bool := if j < m then aF l frs cs (k + 1) j else aF l frs cs k j
theorem allK_succ {l : Lay} {frs : List (List Int)} {cs : List Cd} {k : Nat} (hk : k < cs.length) (j : Nat) : allK l frs cs (k + 1) j = (allK l frs cs k j && holdJ l frs (cs[k]?.getD cd0) (fOf l (cs[k]?.getD cd0)) j) := by
  unfold allK
  rw [List.take_add_one, List.all_append]
  simp [hk]
theorem aF_end (l : Lay) (frs : List (List Int)) (cs : List Cd) (j : Nat) : aF l frs cs cs.length j = isJ l frs cs j := by
  unfold aF isJ allK
  rw [List.take_of_length_le (Nat.le_refl _)]
set_option maxRecDepth 100000 in
set_option maxHeartbeats 16000000 in
theorem eventsT_ac (l : Lay) (frs : List (List Int)) (cs : List Cd) (h : Int) (h1 : LayOk l) (h2 : frs.length ≤ 200) (hf : FrIn frs) (hc : evB l cs h = true) : AC Try.prog 94 [.ptr 96 0, evD cs h] [(96, tpC l frs)] [(96, some (tpC l frs))] (.list (sps (evK (isJ l frs cs) h (frs.length + 1)).2)) := by
  refine kprecord_tape_events.ac (n0 := 200) (by simp) ⟨.ptr _ _ (by omega), in_ev _ _ _, trivial⟩ ⟨⟨by omega, tpC_in _ _ _⟩, trivial⟩ rfl ?_
  unfold evB at hc
  rw [Bool.and_eq_true, Bool.and_eq_true] at hc
  obtain ⟨⟨hc1, hc2⟩, hc3⟩ := hc
  have hcl := wI_t hc1
  have hh := wI_t hc3
  unfold cprecord_tape_events evD
  have e0 : ((frs.length : Int) + 1).toNat = frs.length + 1 := by omega
  have hrep := rep_bc (frs.length + 1)
  rw [fL_rep] at hrep
  have m1 : (0 : Int) ≤ (frs.length : Int) + 1 := by omega
  have m2 : ((frs.length : Int) + 1) * 1 ≤ 2 ^ 48 := by omega
  have m3 : (frs.length : Int) + 1 < 2 ^ 62 := by omega
  have htape : ∀ c, cdB l c = true → _ := fun c hc => holdsT_ac l frs c h1 h2 hf hc
  refine aw_seq (aw_region ?_)
  simp (config := {maxSteps := 10000000}) (disch := first | exact okYes (by kernel_rfl) | omega) only [thenQ, List.map, List.length, Nat.zero_add, Nat.reduceAdd, Nat.reduceMul, envOf, dI, ARun_none, AOpRun, aexec, D.isBot, FSt.ev, St.F, eget_c, Nat.reduceBEq, ↓eget_h, cond_false, Bool.false_eq_true, Option.isSome, hget_c, hget_n, or_self, ↓reduceIte, D.cells, AGo_ok, St.app, putO, eput_c, eput_n, hups, hput_c, hput_n, ARun_nil, dropE_c, inL_n, dropE_n]
  unfold tpC at *
  refine aw_seq (aw_region ?_)
  simp (config := {maxSteps := 10000000}) (disch := first | exact okYes (by kernel_rfl) | omega) only [thenQ, dI, List.length, Nat.zero_add, Nat.reduceAdd, Nat.reduceMul, ARun_none, AOpRun, aexec, FSt.ev, St.F, ↓eget_h, AGo_ok, St.app, putO, eput_c, Nat.reduceBEq, eput_n, cond_false, hups, List.map, eget_c, Option.map, run1, hget_c, beq_self_eq_true, hget_n, cond_true, List.getElem?_cons_succ, List.getElem?_cons_zero, rows_len, isSh, Bool.false_eq_true, ↓reduceIte, abin, fits, m1, cast_lit, m2, m3, Option.isSome, and_self, e0, hrep, hput_c, hput_n, ARun_nil, dropE_c, inL_c, inL_n, dropE_n]
  refine aw_wk (s' := ⟨[(0, .ptr 96 0), (3, .ptr 8 0), (4, .val (.slice none 0 0)), (5, .vec 16 (frs.length + 1) 1)], [(96, tpC l frs), (8, [.list (cds cs), dI h]), (16, bcl (fL (frs.length + 1) fun _ => false))], 400⟩) ?_ ?_
  · unfold tpC dI
    refine wk_to [] [(96, 96), (8, 200), (16, 264)] (by kernel_rfl) (by kernel_rfl) (by kernel_rfl) (by kernel_rfl) (by kernel_rfl) ?_ ?_ <;> repeat' (first | exact trivial | exact vr_val _ | exact vr_list _ | exact vr_vec _ _ _ _ rfl | exact vr_ptr _ _ _ rfl | refine And.intro ⟨_, rfl, .inl ⟨_, rfl, by decide, ?_⟩⟩ ?_ | apply And.intro)
    all_goals exact vrl_flat _ (bcl_in _)
  -- all frames at first
  refine aw_cut ⟨[(0, .ptr 96 0), (3, .ptr 8 0), (4, .val (.slice none 0 0)), (5, .vec 16 (frs.length + 1) 1)], [(96, tpC l frs), (8, [.list (cds cs), dI h]), (16, bcl (fL (frs.length + 1) (aF l frs cs 0)))], 600⟩ ?_ ?_
  · unfold tpC
    refine aw_seq (aw_region ?_)
    simp (config := {maxSteps := 10000000}) (disch := first | exact okYes (by kernel_rfl) | omega) only [thenQ, dI, List.length, Nat.zero_add, Nat.reduceAdd, Nat.reduceMul, ARun_none, AOpRun, aexec, FSt.ev, St.F, ↓eget_h, AGo_ok, St.app, putO, eput_c, Nat.reduceBEq, eput_n, cond_false, hups, List.map, eget_c, Option.map, run1, hget_c, beq_self_eq_true, hget_n, cond_true, List.getElem?_cons_succ, List.getElem?_cons_zero, rows_len, ARun_nil, dropE_c, inL_c, inL_n, dropE_n]
    refine aw_block (aw_loop (fun j : Nat => ⟨[(0, .ptr 96 0), (3, .ptr 8 0), (4, .val (.slice none 0 0)), (5, .vec 16 (frs.length + 1) 1), (25, dI frs.length), (26, dI j)], [(96, tpC l frs), (8, [.list (cds cs), dI h]), (16, bcl (fL (frs.length + 1) fun m => decide (m < j)))], 500⟩) (fun j => j ≤ frs.length) (fun j => frs.length - j) ⟨0, by omega, ?_⟩ ?_)
    · have e : (fL (frs.length + 1) fun m => decide (m < 0)) = fL (frs.length + 1) fun _ => false := fL_eq fun j _ => by simp
      rw [e]
      unfold tpC dI
      refine wk_to [] [(96, 96), (8, 8), (16, 16)] (by kernel_rfl) (by kernel_rfl) (by kernel_rfl) (by kernel_rfl) (by kernel_rfl) ?_ ?_ <;> repeat' (first | exact trivial | exact vr_val _ | exact vr_list _ | exact vr_vec _ _ _ _ rfl | exact vr_ptr _ _ _ rfl | refine And.intro ⟨_, rfl, .inl ⟨_, rfl, by decide, ?_⟩⟩ ?_ | apply And.intro)
      all_goals exact vrl_flat _ (bcl_in _)
    intro j hj
    unfold tpC
    by_cases hj2 : j < frs.length
    case neg =>
      obtain rfl : j = frs.length := by omega
      have e : (fL (frs.length + 1) fun m => decide (m < frs.length)) = fL (frs.length + 1) (aF l frs cs 0) := fL_eq fun j _ => by simp [aF, allK]
      rw [e]
      (have hg : (987654321 : Nat) - 987654321 = 0 := rfl; have hr := hg; repeat' (first | refine aw_seq ?_ | (refine aw_skip ?_; repeat' (first | with_reducible refine thenQ_n ?_ | with_reducible refine blockQ_n ?_ | with_reducible refine thenQ_e ?_ | with_reducible refine blockQ_t ?_ | with_reducible refine blockQ_f (by decide) ?_)) | (refine aw_exit ?_; repeat' (first | with_reducible refine thenQ_n ?_ | with_reducible refine blockQ_n ?_ | with_reducible refine thenQ_e ?_ | with_reducible refine blockQ_t ?_ | with_reducible refine blockQ_f (by decide) ?_)) | refine aw_ret ?_ | refine aw_block ?_ | refine aw_condT rfl ?_ | refine aw_condF rfl ?_ | (refine aw_cond rfl (fun hg => ?_) (fun hg => ?_) <;> (try (have hq := hg; simp only [Bool.not_eq_true', Bool.not_eq_false', Bool.and_eq_true, Bool.and_eq_false_iff, Bool.or_eq_true, Bool.or_eq_false_iff, decide_eq_true_eq, decide_eq_false_iff_not, bne_iff_ne, beq_iff_eq, beq_eq_false_iff_ne, bne_eq_false_iff_eq, ne_eq, Int.not_lt, Int.not_le, Decidable.not_not] at hq)) <;> (try (have hr := hg; simp only [decide_eq_true_eq, decide_eq_false_iff_not] at hr)) <;> (try (exfalso; omega))) | ((first | refine aw_hide fun K hK => aw_region ?_ | refine ago_if (by omega) ?_ | skip); simp (config := {maxSteps := 10000000}) (disch := first | exact okYes (by kernel_rfl) | omega) only [List.length, Nat.zero_add, Nat.reduceMul, Nat.reduceAdd, dI, ARun_none, AOpRun, aexec, FSt.ev, St.F, eget_c, Nat.reduceBEq, ↓eget_h, cond_false, isSh, Bool.false_eq_true, ↓reduceIte, Option.map, abin, AGo_ok, St.app, putO, eput_c, eput_n, hups, List.map, ARun_nil, dropE_c, inL_n, dropE_n, hr, decide_false]) | (subst hK; repeat' (first | with_reducible refine thenQ_n ?_ | with_reducible refine blockQ_n ?_ | with_reducible refine thenQ_e ?_ | with_reducible refine blockQ_t ?_ | with_reducible refine blockQ_f (by decide) ?_))))
      refine wk_to [] [(96, 96), (8, 8), (16, 16)] (by kernel_rfl) (by kernel_rfl) (by kernel_rfl) (by kernel_rfl) (by kernel_rfl) ?_ ?_ <;> repeat' (first | exact trivial | exact vr_val _ | exact vr_list _ | exact vr_vec _ _ _ _ rfl | exact vr_ptr _ _ _ rfl | refine And.intro ⟨_, rfl, .inl ⟨_, rfl, by decide, ?_⟩⟩ ?_ | apply And.intro)
      all_goals exact vrl_flat _ (bcl_in _)
    have hse : fL (frs.length + 1) (fun m => decide (m < j + 1)) = (fL (frs.length + 1) fun m => decide (m < j)).set j true := by
      have := fL_set (n := frs.length + 1) (m := j) (F := fun m => decide (m < j)) (G := fun m => decide (m < j + 1)) (fun i hi => by simp only [decide_eq_decide]; omega)
      simpa using this
    have hlen := fL_len (frs.length + 1) fun m => decide (m < j)
    generalize (fL (frs.length + 1) fun m => decide (m < j)) = L at *
    have htk := bc_t L j true (by omega)
    rw [← hse] at htk
    have hbl := bcl_len L
    rw [hlen] at hbl
    have j0 : (0 : Int) ≤ (j : Int) := by omega
    have j1 : (j : Int) < ((frs.length + 1 : Nat) : Int) := by omega
    have j2 : j + 1 ≤ frs.length + 1 := by omega
    (have hg : (987654321 : Nat) - 987654321 = 0 := rfl; have hr := hg; repeat' (first | refine aw_seq ?_ | (refine aw_skip ?_; repeat' (first | with_reducible refine thenQ_n ?_ | with_reducible refine blockQ_n ?_ | with_reducible refine thenQ_e ?_ | with_reducible refine blockQ_t ?_ | with_reducible refine blockQ_f (by decide) ?_)) | (refine aw_exit ?_; repeat' (first | with_reducible refine thenQ_n ?_ | with_reducible refine blockQ_n ?_ | with_reducible refine thenQ_e ?_ | with_reducible refine blockQ_t ?_ | with_reducible refine blockQ_f (by decide) ?_)) | refine aw_ret ?_ | refine aw_block ?_ | refine aw_condT rfl ?_ | refine aw_condF rfl ?_ | (refine aw_cond rfl (fun hg => ?_) (fun hg => ?_) <;> (try (have hq := hg; simp only [Bool.not_eq_true', Bool.not_eq_false', Bool.and_eq_true, Bool.and_eq_false_iff, Bool.or_eq_true, Bool.or_eq_false_iff, decide_eq_true_eq, decide_eq_false_iff_not, bne_iff_ne, beq_iff_eq, beq_eq_false_iff_ne, bne_eq_false_iff_eq, ne_eq, Int.not_lt, Int.not_le, Decidable.not_not] at hq)) <;> (try (have hr := hg; simp only [decide_eq_true_eq, decide_eq_false_iff_not] at hr)) <;> (try (exfalso; omega))) | ((first | refine aw_hide fun K hK => aw_region ?_ | refine ago_if (by omega) ?_ | skip); simp (config := {maxSteps := 10000000}) (disch := first | exact okYes (by kernel_rfl) | omega) only [List.length, Nat.zero_add, Nat.mul_one, Nat.reduceAdd, dI, ARun_none, AOpRun, aexec, FSt.ev, St.F, eget_c, Nat.reduceBEq, ↓eget_h, cond_false, isSh, Bool.false_eq_true, ↓reduceIte, Option.map, abin, AGo_ok, St.app, putO, eput_c, eput_n, hups, List.map, ARun_nil, dropE_c, inL_n, dropE_n, Nat.reduceMul, hr, decide_true, inL_c, beq_self_eq_true, cond_true, j0, j1, and_self, Int.toNat_natCast, hget_c, ↓hget_h, D.isBot, D.cells, hbl, j2, List.all, D.leaf, Bool.and_true, splice, htk, hput_c, hput_n, fits]) | (subst hK; repeat' (first | with_reducible refine thenQ_n ?_ | with_reducible refine blockQ_n ?_ | with_reducible refine thenQ_e ?_ | with_reducible refine blockQ_t ?_ | with_reducible refine blockQ_f (by decide) ?_))))
    refine ⟨j + 1, by omega, by omega, ?_⟩
    refine wk_to [] [(96, 96), (8, 8), (16, 16)] (by kernel_rfl) (by kernel_rfl) (by kernel_rfl) (by kernel_rfl) (by kernel_rfl) ?_ ?_ <;> repeat' (first | exact trivial | exact vr_val _ | exact vr_list _ | exact vr_vec _ _ _ _ rfl | exact vr_ptr _ _ _ rfl | refine And.intro ⟨_, rfl, .inl ⟨_, rfl, by decide, ?_⟩⟩ ?_ | apply And.intro)
    all_goals exact vrl_flat _ (bcl_in _)
  -- the conditions
  refine aw_cut ⟨[(3, .ptr 8 0), (4, .val (.slice none 0 0)), (5, .vec 16 (frs.length + 1) 1)], [(96, tpC l frs), (8, [.list (cds cs), dI h]), (16, bcl (fL (frs.length + 1) (isJ l frs cs)))], 1600⟩ ?_ ?_
  · refine aw_seq (aw_region ?_)
    unfold tpC
    simp (config := {maxSteps := 10000000}) (disch := first | exact okYes (by kernel_rfl) | omega) only [thenQ, dI, List.length, Nat.zero_add, Nat.reduceAdd, Nat.reduceMul, ARun_none, AOpRun, aexec, FSt.ev, St.F, eget_c, Nat.reduceBEq, ↓eget_h, cond_false, AGo_ok, St.app, putO, eput_c, eput_n, hups, List.map, Option.map, run1, hget_c, ↓hget_h, List.getElem?_cons_zero, cds_len, ARun_nil, dropE_c, inL_c, inL_n, beq_self_eq_true, cond_true, dropE_n]
    refine aw_block (aw_loop (fun k : Nat => ⟨[(0, .ptr 96 0), (3, .ptr 8 0), (4, .val (.slice none 0 0)), (5, .vec 16 (frs.length + 1) 1), (34, .list (cds cs)), (35, dI cs.length), (36, dI k)], [(96, tpC l frs), (8, [.list (cds cs), dI h]), (16, bcl (fL (frs.length + 1) (aF l frs cs k)))], 1000⟩) (fun k => k ≤ cs.length) (fun k => cs.length - k) ⟨0, by omega, ?_⟩ ?_)
    · unfold tpC dI
      refine wk_to [] [(96, 96), (8, 8), (16, 16)] (by kernel_rfl) (by kernel_rfl) (by kernel_rfl) (by kernel_rfl) (by kernel_rfl) ?_ ?_ <;> repeat' (first | exact trivial | exact vr_val _ | exact vr_list _ | exact vr_vec _ _ _ _ rfl | exact vr_ptr _ _ _ rfl | refine And.intro ⟨_, rfl, .inl ⟨_, rfl, by decide, ?_⟩⟩ ?_ | apply And.intro)
      all_goals exact vrl_flat _ (bcl_in _)
    intro k hk
    unfold tpC
    by_cases hk2 : k < cs.length
    case neg =>
      obtain rfl : k = cs.length := by omega
      have e : fL (frs.length + 1) (aF l frs cs cs.length) = fL (frs.length + 1) (isJ l frs cs) := fL_eq fun j _ => aF_end l frs cs j
      rw [e]
      (have hg : (987654321 : Nat) - 987654321 = 0 := rfl; have hr := hg; repeat' (first | refine aw_seq ?_ | (refine aw_skip ?_; repeat' (first | with_reducible refine thenQ_n ?_ | with_reducible refine blockQ_n ?_ | with_reducible refine thenQ_e ?_ | with_reducible refine blockQ_t ?_ | with_reducible refine blockQ_f (by decide) ?_)) | (refine aw_exit ?_; repeat' (first | with_reducible refine thenQ_n ?_ | with_reducible refine blockQ_n ?_ | with_reducible refine thenQ_e ?_ | with_reducible refine blockQ_t ?_ | with_reducible refine blockQ_f (by decide) ?_)) | refine aw_ret ?_ | refine aw_block ?_ | refine aw_condT rfl ?_ | refine aw_condF rfl ?_ | (refine aw_cond rfl (fun hg => ?_) (fun hg => ?_) <;> (try (have hq := hg; simp only [Bool.not_eq_true', Bool.not_eq_false', Bool.and_eq_true, Bool.and_eq_false_iff, Bool.or_eq_true, Bool.or_eq_false_iff, decide_eq_true_eq, decide_eq_false_iff_not, bne_iff_ne, beq_iff_eq, beq_eq_false_iff_ne, bne_eq_false_iff_eq, ne_eq, Int.not_lt, Int.not_le, Decidable.not_not] at hq)) <;> (try (have hr := hg; simp only [decide_eq_true_eq, decide_eq_false_iff_not] at hr)) <;> (try (exfalso; omega))) | ((first | refine aw_hide fun K hK => aw_region ?_ | refine ago_if (by omega) ?_ | skip); simp (config := {maxSteps := 10000000}) (disch := first | exact okYes (by kernel_rfl) | omega) only [List.length, Nat.zero_add, Nat.reduceMul, Nat.reduceAdd, dI, ARun_none, AOpRun, aexec, FSt.ev, St.F, eget_c, Nat.reduceBEq, ↓eget_h, cond_false, isSh, Bool.false_eq_true, ↓reduceIte, Option.map, abin, AGo_ok, St.app, putO, eput_c, eput_n, hups, List.map, ARun_nil, dropE_c, inL_n, dropE_n, hr, decide_false]) | (subst hK; repeat' (first | with_reducible refine thenQ_n ?_ | with_reducible refine blockQ_n ?_ | with_reducible refine thenQ_e ?_ | with_reducible refine blockQ_t ?_ | with_reducible refine blockQ_f (by decide) ?_))))
      refine wk_to [] [(96, 96), (8, 8), (16, 16)] (by kernel_rfl) (by kernel_rfl) (by kernel_rfl) (by kernel_rfl) (by kernel_rfl) ?_ ?_ <;> repeat' (first | exact trivial | exact vr_val _ | exact vr_list _ | exact vr_vec _ _ _ _ rfl | exact vr_ptr _ _ _ rfl | refine And.intro ⟨_, rfl, .inl ⟨_, rfl, by decide, ?_⟩⟩ ?_ | apply And.intro)
      all_goals exact vrl_flat _ (bcl_in _)
    have g1 := cds_gd cs k hk2
    have hcb : cdB l (cs[k]?.getD cd0) = true := by
      rw [List.getElem?_eq_getElem hk2]
      exact List.all_eq_true.1 hc2 _ (List.getElem_mem hk2)
    have ht := htape _ hcb
    have hak := allK_succ (l := l) (frs := frs) hk2
    have hfev : 1 ≤ (fOf l (cs[k]?.getD cd0)).every := by
      unfold cdB at hcb
      rw [Bool.and_eq_true] at hcb
      have := wI_t hcb.1
      have := (h1.fo (cs[k]?.getD cd0).field.toNat (by omega)).ev
      show 1 ≤ (fAt l (cs[k]?.getD cd0).field.toNat).every
      rcases this with h | h | h <;> (unfold fAt; omega)
    have hgj : ∀ j, j < frs.length → (bools (hL l frs (cs[k]?.getD cd0) (fOf l (cs[k]?.getD cd0)) frs.length frs.length))[j]? = some [dB (holdJ l frs (cs[k]?.getD cd0) (fOf l (cs[k]?.getD cd0)) j)] := fun j hj => by
      rw [bools_gd _ j (by rw [hL_len]; exact hj)]
      have : (hL l frs (cs[k]?.getD cd0) (fOf l (cs[k]?.getD cd0)) frs.length frs.length)[j]?.getD false = hAt l frs (cs[k]?.getD cd0) (fOf l (cs[k]?.getD cd0)) frs.length j := by simp [hL, hj]
      rw [this, hAt_hold hfev hj]
    have hbl0 : (bools (hL l frs (cs[k]?.getD cd0) (fOf l (cs[k]?.getD cd0)) frs.length frs.length)).length = frs.length := by rw [bools_len, hL_len]
    have hba := bools_all (hL l frs (cs[k]?.getD cd0) (fOf l (cs[k]?.getD cd0)) frs.length frs.length)
    generalize bools (hL l frs (cs[k]?.getD cd0) (fOf l (cs[k]?.getD cd0)) frs.length frs.length) = B at *
    generalize holdJ l frs (cs[k]?.getD cd0) (fOf l (cs[k]?.getD cd0)) = hj at *
    unfold cdC at g1 ht
    generalize cs[k]?.getD cd0 = c at *
    have ki : (k : Int) < (cs.length : Int) := by omega
    refine aw_seq (aw_region ?_)
    simp (config := {maxSteps := 10000000}) (disch := first | exact okYes (by kernel_rfl) | omega) only [thenQ, dI, List.length, Nat.zero_add, Nat.reduceMul, Nat.reduceAdd, ARun_none, AOpRun, aexec, FSt.ev, St.F, eget_c, Nat.reduceBEq, ↓eget_h, cond_false, isSh, Bool.false_eq_true, ↓reduceIte, Option.map, abin, ki, decide_true, AGo_ok, St.app, putO, eput_c, eput_n, hups, List.map, ARun_nil, dropE_c, inL_n, dropE_n]
    refine aw_seq (aw_condT rfl (aw_skip ?_))
    refine aw_seq (aw_block (aw_seq (aw_region ?_)))
    simp (config := {maxSteps := 10000000}) (disch := first | exact okYes (by kernel_rfl) | omega) only [thenQ, List.length, Nat.zero_add, Nat.reduceAdd, Nat.reduceMul, ARun_none, AOpRun, aexec, FSt.ev, St.F, eget_c, Nat.reduceBEq, ↓eget_h, cond_false, Int.natCast_nonneg, cds_all, and_self, ↓reduceIte, opt1, Option.map, Int.toNat_natCast, g1, dI, dB, AGo_ok, St.app, putO, eput_c, eput_n, hups, List.map, Nat.reduceLeDiff, List.take, Option.isSome, hget_c, hget_n, Bool.false_eq_true, hput_c, hput_n, ↓hget_h, D.isBot, D.cells, List.all, D.leaf, Bool.and_true, splice, List.nil_append, List.drop, List.append_nil, beq_self_eq_true, cond_true, ARun_nil, dropE_c, inL_c, inL_n, dropE_n]
    refine aw_seq (aw_region ?_)
    simp (config := {maxSteps := 10000000}) (disch := first | exact okYes (by kernel_rfl) | omega) only [thenQ, List.length, Nat.zero_add, Nat.reduceAdd, Nat.reduceMul, ARun_none, AOpRun, aexec, FSt.ev, St.F, ↓eget_h, AGo_ok, St.app, putO, eput_c, Nat.reduceBEq, eput_n, cond_false, hups, List.map, eget_c, hget_c, ↓hget_h, Nat.reduceLeDiff, ↓reduceIte, List.drop, List.take]
    refine acallB ht (by repeat' (first | exact trivial | exact rfl | refine And.intro ?_ ?_)) (by kernel_rfl) (by kernel_rfl) (by kernel_rfl) ?_
    simp (config := {maxSteps := 10000000}) (disch := first | exact okYes (by kernel_rfl) | omega) only [Nat.reduceAdd, St.app, putO, eput_c, Nat.reduceBEq, eput_n, cond_false, hups, dI, hput_c, beq_self_eq_true, hput_n, cond_true, List.map, List.append_nil, ARun_none, AOpRun, aexec, FSt.ev, St.F, eget_c, ↓eget_h, hbl0, AGo_ok, ARun_nil, dropE_c, inL_c, inL_n, dropE_n]
    refine aw_block (aw_loop (fun m : Nat => ⟨[(0, .ptr 96 0), (3, .ptr 8 0), (4, .val (.slice none 0 0)), (5, .vec 16 (frs.length + 1) 1), (34, .list (cds cs)), (35, dI cs.length), (36, dI k), (42, .list B), (43, dI frs.length), (44, dI m)], [(96, tpC l frs), (8, [.list (cds cs), dI h]), (16, bcl (fL (frs.length + 1) (xF l frs cs k m)))], 1300⟩) (fun m => m ≤ frs.length) (fun m => frs.length - m) ⟨0, by omega, ?_⟩ ?_)
    · have e : fL (frs.length + 1) (xF l frs cs k 0) = fL (frs.length + 1) (aF l frs cs k) := fL_eq fun j _ => by simp [xF]
      rw [e]
      unfold tpC dI
      refine wk_to [] [(96, 96), (8, 8), (16, 16)] (by kernel_rfl) (by kernel_rfl) (by kernel_rfl) (by kernel_rfl) (by kernel_rfl) ?_ ?_ <;> repeat' (first | exact trivial | exact vr_val _ | exact vr_list _ | exact vr_vec _ _ _ _ rfl | exact vr_ptr _ _ _ rfl | refine And.intro ⟨_, rfl, .inl ⟨_, rfl, by decide, ?_⟩⟩ ?_ | apply And.intro)
      all_goals exact vrl_flat _ (bcl_in _)
    intro m hm
    unfold tpC
    by_cases hm2 : m < frs.length
    case neg =>
      obtain rfl : m = frs.length := by omega
      have e : fL (frs.length + 1) (xF l frs cs k frs.length) = fL (frs.length + 1) (aF l frs cs (k + 1)) := fL_eq fun j hj => by
        unfold xF
        split
        · rfl
        · unfold aF; rw [decide_eq_false (by omega)]; rfl
      rw [e]
      (have hg : (987654321 : Nat) - 987654321 = 0 := rfl; have hr := hg; repeat' (first | refine aw_seq ?_ | (refine aw_skip ?_; repeat' (first | with_reducible refine thenQ_n ?_ | with_reducible refine blockQ_n ?_ | with_reducible refine thenQ_e ?_ | with_reducible refine blockQ_t ?_ | with_reducible refine blockQ_f (by decide) ?_)) | (refine aw_exit ?_; repeat' (first | with_reducible refine thenQ_n ?_ | with_reducible refine blockQ_n ?_ | with_reducible refine thenQ_e ?_ | with_reducible refine blockQ_t ?_ | with_reducible refine blockQ_f (by decide) ?_)) | refine aw_ret ?_ | refine aw_block ?_ | refine aw_condT rfl ?_ | refine aw_condF rfl ?_ | (refine aw_cond rfl (fun hg => ?_) (fun hg => ?_) <;> (try (have hq := hg; simp only [Bool.not_eq_true', Bool.not_eq_false', Bool.and_eq_true, Bool.and_eq_false_iff, Bool.or_eq_true, Bool.or_eq_false_iff, decide_eq_true_eq, decide_eq_false_iff_not, bne_iff_ne, beq_iff_eq, beq_eq_false_iff_ne, bne_eq_false_iff_eq, ne_eq, Int.not_lt, Int.not_le, Decidable.not_not] at hq)) <;> (try (have hr := hg; simp only [decide_eq_true_eq, decide_eq_false_iff_not] at hr)) <;> (try (exfalso; omega))) | ((first | refine aw_hide fun K hK => aw_region ?_ | refine ago_if (by omega) ?_ | skip); simp (config := {maxSteps := 10000000}) (disch := first | exact okYes (by kernel_rfl) | omega) only [List.length, Nat.zero_add, Nat.reduceMul, Nat.reduceAdd, dI, ARun_none, AOpRun, aexec, FSt.ev, St.F, eget_c, Nat.reduceBEq, ↓eget_h, cond_false, isSh, Bool.false_eq_true, ↓reduceIte, Option.map, abin, AGo_ok, St.app, putO, eput_c, eput_n, hups, List.map, ARun_nil, dropE_c, inL_n, dropE_n, hr, decide_false, fits, beq_self_eq_true, cond_true, inL_c]) | (subst hK; repeat' (first | with_reducible refine thenQ_n ?_ | with_reducible refine blockQ_n ?_ | with_reducible refine thenQ_e ?_ | with_reducible refine blockQ_t ?_ | with_reducible refine blockQ_f (by decide) ?_))))
      refine ⟨k + 1, by omega, by omega, ?_⟩
      refine wk_to [] [(96, 96), (8, 8), (16, 16)] (by kernel_rfl) (by kernel_rfl) (by kernel_rfl) (by kernel_rfl) (by kernel_rfl) ?_ ?_ <;> repeat' (first | exact trivial | exact vr_val _ | exact vr_list _ | exact vr_vec _ _ _ _ rfl | exact vr_ptr _ _ _ rfl | refine And.intro ⟨_, rfl, .inl ⟨_, rfl, by decide, ?_⟩⟩ ?_ | apply And.intro)
      all_goals exact vrl_flat _ (bcl_in _)
    have gB := hgj m hm2
    have hval : xF l frs cs k (m + 1) m = (xF l frs cs k m m && hj m) := by
      unfold xF
      rw [if_pos (by omega), if_neg (by omega)]
      unfold aF
      rw [hak m, Bool.and_assoc]
    have hse : fL (frs.length + 1) (xF l frs cs k (m + 1)) = (fL (frs.length + 1) (xF l frs cs k m)).set m (xF l frs cs k m m && hj m) := by
      rw [← hval]
      exact fL_set fun j hne => by
        unfold xF
        by_cases h3 : j < m
        · rw [if_pos h3, if_pos (by omega)]
        · rw [if_neg h3, if_neg (by omega)]
    have hlen := fL_len (frs.length + 1) (xF l frs cs k m)
    have hgm := bc_gd (fL (frs.length + 1) (xF l frs cs k m)) m (by omega)
    rw [fL_get _ (by omega : m < frs.length + 1)] at hgm
    generalize xF l frs cs k m m = a at *
    generalize fL (frs.length + 1) (xF l frs cs k m) = L at *
    have htk := bc_t L m (a && hj m) (by omega)
    rw [← hse] at htk
    have hbl := bcl_len L
    rw [hlen] at hbl
    have j0 : (0 : Int) ≤ (m : Int) := by omega
    have j1 : (m : Int) < ((frs.length + 1 : Nat) : Int) := by omega
    have j2 : m + 1 ≤ frs.length + 1 := by omega
    have j3 : (m : Int) < (frs.length : Int) := by omega
    generalize hj m = b at *
    cases a with
    | true =>
      rw [Bool.true_and] at htk
      (have hg : (987654321 : Nat) - 987654321 = 0 := rfl; have hr := hg; repeat' (first | refine aw_seq ?_ | (refine aw_skip ?_; repeat' (first | with_reducible refine thenQ_n ?_ | with_reducible refine blockQ_n ?_ | with_reducible refine thenQ_e ?_ | with_reducible refine blockQ_t ?_ | with_reducible refine blockQ_f (by decide) ?_)) | (refine aw_exit ?_; repeat' (first | with_reducible refine thenQ_n ?_ | with_reducible refine blockQ_n ?_ | with_reducible refine thenQ_e ?_ | with_reducible refine blockQ_t ?_ | with_reducible refine blockQ_f (by decide) ?_)) | refine aw_ret ?_ | refine aw_block ?_ | refine aw_condT rfl ?_ | refine aw_condF rfl ?_ | ((first | refine aw_hide fun K hK => aw_region ?_ | refine ago_if (by omega) ?_ | skip); simp (config := {maxSteps := 10000000}) (disch := first | exact okYes (by kernel_rfl) | omega) only [List.length, Nat.zero_add, Nat.mul_one, Nat.reduceAdd, dI, ARun_none, AOpRun, aexec, FSt.ev, St.F, eget_c, Nat.reduceBEq, ↓eget_h, cond_false, isSh, Bool.false_eq_true, ↓reduceIte, Option.map, abin, j3, decide_true, AGo_ok, St.app, putO, eput_c, eput_n, hups, List.map, ARun_nil, dropE_c, inL_n, dropE_n, Nat.reduceMul, j0, hba, and_self, opt1, Int.toNat_natCast, gB, dB, run1, List.getElem?_cons_zero, inL_c, beq_self_eq_true, cond_true, j1, hget_c, ↓hget_h, Nat.add_zero, hgm, ARun_some, AG_tt, D.isBot, D.cells, hbl, j2, List.all, D.leaf, Bool.and_true, splice, htk, hput_c, hput_n, fits]) | (subst hK; repeat' (first | with_reducible refine thenQ_n ?_ | with_reducible refine blockQ_n ?_ | with_reducible refine thenQ_e ?_ | with_reducible refine blockQ_t ?_ | with_reducible refine blockQ_f (by decide) ?_))))
      refine ⟨m + 1, by omega, by omega, ?_⟩
      refine wk_to [] [(96, 96), (8, 8), (16, 16)] (by kernel_rfl) (by kernel_rfl) (by kernel_rfl) (by kernel_rfl) (by kernel_rfl) ?_ ?_ <;> repeat' (first | exact trivial | exact vr_val _ | exact vr_list _ | exact vr_vec _ _ _ _ rfl | exact vr_ptr _ _ _ rfl | refine And.intro ⟨_, rfl, .inl ⟨_, rfl, by decide, ?_⟩⟩ ?_ | apply And.intro)
      all_goals exact vrl_flat _ (bcl_in _)
    | false =>
      rw [Bool.false_and] at htk
      (have hg : (987654321 : Nat) - 987654321 = 0 := rfl; have hr := hg; repeat' (first | refine aw_seq ?_ | (refine aw_skip ?_; repeat' (first | with_reducible refine thenQ_n ?_ | with_reducible refine blockQ_n ?_ | with_reducible refine thenQ_e ?_ | with_reducible refine blockQ_t ?_ | with_reducible refine blockQ_f (by decide) ?_)) | (refine aw_exit ?_; repeat' (first | with_reducible refine thenQ_n ?_ | with_reducible refine blockQ_n ?_ | with_reducible refine thenQ_e ?_ | with_reducible refine blockQ_t ?_ | with_reducible refine blockQ_f (by decide) ?_)) | refine aw_ret ?_ | refine aw_block ?_ | refine aw_condT rfl ?_ | refine aw_condF rfl ?_ | ((first | refine aw_hide fun K hK => aw_region ?_ | refine ago_if (by omega) ?_ | skip); simp (config := {maxSteps := 10000000}) (disch := first | exact okYes (by kernel_rfl) | omega) only [List.length, Nat.zero_add, Nat.mul_one, Nat.reduceAdd, dI, ARun_none, AOpRun, aexec, FSt.ev, St.F, eget_c, Nat.reduceBEq, ↓eget_h, cond_false, isSh, Bool.false_eq_true, ↓reduceIte, Option.map, abin, j3, decide_true, AGo_ok, St.app, putO, eput_c, eput_n, hups, List.map, ARun_nil, dropE_c, inL_n, dropE_n, Nat.reduceMul, j0, hba, and_self, opt1, Int.toNat_natCast, gB, dB, run1, List.getElem?_cons_zero, inL_c, beq_self_eq_true, cond_true, j1, hget_c, ↓hget_h, Nat.add_zero, hgm, ARun_some, AG_ft, D.isBot, D.cells, hbl, j2, List.all, D.leaf, Bool.and_true, splice, htk, hput_c, hput_n, fits]) | (subst hK; repeat' (first | with_reducible refine thenQ_n ?_ | with_reducible refine blockQ_n ?_ | with_reducible refine thenQ_e ?_ | with_reducible refine blockQ_t ?_ | with_reducible refine blockQ_f (by decide) ?_))))
      refine ⟨m + 1, by omega, by omega, ?_⟩
      refine wk_to [] [(96, 96), (8, 8), (16, 16)] (by kernel_rfl) (by kernel_rfl) (by kernel_rfl) (by kernel_rfl) (by kernel_rfl) ?_ ?_ <;> repeat' (first | exact trivial | exact vr_val _ | exact vr_list _ | exact vr_vec _ _ _ _ rfl | exact vr_ptr _ _ _ rfl | refine And.intro ⟨_, rfl, .inl ⟨_, rfl, by decide, ?_⟩⟩ ?_ | apply And.intro)
      all_goals exact vrl_flat _ (bcl_in _)
  -- the stretches
  generalize isJ l frs cs = is at *
  unfold tpC
  refine aw_seq (aw_region ?_)
  simp (config := {maxSteps := 10000000}) (disch := first | exact okYes (by kernel_rfl) | omega) only [thenQ, List.length, Nat.zero_add, Nat.reduceMul, Nat.reduceAdd, dI, ARun_none, AOpRun, aexec, FSt.ev, AGo_ok, St.app, putO, eput_c, Nat.reduceBEq, eput_n, cond_false, hups, List.map, ARun_nil, dropE_c, inL_n, dropE_n]
  refine aw_seq (aw_seq (aw_region ?_))
  simp (config := {maxSteps := 10000000}) (disch := first | exact okYes (by kernel_rfl) | omega) only [thenQ, List.length, Nat.zero_add, Nat.reduceAdd, Nat.reduceMul, ARun_none, AOpRun, aexec, FSt.ev, St.F, eget_c, Nat.reduceBEq, ↓eget_h, cond_false, AGo_ok, St.app, putO, eput_c, eput_n, hups, List.map, ARun_nil, dropE_c, inL_n, dropE_n]
  have hbd := evK_bd is h
  refine aw_block (aw_loop (fun i : Nat => ⟨[(3, .ptr 8 0), (4, .vec 24 (evK is h i).2.length 2), (11, dI (evK is h i).1), (61, .vec 16 (frs.length + 1) 1), (62, dI ((frs.length + 1 : Nat) : Int)), (63, dI i)], [(96, tpC l frs), (8, [.list (cds cs), dI h]), (16, bcl (fL (frs.length + 1) is)), (24, scells (evK is h i).2)], 2000⟩) (fun i => i ≤ frs.length + 1) (fun i => frs.length + 1 - i) ⟨0, by omega, ?_⟩ ?_)
  · show Wk _ _ ⟨[_, (4, .vec 24 0 2), (11, dI 0), _, _, _], [_, _, _, (24, [])], _⟩
    unfold tpC dI
    refine wk_to [] [(96, 96), (8, 8), (16, 16), (24, 2900)] (by kernel_rfl) (by kernel_rfl) (by kernel_rfl) (by kernel_rfl) (by kernel_rfl) ?_ ?_ <;> repeat' (first | exact trivial | exact vr_val _ | exact vr_list _ | exact vr_vec _ _ _ _ rfl | exact vr_ptr _ _ _ rfl | exact vr_nilv _ _ _ rfl | refine And.intro ⟨_, rfl, .inl ⟨_, rfl, by decide, ?_⟩⟩ ?_ | refine And.intro ⟨_, rfl, .inr ⟨rfl, rfl, of_decide_eq_true (by kernel_rfl)⟩⟩ ?_ | apply And.intro)
    all_goals exact vrl_flat _ (bcl_in _)
  intro i hi
  unfold tpC
  have hb := hbd i
  by_cases hi2 : i < frs.length + 1
  case neg =>
    obtain rfl : i = frs.length + 1 := by omega
    have q : decide (((frs.length + 1 : Nat) : Int) < ((frs.length + 1 : Nat) : Int)) = false := decide_eq_false (by omega)
    generalize (evK is h (frs.length + 1)).2 = L at *
    (have hg : (987654321 : Nat) - 987654321 = 0 := rfl; have hr := hg; repeat' (first | refine aw_seq ?_ | (refine aw_skip ?_; repeat' (first | with_reducible refine thenQ_n ?_ | with_reducible refine blockQ_n ?_ | with_reducible refine thenQ_e ?_ | with_reducible refine blockQ_t ?_ | with_reducible refine blockQ_f (by decide) ?_)) | (refine aw_exit ?_; repeat' (first | with_reducible refine thenQ_n ?_ | with_reducible refine blockQ_n ?_ | with_reducible refine thenQ_e ?_ | with_reducible refine blockQ_t ?_ | with_reducible refine blockQ_f (by decide) ?_)) | refine aw_ret ?_ | refine aw_block ?_ | refine aw_condT rfl ?_ | refine aw_condF rfl ?_ | ((first | refine aw_hide fun K hK => aw_region ?_ | refine ago_if (by omega) ?_ | skip); simp (config := {maxSteps := 10000000}) (disch := first | exact okYes (by kernel_rfl) | omega) only [List.length, Nat.zero_add, Nat.reduceMul, Nat.reduceAdd, dI, ARun_none, AOpRun, aexec, FSt.ev, St.F, eget_c, Nat.reduceBEq, ↓eget_h, cond_false, isSh, Bool.false_eq_true, ↓reduceIte, Option.map, abin, q, AGo_ok, St.app, putO, eput_c, eput_n, hups, List.map, ARun_nil, dropE_c, inL_n, dropE_n, beq_self_eq_true, cond_true, inL_c]) | (subst hK; repeat' (first | with_reducible refine thenQ_n ?_ | with_reducible refine blockQ_n ?_ | with_reducible refine thenQ_e ?_ | with_reducible refine blockQ_t ?_ | with_reducible refine blockQ_f (by decide) ?_))))
    refine end_to [24] [(96, 96)] (by first | exact .inl rfl | exact .inr rfl) rfl (by kernel_rfl) (by kernel_rfl) (by kernel_rfl) ?_ ?_ <;> repeat' (first | exact trivial | exact vr_val _ | exact vr_list _ | refine vr_fl _ _ _ _ _ (by decide) rfl ?_ ?_ ?_ ?_ | refine And.intro ⟨_, rfl, _, rfl, by decide, ?_⟩ ?_ | apply And.intro)
    all_goals first | exact sps_two _ | exact sps_len _ | exact sps_flat _ | exact scells_in _
  have hbl : (bcl (fL (frs.length + 1) is)).length = frs.length + 1 := by rw [bcl_len, fL_len]
  have hgi := bc_gd (fL (frs.length + 1) is) i (by rw [fL_len]; exact hi2)
  rw [fL_get _ hi2] at hgi
  have j0 : (0 : Int) ≤ (i : Int) := by omega
  have j1 : (i : Int) < ((frs.length + 1 : Nat) : Int) := by omega
  have q0 : decide ((i : Int) < ((frs.length + 1 : Nat) : Int)) = true := decide_eq_true j1
  have ei := ev_in is h i
  have ei1 := ev_in1 is h i
  have eo := ev_out is h i
  have eo1 := ev_out1 is h i
  cases hv : is i with
  | true =>
    rw [hv] at hgi
    have a1 := ei hv
    have a2 := ei1 hv
    (have hg : (987654321 : Nat) - 987654321 = 0 := rfl; have hr := hg; repeat' (first | refine aw_seq ?_ | (refine aw_skip ?_; repeat' (first | with_reducible refine thenQ_n ?_ | with_reducible refine blockQ_n ?_ | with_reducible refine thenQ_e ?_ | with_reducible refine blockQ_t ?_ | with_reducible refine blockQ_f (by decide) ?_)) | (refine aw_exit ?_; repeat' (first | with_reducible refine thenQ_n ?_ | with_reducible refine blockQ_n ?_ | with_reducible refine thenQ_e ?_ | with_reducible refine blockQ_t ?_ | with_reducible refine blockQ_f (by decide) ?_)) | refine aw_ret ?_ | refine aw_block ?_ | refine aw_condT rfl ?_ | refine aw_condF rfl ?_ | ((first | refine aw_hide fun K hK => aw_region ?_ | refine ago_if (by omega) ?_ | skip); simp (config := {maxSteps := 10000000}) (disch := first | exact okYes (by kernel_rfl) | omega) only [List.length, Nat.zero_add, Nat.mul_one, Nat.reduceAdd, dI, ARun_none, AOpRun, aexec, FSt.ev, St.F, eget_c, Nat.reduceBEq, ↓eget_h, cond_false, isSh, Bool.false_eq_true, ↓reduceIte, Option.map, abin, j1, decide_true, AGo_ok, St.app, putO, eput_c, eput_n, hups, List.map, ARun_nil, dropE_c, inL_n, dropE_n, Nat.reduceMul, j0, and_self, Int.toNat_natCast, run1, hget_c, ↓hget_h, Nat.add_zero, hgi, inL_c, beq_self_eq_true, cond_true, fits]) | (subst hK; repeat' (first | with_reducible refine thenQ_n ?_ | with_reducible refine blockQ_n ?_ | with_reducible refine thenQ_e ?_ | with_reducible refine blockQ_t ?_ | with_reducible refine blockQ_f (by decide) ?_))))
    refine ⟨i + 1, by omega, by omega, ?_⟩
    rw [a1, a2]
    refine wk_to [] [(96, 96), (8, 8), (16, 16), (24, 24)] (by kernel_rfl) (by kernel_rfl) (by kernel_rfl) (by kernel_rfl) (by kernel_rfl) ?_ ?_ <;> repeat' (first | exact trivial | exact vr_val _ | exact vr_list _ | exact vr_vec _ _ _ _ rfl | exact vr_ptr _ _ _ rfl | refine And.intro ⟨_, rfl, .inl ⟨_, rfl, by decide, ?_⟩⟩ ?_ | apply And.intro | exact vrl_flat _ (by first | exact icells_in _ | exact rcells_in _ | exact scells_in _ | exact bcells_in _ | assumption) | fail)
    all_goals exact vrl_flat _ (bcl_in _)
  | false =>
    rw [hv] at hgi
    have a1 := eo hv
    have a2 := eo1 hv
    generalize hst : evK is h i = P at *
    obtain ⟨f0, L⟩ := P
    simp only at hb a1
    have e1 : IntKind.i64.wrap ((i : Int) - f0) = (i : Int) - f0 := wrap_in (by omega) (by omega)
    have e2 : IntKind.i64.wrap ((i : Int) - 1) = (i : Int) - 1 := wrap_in (by omega) (by omega)
    by_cases hge : (i : Int) - f0 ≥ h
    · have q1 : decide ((i : Int) - f0 ≥ h) = true := decide_eq_true hge
      rw [if_pos hge] at a1
      have hic : (scells L).length = L.length * 2 := scells_len _
      have hit : (scells L).take (L.length * 2) = scells L := sc_all L
      have hcin : ∀ y ∈ scells L ++ [.val (.int .i64 f0), .val (.int .i64 ((i : Int) - 1))], In (fun _ => False) y := by rw [sc_snoc L (f0, (i : Int) - 1)]; exact scells_in _
      have hlen : (L ++ [(f0, (i : Int) - 1)]).length = L.length + 1 := by simp
      (have hg : (987654321 : Nat) - 987654321 = 0 := rfl; have hr := hg; repeat' (first | refine aw_seq ?_ | (refine aw_skip ?_; repeat' (first | with_reducible refine thenQ_n ?_ | with_reducible refine blockQ_n ?_ | with_reducible refine thenQ_e ?_ | with_reducible refine blockQ_t ?_ | with_reducible refine blockQ_f (by decide) ?_)) | (refine aw_exit ?_; repeat' (first | with_reducible refine thenQ_n ?_ | with_reducible refine blockQ_n ?_ | with_reducible refine thenQ_e ?_ | with_reducible refine blockQ_t ?_ | with_reducible refine blockQ_f (by decide) ?_)) | refine aw_ret ?_ | refine aw_block ?_ | refine aw_condT rfl ?_ | refine aw_condF rfl ?_ | ((first | refine aw_hide fun K hK => aw_region ?_ | refine ago_if (by omega) ?_ | skip); simp (config := {maxSteps := 10000000}) (disch := first | exact okYes (by kernel_rfl) | omega) only [List.length, Nat.zero_add, Nat.mul_one, Nat.reduceAdd, dI, ARun_none, AOpRun, aexec, FSt.ev, St.F, eget_c, Nat.reduceBEq, ↓eget_h, cond_false, isSh, Bool.false_eq_true, ↓reduceIte, Option.map, abin, j1, decide_true, AGo_ok, St.app, putO, eput_c, eput_n, hups, List.map, ARun_nil, dropE_c, inL_n, dropE_n, Nat.reduceMul, j0, and_self, Int.toNat_natCast, run1, hget_c, ↓hget_h, Nat.add_zero, hgi, inL_c, beq_self_eq_true, cond_true, e1, List.getElem?_cons_succ, List.getElem?_cons_zero, q1, e2, fillD, D.isBot, D.cells, ne_eq, not_true_eq_false, Nat.reduceGT, or_self, splice, List.take, List.nil_append, List.drop, List.cons_append, List.append_nil, Option.isSome, hget_n, hput_c, hput_n, base, hic, Nat.le_refl, hit, elems, List.all, D.leaf, Bool.and_true, and_true, ups, hdel_c, hdel_n, fits]) | (subst hK; repeat' (first | with_reducible refine thenQ_n ?_ | with_reducible refine blockQ_n ?_ | with_reducible refine thenQ_e ?_ | with_reducible refine blockQ_t ?_ | with_reducible refine blockQ_f (by decide) ?_))))
      refine ⟨i + 1, by omega, by omega, ?_⟩
      rw [a1, a2, hlen, ← sc_snoc L (f0, (i : Int) - 1)]
      refine wk_to [] [(96, 96), (8, 8), (16, 16), (24, 2152)] (by kernel_rfl) (by kernel_rfl) (by kernel_rfl) (by kernel_rfl) (by kernel_rfl) ?_ ?_ <;> repeat' (first | exact trivial | exact vr_val _ | exact vr_list _ | exact vr_vec _ _ _ _ rfl | exact vr_ptr _ _ _ rfl | refine And.intro ⟨_, rfl, .inl ⟨_, rfl, by decide, ?_⟩⟩ ?_ | apply And.intro | exact vrl_flat _ (by first | exact icells_in _ | exact rcells_in _ | exact scells_in _ | exact bcells_in _ | assumption) | fail)
      all_goals first | exact vrl_flat _ (bcl_in _) | assumption
    · have q1 : decide ((i : Int) - f0 ≥ h) = false := decide_eq_false hge
      rw [if_neg hge] at a1
      (have hg : (987654321 : Nat) - 987654321 = 0 := rfl; have hr := hg; repeat' (first | refine aw_seq ?_ | (refine aw_skip ?_; repeat' (first | with_reducible refine thenQ_n ?_ | with_reducible refine blockQ_n ?_ | with_reducible refine thenQ_e ?_ | with_reducible refine blockQ_t ?_ | with_reducible refine blockQ_f (by decide) ?_)) | (refine aw_exit ?_; repeat' (first | with_reducible refine thenQ_n ?_ | with_reducible refine blockQ_n ?_ | with_reducible refine thenQ_e ?_ | with_reducible refine blockQ_t ?_ | with_reducible refine blockQ_f (by decide) ?_)) | refine aw_ret ?_ | refine aw_block ?_ | refine aw_condT rfl ?_ | refine aw_condF rfl ?_ | ((first | refine aw_hide fun K hK => aw_region ?_ | refine ago_if (by omega) ?_ | skip); simp (config := {maxSteps := 10000000}) (disch := first | exact okYes (by kernel_rfl) | omega) only [List.length, Nat.zero_add, Nat.mul_one, Nat.reduceAdd, dI, ARun_none, AOpRun, aexec, FSt.ev, St.F, eget_c, Nat.reduceBEq, ↓eget_h, cond_false, isSh, Bool.false_eq_true, ↓reduceIte, Option.map, abin, j1, decide_true, AGo_ok, St.app, putO, eput_c, eput_n, hups, List.map, ARun_nil, dropE_c, inL_n, dropE_n, Nat.reduceMul, j0, and_self, Int.toNat_natCast, run1, hget_c, ↓hget_h, Nat.add_zero, hgi, inL_c, beq_self_eq_true, cond_true, e1, List.getElem?_cons_succ, List.getElem?_cons_zero, q1, fits]) | (subst hK; repeat' (first | with_reducible refine thenQ_n ?_ | with_reducible refine blockQ_n ?_ | with_reducible refine thenQ_e ?_ | with_reducible refine blockQ_t ?_ | with_reducible refine blockQ_f (by decide) ?_))))
      refine ⟨i + 1, by omega, by omega, ?_⟩
      rw [a1, a2]
      refine wk_to [] [(96, 96), (8, 8), (16, 16), (24, 24)] (by kernel_rfl) (by kernel_rfl) (by kernel_rfl) (by kernel_rfl) (by kernel_rfl) ?_ ?_ <;> repeat' (first | exact trivial | exact vr_val _ | exact vr_list _ | exact vr_vec _ _ _ _ rfl | exact vr_ptr _ _ _ rfl | refine And.intro ⟨_, rfl, .inl ⟨_, rfl, by decide, ?_⟩⟩ ?_ | apply And.intro | exact vrl_flat _ (by first | exact icells_in _ | exact rcells_in _ | exact scells_in _ | exact bcells_in _ | assumption) | fail)
      all_goals exact vrl_flat _ (bcl_in _)
end Go.Proofs.Ytdcodicoclecnaa
