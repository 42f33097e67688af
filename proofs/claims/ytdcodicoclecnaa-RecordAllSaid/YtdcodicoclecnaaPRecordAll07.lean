/- Texts of the law RecordAll, part 7. No conditions. -/
import Derived.Test.YtdcodicoclecnaaPRecordAll06
import Derived.Test.YtdcodicoclecnaaRows
set_option linter.unusedSimpArgs false
set_option linter.unusedVariables false
/- record: the events of a tape (views last). No conditions. -/
namespace Go.Proofs.Ytdcodicoclecnaa
open Go Go.RowKit Lift

def fL (n : Nat) (F : Nat → Bool) : List Bool := (List.range n).map F
theorem fL_len (n : Nat) (F : Nat → Bool) : (fL n F).length = n := by simp [fL]
theorem fL_get {n j : Nat} (F : Nat → Bool) (h : j < n) : (fL n F)[j]?.getD false = F j := by simp [fL, h]
theorem fL_set {n m : Nat} {F G : Nat → Bool} (hG : ∀ j, j ≠ m → G j = F j) : fL n G = (fL n F).set m (G m) := by
  unfold fL
  refine List.ext_getElem (by simp) fun j h1 h2 => ?_
  rw [List.getElem_set]
  simp only [List.getElem_map, List.getElem_range]
  by_cases e : m = j
  · subst e; rw [if_pos rfl]
  · rw [if_neg e]; exact hG j (Ne.symm e)
theorem fL_eq {n : Nat} {F G : Nat → Bool} (h : ∀ j, j < n → F j = G j) : fL n F = fL n G := List.map_congr_left fun j hj => h j (List.mem_range.1 hj)
theorem fL_rep (n : Nat) : List.replicate n false = fL n fun _ => false := by
  refine List.ext_getElem (by simp [fL]) fun j h1 h2 => by simp [fL]
def aF (l : Lay) (frs : List (List Int)) (cs : List Cd) (k j : Nat) : Bool := decide (j < frs.length) && allK l frs cs k j
def xF (l : Lay) (frs : List (List Int)) (cs : List Cd) (k m j : Nat) : Bool := if j < m then aF l frs cs (k + 1) j else aF l frs cs k j
theorem allK_succ {l : Lay} {frs : List (List Int)} {cs : List Cd} {k : Nat} (hk : k < cs.length) (j : Nat) : allK l frs cs (k + 1) j = (allK l frs cs k j && holdJ l frs (cs[k]?.getD cd0) (fOf l (cs[k]?.getD cd0)) j) := by
  unfold allK
  rw [List.take_add_one, List.all_append]
  simp [hk]
theorem aF_end (l : Lay) (frs : List (List Int)) (cs : List Cd) (j : Nat) : aF l frs cs cs.length j = isJ l frs cs j := by
  unfold aF isJ allK
  rw [List.take_of_length_le (Nat.le_refl _)]
set_option maxRecDepth 100000 in
set_option maxHeartbeats 16000000 in
theorem eventsT_ac (l : Lay) (frs : List (List Int)) (cs : List Cd) (h : Int) (h1 : LayOk l) (h2 : frs.length ≤ 200) (hf : FrIn frs) (hc : evB l cs h = true) : AC Try.prog 94 [.ptr 96 0, evD cs h] [(96, tpC l frs)] [(96, some (tpC l frs))] (.list (sps (evK (isJ l frs cs) h (frs.length + 1)).2)) := by
  refine kprecord_tape_events.ac (n0 := 200) (by simp) ⟨.ptr _ _ (by omega), in_ev _ _ _, trivial⟩ ⟨⟨by omega, tpC_in _ _ _⟩, trivial⟩ rfl ?_
  unfold evB at hc
  rw [Bool.and_eq_true, Bool.and_eq_true] at hc
  obtain ⟨⟨hc1, hc2⟩, hc3⟩ := hc
  have hcl := wI_t hc1
  have hh := wI_t hc3
  unfold cprecord_tape_events evD
  have e0 : ((frs.length : Int) + 1).toNat = frs.length + 1 := by omega
  have hrep := rep_bc (frs.length + 1)
  rw [fL_rep] at hrep
  have m1 : (0 : Int) ≤ (frs.length : Int) + 1 := by omega
  have m2 : ((frs.length : Int) + 1) * 1 ≤ 2 ^ 48 := by omega
  have m3 : (frs.length : Int) + 1 < 2 ^ 62 := by omega
  have htape : ∀ c, cdB l c = true → _ := fun c hc => holdsT_ac l frs c h1 h2 hf hc
  refine aw_seq (aw_region ?_)
  simp (disch := first | exact okY | omega) only [thenQ, List.map, List.length, Nat.zero_add, Nat.reduceAdd, Nat.reduceMul, envOf, dI, ARun_none, AOpRun, aexec, D.isBot, FSt.ev, St.F, eget_c, Nat.reduceBEq, ↓eget_h, cond_false, Bool.false_eq_true, Option.isSome, hget_c, hget_n, or_self, ↓reduceIte, D.cells, AGo_ok, St.app, putO, eput_c, eput_n, hups, hput_c, hput_n, ARun_nil, dropE_c, inL_n, dropE_n]
  unfold tpC at *
  refine aw_seq (aw_region ?_)
  simp (disch := first | exact okY | omega) only [thenQ, dI, List.length, Nat.zero_add, Nat.reduceAdd, Nat.reduceMul, ARun_none, AOpRun, aexec, FSt.ev, St.F, ↓eget_h, AGo_ok, St.app, putO, eput_c, Nat.reduceBEq, eput_n, cond_false, hups, List.map, eget_c, Option.map, run1, hget_c, beq_self_eq_true, hget_n, cond_true, List.getElem?_cons_succ, List.getElem?_cons_zero, rows_len, isSh, Bool.false_eq_true, ↓reduceIte, abin, fits, m1, cast_lit, m2, m3, Option.isSome, and_self, e0, hrep, hput_c, hput_n, ARun_nil, dropE_c, inL_c, inL_n, dropE_n]
  refine aw_wk (s' := ⟨[(0, .ptr 96 0), (3, .ptr 8 0), (4, .val (.slice none 0 0)), (5, .vec 16 (frs.length + 1) 1)], [(96, tpC l frs), (8, [.list (cds cs), dI h]), (16, bcl (fL (frs.length + 1) fun _ => false))], 400⟩) ?_ ?_
  · unfold tpC dI
    refine wk_q [] [(96, 96), (8, 200), (16, 264)] ?_ ?_ <;> repeat' (first | exact trivial | exact vr_val _ | exact vr_list _ | exact vr_vec _ _ _ _ rfl | exact vr_ptr _ _ _ rfl | refine And.intro ⟨_, rfl, .inl ⟨_, rfl, by decide, ?_⟩⟩ ?_ | apply And.intro)
    all_goals exact vrl_flat _ (bcl_in _)
  -- all frames at first
  refine aw_cut ⟨[(0, .ptr 96 0), (3, .ptr 8 0), (4, .val (.slice none 0 0)), (5, .vec 16 (frs.length + 1) 1)], [(96, tpC l frs), (8, [.list (cds cs), dI h]), (16, bcl (fL (frs.length + 1) (aF l frs cs 0)))], 600⟩ ?_ ?_
  · unfold tpC
    refine aw_seq (aw_region ?_)
    simp (disch := first | exact okY | omega) only [thenQ, dI, List.length, Nat.zero_add, Nat.reduceAdd, Nat.reduceMul, ARun_none, AOpRun, aexec, FSt.ev, St.F, ↓eget_h, AGo_ok, St.app, putO, eput_c, Nat.reduceBEq, eput_n, cond_false, hups, List.map, eget_c, Option.map, run1, hget_c, beq_self_eq_true, hget_n, cond_true, List.getElem?_cons_succ, List.getElem?_cons_zero, rows_len, ARun_nil, dropE_c, inL_c, inL_n, dropE_n]
    refine aw_block (aw_loop (fun j : Nat => ⟨[(0, .ptr 96 0), (3, .ptr 8 0), (4, .val (.slice none 0 0)), (5, .vec 16 (frs.length + 1) 1), (25, dI frs.length), (26, dI j)], [(96, tpC l frs), (8, [.list (cds cs), dI h]), (16, bcl (fL (frs.length + 1) fun m => decide (m < j)))], 500⟩) (fun j => j ≤ frs.length) (fun j => frs.length - j) ⟨0, by omega, ?_⟩ ?_)
    · have e : (fL (frs.length + 1) fun m => decide (m < 0)) = fL (frs.length + 1) fun _ => false := fL_eq fun j _ => by simp
      rw [e]
      unfold tpC dI
      refine wk_q [] [(96, 96), (8, 8), (16, 16)] ?_ ?_ <;> repeat' (first | exact trivial | exact vr_val _ | exact vr_list _ | exact vr_vec _ _ _ _ rfl | exact vr_ptr _ _ _ rfl | refine And.intro ⟨_, rfl, .inl ⟨_, rfl, by decide, ?_⟩⟩ ?_ | apply And.intro)
      all_goals exact vrl_flat _ (bcl_in _)
    intro j hj
    unfold tpC
    by_cases hj2 : j < frs.length
    case neg =>
      obtain rfl : j = frs.length := by omega
      have e : (fL (frs.length + 1) fun m => decide (m < frs.length)) = fL (frs.length + 1) (aF l frs cs 0) := fL_eq fun j _ => by simp [aF, allK]
      rw [e]
      (have hg : (987654321 : Nat) - 987654321 = 0 := rfl; have hr := hg; repeat' (first | (with_reducible first | refine thenQ_n ?_ | refine blockQ_n ?_ | refine thenQ_e ?_ | refine blockQ_t ?_ | refine blockQ_f (by decide) ?_) | apply aw_seq | apply aw_skip | apply aw_exit | apply aw_ret | apply aw_block | apply aw_condT rfl | apply aw_condF rfl | (refine aw_cond rfl (fun hg => ?_) (fun hg => ?_) <;> (try (have hq := hg; simp only [Bool.not_eq_true', Bool.not_eq_false', Bool.and_eq_true, Bool.and_eq_false_iff, Bool.or_eq_true, Bool.or_eq_false_iff, decide_eq_true_eq, decide_eq_false_iff_not, bne_iff_ne, beq_iff_eq, beq_eq_false_iff_ne, bne_eq_false_iff_eq, ne_eq, Int.not_lt, Int.not_le, Decidable.not_not] at hq)) <;> (try (have hr := hg; simp only [decide_eq_true_eq, decide_eq_false_iff_not] at hr)) <;> (try (exfalso; omega))) | ((first | refine aw_hide fun K hK => aw_region ?_ | refine ago_if (by omega) ?_ | skip); simp (disch := first | exact okY | omega) only [List.length, Nat.zero_add, Nat.reduceMul, Nat.reduceAdd, dI, ARun_none, AOpRun, aexec, FSt.ev, St.F, eget_c, Nat.reduceBEq, ↓eget_h, cond_false, isSh, Bool.false_eq_true, ↓reduceIte, Option.map, abin, AGo_ok, St.app, putO, eput_c, eput_n, hups, List.map, ARun_nil, dropE_c, inL_n, dropE_n, hr, decide_false]) | subst hK))
      refine wk_q [] [(96, 96), (8, 8), (16, 16)] ?_ ?_ <;> repeat' (first | exact trivial | exact vr_val _ | exact vr_list _ | exact vr_vec _ _ _ _ rfl | exact vr_ptr _ _ _ rfl | refine And.intro ⟨_, rfl, .inl ⟨_, rfl, by decide, ?_⟩⟩ ?_ | apply And.intro)
      all_goals exact vrl_flat _ (bcl_in _)
    have hse : fL (frs.length + 1) (fun m => decide (m < j + 1)) = (fL (frs.length + 1) fun m => decide (m < j)).set j true := by
      have := fL_set (n := frs.length + 1) (m := j) (F := fun m => decide (m < j)) (G := fun m => decide (m < j + 1)) (fun i hi => by simp only [decide_eq_decide]; omega)
      simpa using this
    have hlen := fL_len (frs.length + 1) fun m => decide (m < j)
    generalize (fL (frs.length + 1) fun m => decide (m < j)) = L at *
    have htk := bc_t L j true (by omega)
    rw [← hse] at htk
    have hbl := bcl_len L
    rw [hlen] at hbl
    have j0 : (0 : Int) ≤ (j : Int) := by omega
    have j1 : (j : Int) < ((frs.length + 1 : Nat) : Int) := by omega
    have j2 : j + 1 ≤ frs.length + 1 := by omega
    (have hg : (987654321 : Nat) - 987654321 = 0 := rfl; have hr := hg; repeat' (first | (with_reducible first | refine thenQ_n ?_ | refine blockQ_n ?_ | refine thenQ_e ?_ | refine blockQ_t ?_ | refine blockQ_f (by decide) ?_) | apply aw_seq | apply aw_skip | apply aw_exit | apply aw_ret | apply aw_block | apply aw_condT rfl | apply aw_condF rfl | (refine aw_cond rfl (fun hg => ?_) (fun hg => ?_) <;> (try (have hq := hg; simp only [Bool.not_eq_true', Bool.not_eq_false', Bool.and_eq_true, Bool.and_eq_false_iff, Bool.or_eq_true, Bool.or_eq_false_iff, decide_eq_true_eq, decide_eq_false_iff_not, bne_iff_ne, beq_iff_eq, beq_eq_false_iff_ne, bne_eq_false_iff_eq, ne_eq, Int.not_lt, Int.not_le, Decidable.not_not] at hq)) <;> (try (have hr := hg; simp only [decide_eq_true_eq, decide_eq_false_iff_not] at hr)) <;> (try (exfalso; omega))) | ((first | refine aw_hide fun K hK => aw_region ?_ | refine ago_if (by omega) ?_ | skip); simp (disch := first | exact okY | omega) only [List.length, Nat.zero_add, Nat.mul_one, Nat.reduceAdd, dI, ARun_none, AOpRun, aexec, FSt.ev, St.F, eget_c, Nat.reduceBEq, ↓eget_h, cond_false, isSh, Bool.false_eq_true, ↓reduceIte, Option.map, abin, AGo_ok, St.app, putO, eput_c, eput_n, hups, List.map, ARun_nil, dropE_c, inL_n, dropE_n, Nat.reduceMul, hr, decide_true, inL_c, beq_self_eq_true, cond_true, j0, j1, and_self, Int.toNat_natCast, hget_c, ↓hget_h, D.isBot, D.cells, hbl, j2, List.all, D.leaf, Bool.and_true, splice, htk, hput_c, hput_n, fits]) | subst hK))
    refine ⟨j + 1, by omega, by omega, ?_⟩
    refine wk_q [] [(96, 96), (8, 8), (16, 16)] ?_ ?_ <;> repeat' (first | exact trivial | exact vr_val _ | exact vr_list _ | exact vr_vec _ _ _ _ rfl | exact vr_ptr _ _ _ rfl | refine And.intro ⟨_, rfl, .inl ⟨_, rfl, by decide, ?_⟩⟩ ?_ | apply And.intro)
    all_goals exact vrl_flat _ (bcl_in _)
  -- the conditions
  refine aw_cut ⟨[(3, .ptr 8 0), (4, .val (.slice none 0 0)), (5, .vec 16 (frs.length + 1) 1)], [(96, tpC l frs), (8, [.list (cds cs), dI h]), (16, bcl (fL (frs.length + 1) (isJ l frs cs)))], 1600⟩ ?_ ?_
  · refine aw_seq (aw_region ?_)
    unfold tpC
    simp (disch := first | exact okY | omega) only [thenQ, dI, List.length, Nat.zero_add, Nat.reduceAdd, Nat.reduceMul, ARun_none, AOpRun, aexec, FSt.ev, St.F, eget_c, Nat.reduceBEq, ↓eget_h, cond_false, AGo_ok, St.app, putO, eput_c, eput_n, hups, List.map, Option.map, run1, hget_c, ↓hget_h, List.getElem?_cons_zero, cds_len, ARun_nil, dropE_c, inL_c, inL_n, beq_self_eq_true, cond_true, dropE_n]
    refine aw_block (aw_loop (fun k : Nat => ⟨[(0, .ptr 96 0), (3, .ptr 8 0), (4, .val (.slice none 0 0)), (5, .vec 16 (frs.length + 1) 1), (34, .list (cds cs)), (35, dI cs.length), (36, dI k)], [(96, tpC l frs), (8, [.list (cds cs), dI h]), (16, bcl (fL (frs.length + 1) (aF l frs cs k)))], 1000⟩) (fun k => k ≤ cs.length) (fun k => cs.length - k) ⟨0, by omega, ?_⟩ ?_)
    · unfold tpC dI
      refine wk_q [] [(96, 96), (8, 8), (16, 16)] ?_ ?_ <;> repeat' (first | exact trivial | exact vr_val _ | exact vr_list _ | exact vr_vec _ _ _ _ rfl | exact vr_ptr _ _ _ rfl | refine And.intro ⟨_, rfl, .inl ⟨_, rfl, by decide, ?_⟩⟩ ?_ | apply And.intro)
      all_goals exact vrl_flat _ (bcl_in _)
    intro k hk
    unfold tpC
    by_cases hk2 : k < cs.length
    case neg =>
      obtain rfl : k = cs.length := by omega
      have e : fL (frs.length + 1) (aF l frs cs cs.length) = fL (frs.length + 1) (isJ l frs cs) := fL_eq fun j _ => aF_end l frs cs j
      rw [e]
      (have hg : (987654321 : Nat) - 987654321 = 0 := rfl; have hr := hg; repeat' (first | (with_reducible first | refine thenQ_n ?_ | refine blockQ_n ?_ | refine thenQ_e ?_ | refine blockQ_t ?_ | refine blockQ_f (by decide) ?_) | apply aw_seq | apply aw_skip | apply aw_exit | apply aw_ret | apply aw_block | apply aw_condT rfl | apply aw_condF rfl | (refine aw_cond rfl (fun hg => ?_) (fun hg => ?_) <;> (try (have hq := hg; simp only [Bool.not_eq_true', Bool.not_eq_false', Bool.and_eq_true, Bool.and_eq_false_iff, Bool.or_eq_true, Bool.or_eq_false_iff, decide_eq_true_eq, decide_eq_false_iff_not, bne_iff_ne, beq_iff_eq, beq_eq_false_iff_ne, bne_eq_false_iff_eq, ne_eq, Int.not_lt, Int.not_le, Decidable.not_not] at hq)) <;> (try (have hr := hg; simp only [decide_eq_true_eq, decide_eq_false_iff_not] at hr)) <;> (try (exfalso; omega))) | ((first | refine aw_hide fun K hK => aw_region ?_ | refine ago_if (by omega) ?_ | skip); simp (disch := first | exact okY | omega) only [List.length, Nat.zero_add, Nat.reduceMul, Nat.reduceAdd, dI, ARun_none, AOpRun, aexec, FSt.ev, St.F, eget_c, Nat.reduceBEq, ↓eget_h, cond_false, isSh, Bool.false_eq_true, ↓reduceIte, Option.map, abin, AGo_ok, St.app, putO, eput_c, eput_n, hups, List.map, ARun_nil, dropE_c, inL_n, dropE_n, hr, decide_false]) | subst hK))
      refine wk_q [] [(96, 96), (8, 8), (16, 16)] ?_ ?_ <;> repeat' (first | exact trivial | exact vr_val _ | exact vr_list _ | exact vr_vec _ _ _ _ rfl | exact vr_ptr _ _ _ rfl | refine And.intro ⟨_, rfl, .inl ⟨_, rfl, by decide, ?_⟩⟩ ?_ | apply And.intro)
      all_goals exact vrl_flat _ (bcl_in _)
    have g1 := cds_gd cs k hk2
    have hcb : cdB l (cs[k]?.getD cd0) = true := by
      rw [List.getElem?_eq_getElem hk2]
      exact List.all_eq_true.1 hc2 _ (List.getElem_mem hk2)
    have ht := htape _ hcb
    have hak := allK_succ (l := l) (frs := frs) hk2
    have hfev : 1 ≤ (fOf l (cs[k]?.getD cd0)).every := by
      unfold cdB at hcb
      rw [Bool.and_eq_true] at hcb
      have := wI_t hcb.1
      have := (h1.fo (cs[k]?.getD cd0).field.toNat (by omega)).ev
      show 1 ≤ (fAt l (cs[k]?.getD cd0).field.toNat).every
      rcases this with h | h | h <;> (unfold fAt; omega)
    have hgj : ∀ j, j < frs.length → (bools (hL l frs (cs[k]?.getD cd0) (fOf l (cs[k]?.getD cd0)) frs.length frs.length))[j]? = some [dB (holdJ l frs (cs[k]?.getD cd0) (fOf l (cs[k]?.getD cd0)) j)] := fun j hj => by
      rw [bools_gd _ j (by rw [hL_len]; exact hj)]
      have : (hL l frs (cs[k]?.getD cd0) (fOf l (cs[k]?.getD cd0)) frs.length frs.length)[j]?.getD false = hAt l frs (cs[k]?.getD cd0) (fOf l (cs[k]?.getD cd0)) frs.length j := by simp [hL, hj]
      rw [this, hAt_hold hfev hj]
    have hbl0 : (bools (hL l frs (cs[k]?.getD cd0) (fOf l (cs[k]?.getD cd0)) frs.length frs.length)).length = frs.length := by rw [bools_len, hL_len]
    have hba := bools_all (hL l frs (cs[k]?.getD cd0) (fOf l (cs[k]?.getD cd0)) frs.length frs.length)
    generalize bools (hL l frs (cs[k]?.getD cd0) (fOf l (cs[k]?.getD cd0)) frs.length frs.length) = B at *
    generalize holdJ l frs (cs[k]?.getD cd0) (fOf l (cs[k]?.getD cd0)) = hj at *
    unfold cdC at g1 ht
    generalize cs[k]?.getD cd0 = c at *
    have ki : (k : Int) < (cs.length : Int) := by omega
    refine aw_seq (aw_region ?_)
    simp (disch := first | exact okY | omega) only [thenQ, dI, List.length, Nat.zero_add, Nat.reduceMul, Nat.reduceAdd, ARun_none, AOpRun, aexec, FSt.ev, St.F, eget_c, Nat.reduceBEq, ↓eget_h, cond_false, isSh, Bool.false_eq_true, ↓reduceIte, Option.map, abin, ki, decide_true, AGo_ok, St.app, putO, eput_c, eput_n, hups, List.map, ARun_nil, dropE_c, inL_n, dropE_n]
    refine aw_seq (aw_condT rfl (aw_skip ?_))
    refine aw_seq (aw_block (aw_seq (aw_region ?_)))
    simp (disch := first | exact okY | omega) only [thenQ, List.length, Nat.zero_add, Nat.reduceAdd, Nat.reduceMul, ARun_none, AOpRun, aexec, FSt.ev, St.F, eget_c, Nat.reduceBEq, ↓eget_h, cond_false, Int.natCast_nonneg, cds_all, and_self, ↓reduceIte, opt1, Option.map, Int.toNat_natCast, g1, dI, dB, AGo_ok, St.app, putO, eput_c, eput_n, hups, List.map, Nat.reduceLeDiff, List.take, Option.isSome, hget_c, hget_n, Bool.false_eq_true, hput_c, hput_n, ↓hget_h, D.isBot, D.cells, List.all, D.leaf, Bool.and_true, splice, List.nil_append, List.drop, List.append_nil, beq_self_eq_true, cond_true, ARun_nil, dropE_c, inL_c, inL_n, dropE_n]
    refine aw_seq (aw_region ?_)
    simp (disch := first | exact okY | omega) only [thenQ, List.length, Nat.zero_add, Nat.reduceAdd, Nat.reduceMul, ARun_none, AOpRun, aexec, FSt.ev, St.F, ↓eget_h, AGo_ok, St.app, putO, eput_c, Nat.reduceBEq, eput_n, cond_false, hups, List.map, eget_c, hget_c, ↓hget_h, Nat.reduceLeDiff, ↓reduceIte, List.drop, List.take]
    refine acallB ht (by repeat' (first | exact trivial | exact rfl | refine And.intro ?_ ?_)) (by kernel_rfl) (by kernel_rfl) (by kernel_rfl) ?_
    simp (disch := first | exact okY | omega) only [Nat.reduceAdd, St.app, putO, eput_c, Nat.reduceBEq, eput_n, cond_false, hups, dI, hput_c, beq_self_eq_true, hput_n, cond_true, List.map, List.append_nil, ARun_none, AOpRun, aexec, FSt.ev, St.F, eget_c, ↓eget_h, hbl0, AGo_ok, ARun_nil, dropE_c, inL_c, inL_n, dropE_n]
    refine aw_block (aw_loop (fun m : Nat => ⟨[(0, .ptr 96 0), (3, .ptr 8 0), (4, .val (.slice none 0 0)), (5, .vec 16 (frs.length + 1) 1), (34, .list (cds cs)), (35, dI cs.length), (36, dI k), (42, .list B), (43, dI frs.length), (44, dI m)], [(96, tpC l frs), (8, [.list (cds cs), dI h]), (16, bcl (fL (frs.length + 1) (xF l frs cs k m)))], 1300⟩) (fun m => m ≤ frs.length) (fun m => frs.length - m) ⟨0, by omega, ?_⟩ ?_)
    · have e : fL (frs.length + 1) (xF l frs cs k 0) = fL (frs.length + 1) (aF l frs cs k) := fL_eq fun j _ => by simp [xF]
      rw [e]
      unfold tpC dI
      refine wk_q [] [(96, 96), (8, 8), (16, 16)] ?_ ?_ <;> repeat' (first | exact trivial | exact vr_val _ | exact vr_list _ | exact vr_vec _ _ _ _ rfl | exact vr_ptr _ _ _ rfl | refine And.intro ⟨_, rfl, .inl ⟨_, rfl, by decide, ?_⟩⟩ ?_ | apply And.intro)
      all_goals exact vrl_flat _ (bcl_in _)
    intro m hm
    unfold tpC
    by_cases hm2 : m < frs.length
    case neg =>
      obtain rfl : m = frs.length := by omega
      have e : fL (frs.length + 1) (xF l frs cs k frs.length) = fL (frs.length + 1) (aF l frs cs (k + 1)) := fL_eq fun j hj => by
        unfold xF
        split
        · rfl
        · unfold aF; rw [decide_eq_false (by omega)]; rfl
      rw [e]
      (have hg : (987654321 : Nat) - 987654321 = 0 := rfl; have hr := hg; repeat' (first | (with_reducible first | refine thenQ_n ?_ | refine blockQ_n ?_ | refine thenQ_e ?_ | refine blockQ_t ?_ | refine blockQ_f (by decide) ?_) | apply aw_seq | apply aw_skip | apply aw_exit | apply aw_ret | apply aw_block | apply aw_condT rfl | apply aw_condF rfl | (refine aw_cond rfl (fun hg => ?_) (fun hg => ?_) <;> (try (have hq := hg; simp only [Bool.not_eq_true', Bool.not_eq_false', Bool.and_eq_true, Bool.and_eq_false_iff, Bool.or_eq_true, Bool.or_eq_false_iff, decide_eq_true_eq, decide_eq_false_iff_not, bne_iff_ne, beq_iff_eq, beq_eq_false_iff_ne, bne_eq_false_iff_eq, ne_eq, Int.not_lt, Int.not_le, Decidable.not_not] at hq)) <;> (try (have hr := hg; simp only [decide_eq_true_eq, decide_eq_false_iff_not] at hr)) <;> (try (exfalso; omega))) | ((first | refine aw_hide fun K hK => aw_region ?_ | refine ago_if (by omega) ?_ | skip); simp (disch := first | exact okY | omega) only [List.length, Nat.zero_add, Nat.reduceMul, Nat.reduceAdd, dI, ARun_none, AOpRun, aexec, FSt.ev, St.F, eget_c, Nat.reduceBEq, ↓eget_h, cond_false, isSh, Bool.false_eq_true, ↓reduceIte, Option.map, abin, AGo_ok, St.app, putO, eput_c, eput_n, hups, List.map, ARun_nil, dropE_c, inL_n, dropE_n, hr, decide_false, fits, beq_self_eq_true, cond_true, inL_c]) | subst hK))
      refine ⟨k + 1, by omega, by omega, ?_⟩
      refine wk_q [] [(96, 96), (8, 8), (16, 16)] ?_ ?_ <;> repeat' (first | exact trivial | exact vr_val _ | exact vr_list _ | exact vr_vec _ _ _ _ rfl | exact vr_ptr _ _ _ rfl | refine And.intro ⟨_, rfl, .inl ⟨_, rfl, by decide, ?_⟩⟩ ?_ | apply And.intro)
      all_goals exact vrl_flat _ (bcl_in _)
    have gB := hgj m hm2
    have hval : xF l frs cs k (m + 1) m = (xF l frs cs k m m && hj m) := by
      unfold xF
      rw [if_pos (by omega), if_neg (by omega)]
      unfold aF
      rw [hak m, Bool.and_assoc]
    have hse : fL (frs.length + 1) (xF l frs cs k (m + 1)) = (fL (frs.length + 1) (xF l frs cs k m)).set m (xF l frs cs k m m && hj m) := by
      rw [← hval]
      exact fL_set fun j hne => by
        unfold xF
        by_cases h3 : j < m
        · rw [if_pos h3, if_pos (by omega)]
        · rw [if_neg h3, if_neg (by omega)]
    have hlen := fL_len (frs.length + 1) (xF l frs cs k m)
    have hgm := bc_gd (fL (frs.length + 1) (xF l frs cs k m)) m (by omega)
    rw [fL_get _ (by omega : m < frs.length + 1)] at hgm
    generalize xF l frs cs k m m = a at *
    generalize fL (frs.length + 1) (xF l frs cs k m) = L at *
    have htk := bc_t L m (a && hj m) (by omega)
    rw [← hse] at htk
    have hbl := bcl_len L
    rw [hlen] at hbl
    have j0 : (0 : Int) ≤ (m : Int) := by omega
    have j1 : (m : Int) < ((frs.length + 1 : Nat) : Int) := by omega
    have j2 : m + 1 ≤ frs.length + 1 := by omega
    have j3 : (m : Int) < (frs.length : Int) := by omega
    generalize hj m = b at *
    cases a with
    | true =>
      rw [Bool.true_and] at htk
      (repeat' (first | (with_reducible first | refine thenQ_n ?_ | refine blockQ_n ?_ | refine thenQ_e ?_ | refine blockQ_t ?_ | refine blockQ_f (by decide) ?_) | apply aw_seq | apply aw_skip | apply aw_exit | apply aw_ret | apply aw_block | apply aw_condT rfl | apply aw_condF rfl | ((first | refine aw_hide fun K hK => aw_region ?_ | refine ago_if (by omega) ?_ | skip); simp (disch := first | exact okY | omega) only [List.length, Nat.zero_add, Nat.mul_one, Nat.reduceAdd, dI, ARun_none, AOpRun, aexec, FSt.ev, St.F, eget_c, Nat.reduceBEq, ↓eget_h, cond_false, isSh, Bool.false_eq_true, ↓reduceIte, Option.map, abin, j3, decide_true, AGo_ok, St.app, putO, eput_c, eput_n, hups, List.map, ARun_nil, dropE_c, inL_n, dropE_n, Nat.reduceMul, j0, hba, and_self, opt1, Int.toNat_natCast, gB, dB, run1, List.getElem?_cons_zero, inL_c, beq_self_eq_true, cond_true, j1, hget_c, ↓hget_h, Nat.add_zero, hgm, ARun_some, AG_tt, D.isBot, D.cells, hbl, j2, List.all, D.leaf, Bool.and_true, splice, htk, hput_c, hput_n, fits]) | subst hK))
      refine ⟨m + 1, by omega, by omega, ?_⟩
      refine wk_q [] [(96, 96), (8, 8), (16, 16)] ?_ ?_ <;> repeat' (first | exact trivial | exact vr_val _ | exact vr_list _ | exact vr_vec _ _ _ _ rfl | exact vr_ptr _ _ _ rfl | refine And.intro ⟨_, rfl, .inl ⟨_, rfl, by decide, ?_⟩⟩ ?_ | apply And.intro)
      all_goals exact vrl_flat _ (bcl_in _)
    | false =>
      rw [Bool.false_and] at htk
      (repeat' (first | (with_reducible first | refine thenQ_n ?_ | refine blockQ_n ?_ | refine thenQ_e ?_ | refine blockQ_t ?_ | refine blockQ_f (by decide) ?_) | apply aw_seq | apply aw_skip | apply aw_exit | apply aw_ret | apply aw_block | apply aw_condT rfl | apply aw_condF rfl | ((first | refine aw_hide fun K hK => aw_region ?_ | refine ago_if (by omega) ?_ | skip); simp (disch := first | exact okY | omega) only [List.length, Nat.zero_add, Nat.mul_one, Nat.reduceAdd, dI, ARun_none, AOpRun, aexec, FSt.ev, St.F, eget_c, Nat.reduceBEq, ↓eget_h, cond_false, isSh, Bool.false_eq_true, ↓reduceIte, Option.map, abin, j3, decide_true, AGo_ok, St.app, putO, eput_c, eput_n, hups, List.map, ARun_nil, dropE_c, inL_n, dropE_n, Nat.reduceMul, j0, hba, and_self, opt1, Int.toNat_natCast, gB, dB, run1, List.getElem?_cons_zero, inL_c, beq_self_eq_true, cond_true, j1, hget_c, ↓hget_h, Nat.add_zero, hgm, ARun_some, AG_ft, D.isBot, D.cells, hbl, j2, List.all, D.leaf, Bool.and_true, splice, htk, hput_c, hput_n, fits]) | subst hK))
      refine ⟨m + 1, by omega, by omega, ?_⟩
      refine wk_q [] [(96, 96), (8, 8), (16, 16)] ?_ ?_ <;> repeat' (first | exact trivial | exact vr_val _ | exact vr_list _ | exact vr_vec _ _ _ _ rfl | exact vr_ptr _ _ _ rfl | refine And.intro ⟨_, rfl, .inl ⟨_, rfl, by decide, ?_⟩⟩ ?_ | apply And.intro)
      all_goals exact vrl_flat _ (bcl_in _)
  -- the stretches
  generalize isJ l frs cs = is at *
  unfold tpC
  refine aw_seq (aw_region ?_)
  simp (disch := first | exact okY | omega) only [thenQ, List.length, Nat.zero_add, Nat.reduceMul, Nat.reduceAdd, dI, ARun_none, AOpRun, aexec, FSt.ev, AGo_ok, St.app, putO, eput_c, Nat.reduceBEq, eput_n, cond_false, hups, List.map, ARun_nil, dropE_c, inL_n, dropE_n]
  refine aw_seq (aw_seq (aw_region ?_))
  simp (disch := first | exact okY | omega) only [thenQ, List.length, Nat.zero_add, Nat.reduceAdd, Nat.reduceMul, ARun_none, AOpRun, aexec, FSt.ev, St.F, eget_c, Nat.reduceBEq, ↓eget_h, cond_false, AGo_ok, St.app, putO, eput_c, eput_n, hups, List.map, ARun_nil, dropE_c, inL_n, dropE_n]
  have hbd := evK_bd is h
  refine aw_block (aw_loop (fun i : Nat => ⟨[(3, .ptr 8 0), (4, .vec 24 (evK is h i).2.length 2), (11, dI (evK is h i).1), (61, .vec 16 (frs.length + 1) 1), (62, dI ((frs.length + 1 : Nat) : Int)), (63, dI i)], [(96, tpC l frs), (8, [.list (cds cs), dI h]), (16, bcl (fL (frs.length + 1) is)), (24, scells (evK is h i).2)], 2000⟩) (fun i => i ≤ frs.length + 1) (fun i => frs.length + 1 - i) ⟨0, by omega, ?_⟩ ?_)
  · show Wk _ _ ⟨[_, (4, .vec 24 0 2), (11, dI 0), _, _, _], [_, _, _, (24, [])], _⟩
    unfold tpC dI
    refine wk_q [] [(96, 96), (8, 8), (16, 16), (24, 2900)] ?_ ?_ <;> repeat' (first | exact trivial | exact vr_val _ | exact vr_list _ | exact vr_vec _ _ _ _ rfl | exact vr_ptr _ _ _ rfl | exact vr_nilv _ _ _ rfl | refine And.intro ⟨_, rfl, .inl ⟨_, rfl, by decide, ?_⟩⟩ ?_ | refine And.intro ⟨_, rfl, .inr ⟨rfl, rfl, of_decide_eq_true (by kernel_rfl)⟩⟩ ?_ | apply And.intro)
    all_goals exact vrl_flat _ (bcl_in _)
  intro i hi
  unfold tpC
  have hb := hbd i
  by_cases hi2 : i < frs.length + 1
  case neg =>
    obtain rfl : i = frs.length + 1 := by omega
    have q : decide (((frs.length + 1 : Nat) : Int) < ((frs.length + 1 : Nat) : Int)) = false := decide_eq_false (by omega)
    generalize (evK is h (frs.length + 1)).2 = L at *
    (repeat' (first | (with_reducible first | refine thenQ_n ?_ | refine blockQ_n ?_ | refine thenQ_e ?_ | refine blockQ_t ?_ | refine blockQ_f (by decide) ?_) | apply aw_seq | apply aw_skip | apply aw_exit | apply aw_ret | apply aw_block | apply aw_condT rfl | apply aw_condF rfl | ((first | refine aw_hide fun K hK => aw_region ?_ | refine ago_if (by omega) ?_ | skip); simp (disch := first | exact okY | omega) only [List.length, Nat.zero_add, Nat.reduceMul, Nat.reduceAdd, dI, ARun_none, AOpRun, aexec, FSt.ev, St.F, eget_c, Nat.reduceBEq, ↓eget_h, cond_false, isSh, Bool.false_eq_true, ↓reduceIte, Option.map, abin, q, AGo_ok, St.app, putO, eput_c, eput_n, hups, List.map, ARun_nil, dropE_c, inL_n, dropE_n, beq_self_eq_true, cond_true, inL_c]) | subst hK))
    refine end_q [24] [(96, 96)] ?_ ?_ <;> repeat' (first | exact trivial | exact vr_val _ | exact vr_list _ | refine vr_fl _ _ _ _ _ (by decide) rfl ?_ ?_ ?_ ?_ | refine And.intro ⟨_, rfl, _, rfl, by decide, ?_⟩ ?_ | apply And.intro)
    all_goals first | exact sps_two _ | exact sps_len _ | exact sps_flat _ | exact scells_in _
  have hbl : (bcl (fL (frs.length + 1) is)).length = frs.length + 1 := by rw [bcl_len, fL_len]
  have hgi := bc_gd (fL (frs.length + 1) is) i (by rw [fL_len]; exact hi2)
  rw [fL_get _ hi2] at hgi
  have j0 : (0 : Int) ≤ (i : Int) := by omega
  have j1 : (i : Int) < ((frs.length + 1 : Nat) : Int) := by omega
  have q0 : decide ((i : Int) < ((frs.length + 1 : Nat) : Int)) = true := decide_eq_true j1
  have ei := ev_in is h i
  have ei1 := ev_in1 is h i
  have eo := ev_out is h i
  have eo1 := ev_out1 is h i
  cases hv : is i with
  | true =>
    rw [hv] at hgi
    have a1 := ei hv
    have a2 := ei1 hv
    (repeat' (first | (with_reducible first | refine thenQ_n ?_ | refine blockQ_n ?_ | refine thenQ_e ?_ | refine blockQ_t ?_ | refine blockQ_f (by decide) ?_) | apply aw_seq | apply aw_skip | apply aw_exit | apply aw_ret | apply aw_block | apply aw_condT rfl | apply aw_condF rfl | ((first | refine aw_hide fun K hK => aw_region ?_ | refine ago_if (by omega) ?_ | skip); simp (disch := first | exact okY | omega) only [List.length, Nat.zero_add, Nat.mul_one, Nat.reduceAdd, dI, ARun_none, AOpRun, aexec, FSt.ev, St.F, eget_c, Nat.reduceBEq, ↓eget_h, cond_false, isSh, Bool.false_eq_true, ↓reduceIte, Option.map, abin, j1, decide_true, AGo_ok, St.app, putO, eput_c, eput_n, hups, List.map, ARun_nil, dropE_c, inL_n, dropE_n, Nat.reduceMul, j0, and_self, Int.toNat_natCast, run1, hget_c, ↓hget_h, Nat.add_zero, hgi, inL_c, beq_self_eq_true, cond_true, fits]) | subst hK))
    refine ⟨i + 1, by omega, by omega, ?_⟩
    rw [a1, a2]
    refine wk_q [] [(96, 96), (8, 8), (16, 16), (24, 24)] ?_ ?_ <;> repeat' (first | exact trivial | exact vr_val _ | exact vr_list _ | exact vr_vec _ _ _ _ rfl | exact vr_ptr _ _ _ rfl | refine And.intro ⟨_, rfl, .inl ⟨_, rfl, by decide, ?_⟩⟩ ?_ | apply And.intro | exact vrl_flat _ (by first | exact icells_in _ | exact rcells_in _ | exact scells_in _ | exact bcells_in _ | assumption) | fail)
    all_goals exact vrl_flat _ (bcl_in _)
  | false =>
    rw [hv] at hgi
    have a1 := eo hv
    have a2 := eo1 hv
    generalize hst : evK is h i = P at *
    obtain ⟨f0, L⟩ := P
    simp only at hb a1
    have e1 : IntKind.i64.wrap ((i : Int) - f0) = (i : Int) - f0 := wrap_in (by omega) (by omega)
    have e2 : IntKind.i64.wrap ((i : Int) - 1) = (i : Int) - 1 := wrap_in (by omega) (by omega)
    by_cases hge : (i : Int) - f0 ≥ h
    · have q1 : decide ((i : Int) - f0 ≥ h) = true := decide_eq_true hge
      rw [if_pos hge] at a1
      have hic : (scells L).length = L.length * 2 := scells_len _
      have hit : (scells L).take (L.length * 2) = scells L := sc_all L
      have hcin : ∀ y ∈ scells L ++ [.val (.int .i64 f0), .val (.int .i64 ((i : Int) - 1))], In (fun _ => False) y := by rw [sc_snoc L (f0, (i : Int) - 1)]; exact scells_in _
      have hlen : (L ++ [(f0, (i : Int) - 1)]).length = L.length + 1 := by simp
      (repeat' (first | (with_reducible first | refine thenQ_n ?_ | refine blockQ_n ?_ | refine thenQ_e ?_ | refine blockQ_t ?_ | refine blockQ_f (by decide) ?_) | apply aw_seq | apply aw_skip | apply aw_exit | apply aw_ret | apply aw_block | apply aw_condT rfl | apply aw_condF rfl | ((first | refine aw_hide fun K hK => aw_region ?_ | refine ago_if (by omega) ?_ | skip); simp (disch := first | exact okY | omega) only [List.length, Nat.zero_add, Nat.mul_one, Nat.reduceAdd, dI, ARun_none, AOpRun, aexec, FSt.ev, St.F, eget_c, Nat.reduceBEq, ↓eget_h, cond_false, isSh, Bool.false_eq_true, ↓reduceIte, Option.map, abin, j1, decide_true, AGo_ok, St.app, putO, eput_c, eput_n, hups, List.map, ARun_nil, dropE_c, inL_n, dropE_n, Nat.reduceMul, j0, and_self, Int.toNat_natCast, run1, hget_c, ↓hget_h, Nat.add_zero, hgi, inL_c, beq_self_eq_true, cond_true, e1, List.getElem?_cons_succ, List.getElem?_cons_zero, q1, e2, fillD, D.isBot, D.cells, ne_eq, not_true_eq_false, Nat.reduceGT, or_self, splice, List.take, List.nil_append, List.drop, List.cons_append, List.append_nil, Option.isSome, hget_n, hput_c, hput_n, base, hic, Nat.le_refl, hit, elems, List.all, D.leaf, Bool.and_true, and_true, ups, hdel_c, hdel_n, fits]) | subst hK))
      refine ⟨i + 1, by omega, by omega, ?_⟩
      rw [a1, a2, hlen, ← sc_snoc L (f0, (i : Int) - 1)]
      refine wk_q [] [(96, 96), (8, 8), (16, 16), (24, 2152)] ?_ ?_ <;> repeat' (first | exact trivial | exact vr_val _ | exact vr_list _ | exact vr_vec _ _ _ _ rfl | exact vr_ptr _ _ _ rfl | refine And.intro ⟨_, rfl, .inl ⟨_, rfl, by decide, ?_⟩⟩ ?_ | apply And.intro | exact vrl_flat _ (by first | exact icells_in _ | exact rcells_in _ | exact scells_in _ | exact bcells_in _ | assumption) | fail)
      all_goals first | exact vrl_flat _ (bcl_in _) | assumption
    · have q1 : decide ((i : Int) - f0 ≥ h) = false := decide_eq_false hge
      rw [if_neg hge] at a1
      (repeat' (first | (with_reducible first | refine thenQ_n ?_ | refine blockQ_n ?_ | refine thenQ_e ?_ | refine blockQ_t ?_ | refine blockQ_f (by decide) ?_) | apply aw_seq | apply aw_skip | apply aw_exit | apply aw_ret | apply aw_block | apply aw_condT rfl | apply aw_condF rfl | ((first | refine aw_hide fun K hK => aw_region ?_ | refine ago_if (by omega) ?_ | skip); simp (disch := first | exact okY | omega) only [List.length, Nat.zero_add, Nat.mul_one, Nat.reduceAdd, dI, ARun_none, AOpRun, aexec, FSt.ev, St.F, eget_c, Nat.reduceBEq, ↓eget_h, cond_false, isSh, Bool.false_eq_true, ↓reduceIte, Option.map, abin, j1, decide_true, AGo_ok, St.app, putO, eput_c, eput_n, hups, List.map, ARun_nil, dropE_c, inL_n, dropE_n, Nat.reduceMul, j0, and_self, Int.toNat_natCast, run1, hget_c, ↓hget_h, Nat.add_zero, hgi, inL_c, beq_self_eq_true, cond_true, e1, List.getElem?_cons_succ, List.getElem?_cons_zero, q1, fits]) | subst hK))
      refine ⟨i + 1, by omega, by omega, ?_⟩
      rw [a1, a2]
      refine wk_q [] [(96, 96), (8, 8), (16, 16), (24, 24)] ?_ ?_ <;> repeat' (first | exact trivial | exact vr_val _ | exact vr_list _ | exact vr_vec _ _ _ _ rfl | exact vr_ptr _ _ _ rfl | refine And.intro ⟨_, rfl, .inl ⟨_, rfl, by decide, ?_⟩⟩ ?_ | apply And.intro | exact vrl_flat _ (by first | exact icells_in _ | exact rcells_in _ | exact scells_in _ | exact bcells_in _ | assumption) | fail)
      all_goals exact vrl_flat _ (bcl_in _)
end Go.Proofs.Ytdcodicoclecnaa
/- The document's check of a layout, walked. No conditions. -/
namespace Go.Proofs.Ytdcodicoclecnaa
open Go.RowKit Lift

def MeetP (f g : Fl) : Prop := Ovl f g ∧ ∃ s : Nat, s < 4 ∧ inSub f s ∧ inSub g s
open Classical in
noncomputable def meetB (f g : Fl) : Bool := decide (MeetP f g)
theorem meetB_t {f g : Fl} (h : MeetP f g) : meetB f g = true := by unfold meetB; simpa using h
theorem meetB_f {f g : Fl} (h : ¬ MeetP f g) : meetB f g = false := by unfold meetB; simpa using h
set_option maxRecDepth 100000 in
set_option maxHeartbeats 4000000 in
theorem meet_ac {w : Int} {f g : Fl} (hf : FOk w f) (hg' : FOk w g) : AC Try.prog 80 [flD f, flD g] [] [] (dB (meetB f g)) := by
  refine kref12_meet.ac (n0 := 0) (by simp) ⟨in_flD _ _, in_flD _ _, trivial⟩ trivial rfl ?_
  unfold cref12_meet flD flC
  have f1 := hf.b1; have f2 := hf.s1; have f3 := hf.bs
  have g1 := hg'.b1; have g2 := hg'.s1; have g3 := hg'.bs
  have ef : ¬ f.every = 0 := by have := hf.ev; omega
  have eg : ¬ g.every = 0 := by have := hg'.ev; omega
  by_cases h1 : f.word = g.word
  case neg =>
    rw [meetB_f fun h => h1 h.1.1]
    have q : (f.word != g.word) = true := by simp [h1]
    (repeat' (first | (with_reducible first | refine thenQ_n ?_ | refine blockQ_n ?_ | refine thenQ_e ?_ | refine blockQ_t ?_ | refine blockQ_f (by decide) ?_) | apply aw_seq | apply aw_skip | apply aw_exit | apply aw_ret | apply aw_block | apply aw_condT rfl | apply aw_condF rfl | ((first | refine aw_hide fun K hK => aw_region ?_ | refine ago_if (by omega) ?_ | skip); simp (disch := first | exact okY | omega) only [List.length, Nat.zero_add, Nat.reduceAdd, Nat.reduceMul, envOf, dI, dB, ARun_none, AOpRun, aexec, D.isBot, FSt.ev, St.F, ↓eget_h, Bool.false_eq_true, Option.isSome, hget_n, or_self, ↓reduceIte, D.cells, AGo_ok, St.app, putO, eput_c, Nat.reduceBEq, eput_n, cond_false, hups, hput_n, List.map, eget_c, hget_c, hput_c, ARun_nil, dropE_c, inL_n, dropE_n, Option.map, run1, beq_self_eq_true, cond_true, List.getElem?_cons_zero, ↓hget_h, isSh, abin, q, ARun_some, AG_tf, inL_c, thenQ]) | subst hK))
    all_goals (refine end_q [] [] ?_ ?_ <;> repeat' (first | exact trivial | exact vr_val _))
  have q1 : (f.word != g.word) = false := by simp [h1]
  by_cases h2 : f.bit < g.bit + g.size
  case neg =>
    rw [meetB_f fun h => h2 h.1.2.1]
    have q2 : decide (f.bit ≥ g.bit + g.size) = true := decide_eq_true (by omega)
    (repeat' (first | (with_reducible first | refine thenQ_n ?_ | refine blockQ_n ?_ | refine thenQ_e ?_ | refine blockQ_t ?_ | refine blockQ_f (by decide) ?_) | apply aw_seq | apply aw_skip | apply aw_exit | apply aw_ret | apply aw_block | apply aw_condT rfl | apply aw_condF rfl | ((first | refine aw_hide fun K hK => aw_region ?_ | refine ago_if (by omega) ?_ | skip); simp (disch := first | exact okY | omega) only [List.length, Nat.zero_add, Nat.reduceAdd, Nat.reduceMul, envOf, dI, dB, ARun_none, AOpRun, aexec, D.isBot, FSt.ev, St.F, ↓eget_h, Bool.false_eq_true, Option.isSome, hget_n, or_self, ↓reduceIte, D.cells, AGo_ok, St.app, putO, eput_c, Nat.reduceBEq, eput_n, cond_false, hups, hput_n, List.map, eget_c, hget_c, hput_c, ARun_nil, dropE_c, inL_n, dropE_n, Option.map, run1, beq_self_eq_true, cond_true, List.getElem?_cons_zero, ↓hget_h, isSh, abin, q1, ARun_some, AG_ff, List.getElem?_cons_succ, fits, q2, AG_tf, inL_c, thenQ]) | subst hK))
    all_goals (refine end_q [] [] ?_ ?_ <;> repeat' (first | exact trivial | exact vr_val _))
  have q2 : decide (f.bit ≥ g.bit + g.size) = false := decide_eq_false (by omega)
  by_cases h3 : g.bit < f.bit + f.size
  case neg =>
    rw [meetB_f fun h => h3 h.1.2.2]
    have q3 : decide (g.bit ≥ f.bit + f.size) = true := decide_eq_true (by omega)
    (repeat' (first | (with_reducible first | refine thenQ_n ?_ | refine blockQ_n ?_ | refine thenQ_e ?_ | refine blockQ_t ?_ | refine blockQ_f (by decide) ?_) | apply aw_seq | apply aw_skip | apply aw_exit | apply aw_ret | apply aw_block | apply aw_condT rfl | apply aw_condF rfl | ((first | refine aw_hide fun K hK => aw_region ?_ | refine ago_if (by omega) ?_ | skip); simp (disch := first | exact okY | omega) only [List.length, Nat.zero_add, Nat.reduceAdd, Nat.reduceMul, envOf, dI, dB, ARun_none, AOpRun, aexec, D.isBot, FSt.ev, St.F, ↓eget_h, Bool.false_eq_true, Option.isSome, hget_n, or_self, ↓reduceIte, D.cells, AGo_ok, St.app, putO, eput_c, Nat.reduceBEq, eput_n, cond_false, hups, hput_n, List.map, eget_c, hget_c, hput_c, ARun_nil, dropE_c, inL_n, dropE_n, Option.map, run1, beq_self_eq_true, cond_true, List.getElem?_cons_zero, ↓hget_h, isSh, abin, q1, ARun_some, AG_ff, List.getElem?_cons_succ, fits, q2, q3, inL_c, thenQ]) | subst hK))
    all_goals (refine end_q [] [] ?_ ?_ <;> repeat' (first | exact trivial | exact vr_val _))
  have q3 : decide (g.bit ≥ f.bit + f.size) = false := decide_eq_false (by omega)
  (repeat' (first | (with_reducible first | refine thenQ_n ?_ | refine blockQ_n ?_ | refine thenQ_e ?_ | refine blockQ_t ?_ | refine blockQ_f (by decide) ?_) | apply aw_seq | apply aw_skip | apply aw_exit | apply aw_ret | apply aw_block | apply aw_condT rfl | apply aw_condF rfl | ((first | refine aw_hide fun K hK => aw_region ?_ | refine ago_if (by omega) ?_ | skip); simp (disch := first | exact okY | omega) only [List.length, Nat.zero_add, Nat.reduceAdd, Nat.reduceMul, envOf, dI, dB, ARun_none, AOpRun, aexec, D.isBot, FSt.ev, St.F, ↓eget_h, Bool.false_eq_true, Option.isSome, hget_n, or_self, ↓reduceIte, D.cells, AGo_ok, St.app, putO, eput_c, Nat.reduceBEq, eput_n, cond_false, hups, hput_n, List.map, eget_c, hget_c, hput_c, ARun_nil, dropE_c, inL_n, dropE_n, Option.map, run1, beq_self_eq_true, cond_true, List.getElem?_cons_zero, ↓hget_h, isSh, abin, q1, ARun_some, AG_ff, List.getElem?_cons_succ, fits, q2, q3, inL_c]) | subst hK))
  refine aw_loop (fun s : Nat => ⟨[(2, .ptr 0 0), (3, .ptr 8 0), (4, dB false), (5, dI s)], [(0, [dI f.word, dI f.bit, dI f.size, dB f.sgn, dI f.num, dI f.den, dI f.add, dI f.every, dI f.phase]), (8, [dI g.word, dI g.bit, dI g.size, dB g.sgn, dI g.num, dI g.den, dI g.add, dI g.every, dI g.phase])], 100⟩) (fun s => s ≤ 4 ∧ ∀ t : Nat, t < s → ¬ (inSub f t ∧ inSub g t)) (fun s => 4 - s) ⟨0, ⟨by omega, fun j hj => by omega⟩, ?_⟩ ?_
  · refine wk_q [] [(0, 0), (8, 8)] ?_ ?_ <;> repeat' (first | exact trivial | exact vr_val _ | exact vr_ptr _ _ _ rfl | refine And.intro ⟨_, rfl, .inl ⟨_, rfl, by decide, ?_⟩⟩ ?_ | apply And.intro)
  rintro s ⟨hs, hno⟩
  by_cases hs4 : s < 4
  · have ki : (s : Int) < 4 := by omega
    by_cases hi : inSub f s
    · have qi : ((s : Int).tmod f.every == f.phase) = true := inB_t hi
      by_cases hj : inSub g s
      · have qj : ((s : Int).tmod g.every == g.phase) = true := inB_t hj
        rw [meetB_t ⟨⟨h1, h2, h3⟩, s, hs4, hi, hj⟩]
        (repeat' (first | (with_reducible first | refine thenQ_n ?_ | refine blockQ_n ?_ | refine thenQ_e ?_ | refine blockQ_t ?_ | refine blockQ_f (by decide) ?_) | apply aw_seq | apply aw_skip | apply aw_exit | apply aw_ret | apply aw_block | apply aw_condT rfl | apply aw_condF rfl | ((first | refine aw_hide fun K hK => aw_region ?_ | refine ago_if (by omega) ?_ | skip); simp (disch := first | exact okY | omega) only [List.length, Nat.zero_add, Nat.reduceAdd, Nat.reduceMul, dB, dI, ARun_none, AOpRun, aexec, FSt.ev, St.F, eget_c, Nat.reduceBEq, ↓eget_h, cond_false, AGo_ok, St.app, putO, eput_c, eput_n, hups, List.map, isSh, Bool.false_eq_true, ↓reduceIte, Option.map, abin, ki, decide_true, ARun_nil, dropE_c, inL_c, inL_n, beq_self_eq_true, cond_true, dropE_n, run1, hget_c, hget_n, List.getElem?_cons_succ, List.getElem?_cons_zero, ef, qi, ARun_some, AG_tt, ↓hget_h, eg, qj, blockQ, thenQ]) | subst hK))
        all_goals (refine end_q [] [] ?_ ?_ <;> repeat' (first | exact trivial | exact vr_val _))
      · have qj : ((s : Int).tmod g.every == g.phase) = false := inB_f hj
        (repeat' (first | (with_reducible first | refine thenQ_n ?_ | refine blockQ_n ?_ | refine thenQ_e ?_ | refine blockQ_t ?_ | refine blockQ_f (by decide) ?_) | apply aw_seq | apply aw_skip | apply aw_exit | apply aw_ret | apply aw_block | apply aw_condT rfl | apply aw_condF rfl | ((first | refine aw_hide fun K hK => aw_region ?_ | refine ago_if (by omega) ?_ | skip); simp (disch := first | exact okY | omega) only [List.length, Nat.zero_add, Nat.reduceAdd, Nat.reduceMul, dB, dI, ARun_none, AOpRun, aexec, FSt.ev, St.F, eget_c, Nat.reduceBEq, ↓eget_h, cond_false, AGo_ok, St.app, putO, eput_c, eput_n, hups, List.map, isSh, Bool.false_eq_true, ↓reduceIte, Option.map, abin, ki, decide_true, ARun_nil, dropE_c, inL_c, inL_n, beq_self_eq_true, cond_true, dropE_n, run1, hget_c, hget_n, List.getElem?_cons_succ, List.getElem?_cons_zero, ef, qi, ARun_some, AG_tt, ↓hget_h, eg, qj, fits]) | subst hK))
        refine ⟨s + 1, ⟨by omega, fun t ht => ?_⟩, by omega, ?_⟩
        · rcases (by omega : t < s ∨ t = s) with h | rfl
          · exact hno t h
          · exact fun h => hj h.2
        · refine wk_q [] [(0, 0), (8, 8)] ?_ ?_ <;> repeat' (first | exact trivial | exact vr_val _ | exact vr_ptr _ _ _ rfl | refine And.intro ⟨_, rfl, .inl ⟨_, rfl, by decide, ?_⟩⟩ ?_ | apply And.intro)
    · have qi : ((s : Int).tmod f.every == f.phase) = false := inB_f hi
      (repeat' (first | (with_reducible first | refine thenQ_n ?_ | refine blockQ_n ?_ | refine thenQ_e ?_ | refine blockQ_t ?_ | refine blockQ_f (by decide) ?_) | apply aw_seq | apply aw_skip | apply aw_exit | apply aw_ret | apply aw_block | apply aw_condT rfl | apply aw_condF rfl | ((first | refine aw_hide fun K hK => aw_region ?_ | refine ago_if (by omega) ?_ | skip); simp (disch := first | exact okY | omega) only [List.length, Nat.zero_add, Nat.reduceAdd, Nat.reduceMul, dB, dI, ARun_none, AOpRun, aexec, FSt.ev, St.F, eget_c, Nat.reduceBEq, ↓eget_h, cond_false, AGo_ok, St.app, putO, eput_c, eput_n, hups, List.map, isSh, Bool.false_eq_true, ↓reduceIte, Option.map, abin, ki, decide_true, ARun_nil, dropE_c, inL_c, inL_n, beq_self_eq_true, cond_true, dropE_n, run1, hget_c, hget_n, List.getElem?_cons_succ, List.getElem?_cons_zero, ef, qi, ARun_some, AG_ft, fits]) | subst hK))
      refine ⟨s + 1, ⟨by omega, fun t ht => ?_⟩, by omega, ?_⟩
      · rcases (by omega : t < s ∨ t = s) with h | rfl
        · exact hno t h
        · exact fun h => hi h.1
      · refine wk_q [] [(0, 0), (8, 8)] ?_ ?_ <;> repeat' (first | exact trivial | exact vr_val _ | exact vr_ptr _ _ _ rfl | refine And.intro ⟨_, rfl, .inl ⟨_, rfl, by decide, ?_⟩⟩ ?_ | apply And.intro)
  · obtain rfl : s = 4 := by omega
    rw [meetB_f fun h => by obtain ⟨_, t, ht, h⟩ := h; exact hno t ht h]
    (repeat' (first | (with_reducible first | refine thenQ_n ?_ | refine blockQ_n ?_ | refine thenQ_e ?_ | refine blockQ_t ?_ | refine blockQ_f (by decide) ?_) | apply aw_seq | apply aw_skip | apply aw_exit | apply aw_ret | apply aw_block | apply aw_condT rfl | apply aw_condF rfl | ((first | refine aw_hide fun K hK => aw_region ?_ | refine ago_if (by omega) ?_ | skip); simp (disch := first | exact okY | omega) only [List.length, Nat.zero_add, Nat.reduceAdd, Nat.reduceMul, dB, dI, cast_lit, ARun_none, AOpRun, aexec, FSt.ev, St.F, eget_c, Nat.reduceBEq, ↓eget_h, cond_false, AGo_ok, St.app, putO, eput_c, eput_n, hups, List.map, isSh, Bool.false_eq_true, ↓reduceIte, Option.map, abin, Int.reduceLT, decide_false, ARun_nil, dropE_c, inL_c, inL_n, beq_self_eq_true, cond_true, dropE_n]) | subst hK))
    all_goals (refine end_q [] [] ?_ ?_ <;> repeat' (first | exact trivial | exact vr_val _))
theorem sync_at (l : Lay) (k : Nat) (hk : k < 4) : ([.val (.int .i64 l.words), .val (.int .i64 l.s0), .val (.int .i64 l.s1), .val (.int .i64 l.s2), .val (.int .i64 l.s3), .list (fls l.fl)] : List D)[1 + k]? = some (.val (.int .i64 ((sync l)[k]?.getD 0))) := by
  rcases (by omega : k = 0 ∨ k = 1 ∨ k = 2 ∨ k = 3) with rfl | rfl | rfl | rfl <;> rfl
set_option maxRecDepth 100000 in
set_option maxHeartbeats 16000000 in
theorem rcheck_ac (l : Lay) (hl : LayIn l) : AC Try.prog 28 [layD l] [] [] (dI (layE l 120)) := by
  refine kref12_Check.ac (n0 := 0) (by simp) ⟨in_layD _ _, trivial⟩ trivial rfl ?_
  unfold cref12_Check layD layC
  have hmax : maxLen = 9223372036854775807 := rfl
  have hnf := hl.nf
  cases h1 : wI l.words 2 32 with
  | false =>
    have e : layE l 120 = 120 := layE_no fun h => by have := wI_f h1; have := h.w1; have := h.w2; omega
    rw [e]
    (repeat' (first | (with_reducible first | refine thenQ_n ?_ | refine blockQ_n ?_ | refine thenQ_e ?_ | refine blockQ_t ?_ | refine blockQ_f (by decide) ?_) | apply aw_seq | apply aw_skip | apply aw_exit | apply aw_ret | apply aw_block | apply aw_condT rfl | apply aw_condF rfl | ((first | refine aw_hide fun K hK => aw_region ?_ | refine acall0 (from_ac _ _ _) ?_ | refine ago_if (by omega) ?_ | skip); simp (disch := first | exact okY | omega) only [List.length, Nat.zero_add, Nat.reduceAdd, Nat.reduceMul, envOf, dI, ARun_none, AOpRun, aexec, D.isBot, FSt.ev, St.F, ↓eget_h, Bool.false_eq_true, Option.isSome, hget_n, or_self, ↓reduceIte, D.cells, AGo_ok, St.app, putO, eput_c, Nat.reduceBEq, eput_n, cond_false, hups, hput_n, List.map, ARun_nil, dropE_c, inL_n, dropE_n, eget_c, Option.map, run1, hget_c, beq_self_eq_true, cond_true, List.getElem?_cons_zero, dB, h1, Bool.not_false, ARun_some, AG_tf, inL_c, thenQ]) | subst hK))
    all_goals (refine end_q [] [] ?_ ?_ <;> repeat' (first | exact trivial | exact vr_val _))
  | true =>
  have w1 := wI_t h1
  by_cases h2 : l.fl.length ≤ 16
  case neg =>
    have e : layE l 120 = 120 := layE_no fun h => h2 h.nf
    have q : decide ((l.fl.length : Int) > 16) = true := decide_eq_true (by omega)
    rw [e]
    (repeat' (first | (with_reducible first | refine thenQ_n ?_ | refine blockQ_n ?_ | refine thenQ_e ?_ | refine blockQ_t ?_ | refine blockQ_f (by decide) ?_) | apply aw_seq | apply aw_skip | apply aw_exit | apply aw_ret | apply aw_block | apply aw_condT rfl | apply aw_condF rfl | ((first | refine aw_hide fun K hK => aw_region ?_ | refine acall0 (from_ac _ _ _) ?_ | refine ago_if (by omega) ?_ | skip); simp (disch := first | exact okY | omega) only [List.length, Nat.zero_add, Nat.reduceAdd, Nat.reduceMul, envOf, dI, ARun_none, AOpRun, aexec, D.isBot, FSt.ev, St.F, ↓eget_h, Bool.false_eq_true, Option.isSome, hget_n, or_self, ↓reduceIte, D.cells, AGo_ok, St.app, putO, eput_c, Nat.reduceBEq, eput_n, cond_false, hups, hput_n, List.map, ARun_nil, dropE_c, inL_n, dropE_n, eget_c, Option.map, run1, hget_c, beq_self_eq_true, cond_true, List.getElem?_cons_zero, dB, h1, Bool.not_true, ARun_some, AG_ff, List.getElem?_cons_succ, fls_len, isSh, abin, q, inL_c, thenQ]) | subst hK))
    all_goals (refine end_q [] [] ?_ ?_ <;> repeat' (first | exact trivial | exact vr_val _))
  have q2 : decide ((l.fl.length : Int) > 16) = false := decide_eq_false (by omega)
  (repeat' (first | (with_reducible first | refine thenQ_n ?_ | refine blockQ_n ?_ | refine thenQ_e ?_ | refine blockQ_t ?_ | refine blockQ_f (by decide) ?_) | apply aw_seq | apply aw_skip | apply aw_exit | apply aw_ret | apply aw_block | apply aw_condT rfl | apply aw_condF rfl | ((first | refine aw_hide fun K hK => aw_region ?_ | refine acall0 (from_ac _ _ _) ?_ | refine ago_if (by omega) ?_ | skip); simp (disch := first | exact okY | omega) only [List.length, Nat.zero_add, Nat.reduceAdd, Nat.reduceMul, envOf, dI, ARun_none, AOpRun, aexec, D.isBot, FSt.ev, St.F, ↓eget_h, Bool.false_eq_true, Option.isSome, hget_n, or_self, ↓reduceIte, D.cells, AGo_ok, St.app, putO, eput_c, Nat.reduceBEq, eput_n, cond_false, hups, hput_n, List.map, ARun_nil, dropE_c, inL_n, dropE_n, eget_c, Option.map, run1, hget_c, beq_self_eq_true, cond_true, List.getElem?_cons_zero, dB, h1, Bool.not_true, ARun_some, AG_ff, List.getElem?_cons_succ, fls_len, isSh, abin, q2, inL_c, Int.reduceNeg]) | subst hK))
  refine aw_loop (fun k : Nat => ⟨[(1, .ptr 0 0), (3, dI k)], [(0, [dI l.words, dI l.s0, dI l.s1, dI l.s2, dI l.s3, .list (fls l.fl)])], 100⟩) (fun k => k ≤ 4 ∧ SyncOk l k) (fun k => 4 - k) ⟨0, ⟨by omega, fun j hj => by omega⟩, ?_⟩ ?_
  · refine wk_q [] [(0, 0)] ?_ ?_ <;> repeat' (first | exact trivial | exact vr_val _ | exact vr_list _ | exact vr_ptr _ _ _ rfl | refine And.intro ⟨_, rfl, .inl ⟨_, rfl, by decide, ?_⟩⟩ ?_ | apply And.intro)
  rintro k ⟨hk, hin⟩
  by_cases hk4 : k < 4
  · have gx := sync_at l k hk4
    have hno := sync_no l k hk4
    have hst := sync_step hk4 hin
    obtain ⟨x, hx⟩ : ∃ x, (sync l)[k]?.getD 0 = x := ⟨_, rfl⟩
    rw [hx] at hno hst gx
    have ki : (k : Int) < 4 := by omega
    cases hw : wI x 0 4095 with
    | false =>
      have e : layE l 120 = 120 := layE_no (hno (.inl hw))
      rw [e]
      (repeat' (first | (with_reducible first | refine thenQ_n ?_ | refine blockQ_n ?_ | refine thenQ_e ?_ | refine blockQ_t ?_ | refine blockQ_f (by decide) ?_) | apply aw_seq | apply aw_skip | apply aw_exit | apply aw_ret | apply aw_block | apply aw_condT rfl | apply aw_condF rfl | ((first | refine aw_hide fun K hK => aw_region ?_ | refine acall0 (from_ac _ _ _) ?_ | refine ago_if (by omega) ?_ | skip); simp (disch := first | exact okY | omega) only [List.length, Nat.zero_add, Nat.reduceAdd, Nat.reduceMul, dI, ARun_none, AOpRun, aexec, FSt.ev, St.F, eget_c, Nat.reduceBEq, ↓eget_h, cond_false, AGo_ok, St.app, putO, eput_c, eput_n, hups, List.map, isSh, Bool.false_eq_true, ↓reduceIte, Option.map, abin, ki, decide_true, ARun_nil, dropE_c, inL_c, inL_n, beq_self_eq_true, cond_true, dropE_n, Int.natCast_nonneg, cast_lit, and_self, Int.toNat_natCast, Nat.mul_one, run1, hget_c, hget_n, Nat.add_zero, gx, dB, hw, Bool.not_false, thenQ, blockQ]) | subst hK))
      all_goals (refine end_q [] [] ?_ ?_ <;> repeat' (first | exact trivial | exact vr_val _))
    | true =>
      (repeat' (first | (with_reducible first | refine thenQ_n ?_ | refine blockQ_n ?_ | refine thenQ_e ?_ | refine blockQ_t ?_ | refine blockQ_f (by decide) ?_) | apply aw_seq | apply aw_skip | apply aw_exit | apply aw_ret | apply aw_block | apply aw_condT rfl | apply aw_condF rfl | ((first | refine aw_hide fun K hK => aw_region ?_ | refine acall0 (from_ac _ _ _) ?_ | refine ago_if (by omega) ?_ | skip); simp (disch := first | exact okY | omega) only [List.length, Nat.zero_add, Nat.reduceAdd, Nat.reduceMul, dI, ARun_none, AOpRun, aexec, FSt.ev, St.F, eget_c, Nat.reduceBEq, ↓eget_h, cond_false, AGo_ok, St.app, putO, eput_c, eput_n, hups, List.map, isSh, Bool.false_eq_true, ↓reduceIte, Option.map, abin, ki, decide_true, ARun_nil, dropE_c, inL_c, inL_n, beq_self_eq_true, cond_true, dropE_n, Int.natCast_nonneg, cast_lit, and_self, Int.toNat_natCast, Nat.mul_one, run1, hget_c, hget_n, Nat.add_zero, gx, dB, hw, Bool.not_true, Int.reduceNeg]) | subst hK))
      refine aw_loop (fun j : Nat => ⟨[(1, .ptr 0 0), (3, dI k), (4, dI j)], [(0, [dI l.words, dI l.s0, dI l.s1, dI l.s2, dI l.s3, .list (fls l.fl)])], 100⟩) (fun j => j ≤ k ∧ ∀ i, i < j → (sync l)[i]?.getD 0 ≠ x) (fun j => k - j) ⟨0, ⟨by omega, fun j hj => by omega⟩, ?_⟩ ?_
      · refine wk_q [] [(0, 0)] ?_ ?_ <;> repeat' (first | exact trivial | exact vr_val _ | exact vr_list _ | exact vr_ptr _ _ _ rfl | refine And.intro ⟨_, rfl, .inl ⟨_, rfl, by decide, ?_⟩⟩ ?_ | apply And.intro)
      rintro j ⟨hj, hne⟩
      by_cases hjk : j < k
      · have gj := sync_at l j (by omega)
        have kj : (j : Int) < (k : Int) := by omega
        have kj4 : (j : Int) < 4 := by omega
        by_cases he : (sync l)[j]?.getD 0 = x
        · have q : (x == (sync l)[j]?.getD 0) = true := by simp [he]
          have e : layE l 120 = 120 := layE_no (hno (.inr (by
            have hj4 : j < (sync l).length := by simp [sync]; omega
            rw [List.mem_take_iff_getElem]
            exact ⟨j, by omega, by simpa [hj4] using he⟩)))
          rw [e]
          (repeat' (first | (with_reducible first | refine thenQ_n ?_ | refine blockQ_n ?_ | refine thenQ_e ?_ | refine blockQ_t ?_ | refine blockQ_f (by decide) ?_) | apply aw_seq | apply aw_skip | apply aw_exit | apply aw_ret | apply aw_block | apply aw_condT rfl | apply aw_condF rfl | ((first | refine aw_hide fun K hK => aw_region ?_ | refine ago_if (by omega) ?_ | skip); simp (disch := first | exact okY | omega) only [List.length, Nat.zero_add, Nat.reduceAdd, Nat.reduceMul, dI, ARun_none, AOpRun, aexec, FSt.ev, St.F, eget_c, Nat.reduceBEq, ↓eget_h, cond_false, AGo_ok, St.app, putO, eput_c, eput_n, hups, List.map, isSh, Bool.false_eq_true, ↓reduceIte, Option.map, abin, kj, decide_true, ARun_nil, dropE_c, inL_c, inL_n, beq_self_eq_true, cond_true, dropE_n, Int.natCast_nonneg, cast_lit, ki, and_self, Int.toNat_natCast, Nat.mul_one, run1, hget_c, hget_n, Nat.add_zero, gx, kj4, gj, q, blockQ, thenQ]) | subst hK))
          all_goals (refine end_q [] [] ?_ ?_ <;> repeat' (first | exact trivial | exact vr_val _))
        · have q : (x == (sync l)[j]?.getD 0) = false := by simp only [beq_eq_false_iff_ne]; exact fun h => he h.symm
          (repeat' (first | (with_reducible first | refine thenQ_n ?_ | refine blockQ_n ?_ | refine thenQ_e ?_ | refine blockQ_t ?_ | refine blockQ_f (by decide) ?_) | apply aw_seq | apply aw_skip | apply aw_exit | apply aw_ret | apply aw_block | apply aw_condT rfl | apply aw_condF rfl | ((first | refine aw_hide fun K hK => aw_region ?_ | refine ago_if (by omega) ?_ | skip); simp (disch := first | exact okY | omega) only [List.length, Nat.zero_add, Nat.reduceAdd, Nat.reduceMul, dI, ARun_none, AOpRun, aexec, FSt.ev, St.F, eget_c, Nat.reduceBEq, ↓eget_h, cond_false, AGo_ok, St.app, putO, eput_c, eput_n, hups, List.map, isSh, Bool.false_eq_true, ↓reduceIte, Option.map, abin, kj, decide_true, ARun_nil, dropE_c, inL_c, inL_n, beq_self_eq_true, cond_true, dropE_n, Int.natCast_nonneg, cast_lit, ki, and_self, Int.toNat_natCast, Nat.mul_one, run1, hget_c, hget_n, Nat.add_zero, gx, kj4, gj, q, fits, ne_eq]) | subst hK))
          refine ⟨j + 1, ⟨by omega, fun i hi => ?_⟩, by omega, ?_⟩
          · rcases (by omega : i < j ∨ i = j) with h | rfl
            · exact hne i h
            · exact he
          · refine wk_q [] [(0, 0)] ?_ ?_ <;> repeat' (first | exact trivial | exact vr_val _ | exact vr_list _ | exact vr_ptr _ _ _ rfl | refine And.intro ⟨_, rfl, .inl ⟨_, rfl, by decide, ?_⟩⟩ ?_ | apply And.intro)
      · obtain rfl : j = k := by omega
        (have hg : (987654321 : Nat) - 987654321 = 0 := rfl; have hr := hg; repeat' (first | (with_reducible first | refine thenQ_n ?_ | refine blockQ_n ?_ | refine thenQ_e ?_ | refine blockQ_t ?_ | refine blockQ_f (by decide) ?_) | apply aw_seq | apply aw_skip | apply aw_exit | apply aw_ret | apply aw_block | apply aw_condT rfl | apply aw_condF rfl | (refine aw_cond rfl (fun hg => ?_) (fun hg => ?_) <;> (try (have hq := hg; simp only [Bool.not_eq_true', Bool.not_eq_false', Bool.and_eq_true, Bool.and_eq_false_iff, Bool.or_eq_true, Bool.or_eq_false_iff, decide_eq_true_eq, decide_eq_false_iff_not, bne_iff_ne, beq_iff_eq, beq_eq_false_iff_ne, bne_eq_false_iff_eq, ne_eq, Int.not_lt, Int.not_le, Decidable.not_not] at hq)) <;> (try (have hr := hg; simp only [decide_eq_true_eq, decide_eq_false_iff_not] at hr)) <;> (try (exfalso; omega))) | ((first | refine aw_hide fun K hK => aw_region ?_ | refine ago_if (by omega) ?_ | skip); simp (disch := first | exact okY | omega) only [List.length, Nat.zero_add, Nat.reduceAdd, Nat.reduceMul, dI, ARun_none, AOpRun, aexec, FSt.ev, St.F, eget_c, Nat.reduceBEq, ↓eget_h, cond_false, AGo_ok, St.app, putO, eput_c, eput_n, hups, List.map, isSh, Bool.false_eq_true, ↓reduceIte, Option.map, abin, ARun_nil, dropE_c, inL_c, inL_n, beq_self_eq_true, cond_true, dropE_n, hr, decide_false, fits]) | subst hK))
        refine ⟨j + 1, ⟨by omega, hst hw fun h => ?_⟩, by omega, ?_⟩
        · obtain ⟨i, hi, he⟩ := List.getElem_of_mem h
          have hij : i < j := by simp at hi; omega
          rw [List.getElem_take] at he
          have hi4 : i < (sync l).length := by simp [sync]; omega
          exact hne i hij (by simp [hi4, he])
        · refine wk_q [] [(0, 0)] ?_ ?_ <;> repeat' (first | exact trivial | exact vr_val _ | exact vr_list _ | exact vr_ptr _ _ _ rfl | refine And.intro ⟨_, rfl, .inl ⟨_, rfl, by decide, ?_⟩⟩ ?_ | apply And.intro)
  obtain rfl : k = 4 := by omega
  have cF : ∀ k, k < l.fl.length → (fls l.fl)[k]? = some (flC (fAt l k)) := fun k h => fls_gd l.fl k h
  (repeat' (first | (with_reducible first | refine thenQ_n ?_ | refine blockQ_n ?_ | refine thenQ_e ?_ | refine blockQ_t ?_ | refine blockQ_f (by decide) ?_) | apply aw_seq | apply aw_skip | apply aw_exit | apply aw_ret | apply aw_block | apply aw_condT rfl | apply aw_condF rfl | ((first | refine aw_hide fun K hK => aw_region ?_ | refine ago_if (by omega) ?_ | skip); simp (disch := first | exact okY | omega) only [List.length, Nat.zero_add, Nat.reduceAdd, Nat.reduceMul, dI, cast_lit, ARun_none, AOpRun, aexec, FSt.ev, St.F, eget_c, Nat.reduceBEq, ↓eget_h, cond_false, AGo_ok, St.app, putO, eput_c, eput_n, hups, List.map, isSh, Bool.false_eq_true, ↓reduceIte, Option.map, abin, Int.reduceLT, decide_false, ARun_nil, dropE_c, inL_c, inL_n, beq_self_eq_true, cond_true, dropE_n]) | subst hK))
  refine aw_loop (fun k : Nat => ⟨[(1, .ptr 0 0), (5, dI k)], [(0, [dI l.words, dI l.s0, dI l.s1, dI l.s2, dI l.s3, .list (fls l.fl)])], 100⟩) (fun k => k ≤ l.fl.length ∧ ∀ j, j < k → FOk l.words (fAt l j)) (fun k => l.fl.length - k) ⟨0, ⟨by omega, fun j hj => by omega⟩, ?_⟩ ?_
  · refine wk_q [] [(0, 0)] ?_ ?_ <;> repeat' (first | exact trivial | exact vr_val _ | exact vr_list _ | exact vr_ptr _ _ _ rfl | refine And.intro ⟨_, rfl, .inl ⟨_, rfl, by decide, ?_⟩⟩ ?_ | apply And.intro)
  · rintro k ⟨hk, hfo⟩
    by_cases hk2 : k < l.fl.length
    · have g1 := cF k hk2
      have ki : (k : Int) < (l.fl.length : Int) := by omega
      have no : ¬ FOk l.words (fAt l k) → layE l 120 = 120 := fun h => layE_no fun ho => h (ho.fo k hk2)
      have yes : FOk l.words (fAt l k) → ∀ j, j < k + 1 → FOk l.words (fAt l j) := fun h j hj => by
        rcases (by omega : j < k ∨ j = k) with h' | rfl
        · exact hfo j h'
        · exact h
      generalize fAt l k = f at g1 no yes

      cases c1 : wI f.word 1 (l.words - 1) with
      | false =>
        rw [no fun hf => by have h := c1; have := wI_f h; have := hf.w1; have := hf.w2; omega]
        (repeat' (first | (with_reducible first | refine thenQ_n ?_ | refine blockQ_n ?_ | refine thenQ_e ?_ | refine blockQ_t ?_ | refine blockQ_f (by decide) ?_) | apply aw_seq | apply aw_skip | apply aw_exit | apply aw_ret | apply aw_block | apply aw_condT rfl | apply aw_condF rfl | ((first | refine aw_hide fun K hK => aw_region ?_ | refine acall0 (from_ac _ _ _) ?_ | refine ago_if (by omega) ?_ | skip); simp (disch := first | exact okY | omega) only [List.length, Nat.zero_add, Nat.reduceAdd, Nat.reduceMul, dI, ARun_none, AOpRun, aexec, FSt.ev, St.F, eget_c, Nat.reduceBEq, ↓eget_h, cond_false, AGo_ok, St.app, putO, eput_c, eput_n, hups, List.map, Option.map, run1, hget_c, beq_self_eq_true, hget_n, cond_true, List.getElem?_cons_succ, List.getElem?_cons_zero, fls_len, isSh, Bool.false_eq_true, ↓reduceIte, abin, ki, decide_true, ARun_nil, dropE_c, inL_c, inL_n, dropE_n, Int.natCast_nonneg, fls_all, and_self, opt1, Int.toNat_natCast, g1, flC, dB, Nat.reduceLeDiff, List.take, Option.isSome, hput_c, hput_n, ↓hget_h, D.isBot, D.cells, List.all, D.leaf, Bool.and_true, splice, List.nil_append, List.drop, List.append_nil, Int.reduceNeg, fits, c1, Bool.not_false, ARun_some, AG_tf, Nat.mul_one, thenQ, blockQ]) | subst hK))
        all_goals (refine end_q [] [] ?_ ?_ <;> repeat' (first | exact trivial | exact vr_val _))
      | true =>
      have b1 := wI_t c1
      cases c2 : wI f.bit 0 12 with
      | false =>
        rw [no fun hf => by have h := c2; have := wI_f h; have := hf.b1; have := hf.bs; have := hf.s1; omega]
        (repeat' (first | (with_reducible first | refine thenQ_n ?_ | refine blockQ_n ?_ | refine thenQ_e ?_ | refine blockQ_t ?_ | refine blockQ_f (by decide) ?_) | apply aw_seq | apply aw_skip | apply aw_exit | apply aw_ret | apply aw_block | apply aw_condT rfl | apply aw_condF rfl | ((first | refine aw_hide fun K hK => aw_region ?_ | refine acall0 (from_ac _ _ _) ?_ | refine ago_if (by omega) ?_ | skip); simp (disch := first | exact okY | omega) only [List.length, Nat.zero_add, Nat.reduceAdd, Nat.reduceMul, dI, ARun_none, AOpRun, aexec, FSt.ev, St.F, eget_c, Nat.reduceBEq, ↓eget_h, cond_false, AGo_ok, St.app, putO, eput_c, eput_n, hups, List.map, Option.map, run1, hget_c, beq_self_eq_true, hget_n, cond_true, List.getElem?_cons_succ, List.getElem?_cons_zero, fls_len, isSh, Bool.false_eq_true, ↓reduceIte, abin, ki, decide_true, ARun_nil, dropE_c, inL_c, inL_n, dropE_n, Int.natCast_nonneg, fls_all, and_self, opt1, Int.toNat_natCast, g1, flC, dB, Nat.reduceLeDiff, List.take, Option.isSome, hput_c, hput_n, ↓hget_h, D.isBot, D.cells, List.all, D.leaf, Bool.and_true, splice, List.nil_append, List.drop, List.append_nil, Int.reduceNeg, fits, c1, Bool.not_true, ARun_some, AG_ff, c2, Bool.not_false, AG_tf, Nat.mul_one, thenQ, blockQ]) | subst hK))
        all_goals (refine end_q [] [] ?_ ?_ <;> repeat' (first | exact trivial | exact vr_val _))
      | true =>
      have b2 := wI_t c2
      cases c3 : wI f.size 1 12 with
      | false =>
        rw [no fun hf => by have h := c3; have := wI_f h; have := hf.b1; have := hf.bs; have := hf.s1; omega]
        (repeat' (first | (with_reducible first | refine thenQ_n ?_ | refine blockQ_n ?_ | refine thenQ_e ?_ | refine blockQ_t ?_ | refine blockQ_f (by decide) ?_) | apply aw_seq | apply aw_skip | apply aw_exit | apply aw_ret | apply aw_block | apply aw_condT rfl | apply aw_condF rfl | ((first | refine aw_hide fun K hK => aw_region ?_ | refine acall0 (from_ac _ _ _) ?_ | refine ago_if (by omega) ?_ | skip); simp (disch := first | exact okY | omega) only [List.length, Nat.zero_add, Nat.reduceAdd, Nat.reduceMul, dI, ARun_none, AOpRun, aexec, FSt.ev, St.F, eget_c, Nat.reduceBEq, ↓eget_h, cond_false, AGo_ok, St.app, putO, eput_c, eput_n, hups, List.map, Option.map, run1, hget_c, beq_self_eq_true, hget_n, cond_true, List.getElem?_cons_succ, List.getElem?_cons_zero, fls_len, isSh, Bool.false_eq_true, ↓reduceIte, abin, ki, decide_true, ARun_nil, dropE_c, inL_c, inL_n, dropE_n, Int.natCast_nonneg, fls_all, and_self, opt1, Int.toNat_natCast, g1, flC, dB, Nat.reduceLeDiff, List.take, Option.isSome, hput_c, hput_n, ↓hget_h, D.isBot, D.cells, List.all, D.leaf, Bool.and_true, splice, List.nil_append, List.drop, List.append_nil, Int.reduceNeg, fits, c1, Bool.not_true, ARun_some, AG_ff, c2, c3, Bool.not_false, AG_tf, Nat.mul_one, thenQ, blockQ]) | subst hK))
        all_goals (refine end_q [] [] ?_ ?_ <;> repeat' (first | exact trivial | exact vr_val _))
      | true =>
      have b3 := wI_t c3
      cases c4 : decide (f.bit + f.size > 12) with
      | true =>
        rw [no fun hf => by have := hf.bs; have := of_decide_eq_true c4; omega]
        (repeat' (first | (with_reducible first | refine thenQ_n ?_ | refine blockQ_n ?_ | refine thenQ_e ?_ | refine blockQ_t ?_ | refine blockQ_f (by decide) ?_) | apply aw_seq | apply aw_skip | apply aw_exit | apply aw_ret | apply aw_block | apply aw_condT rfl | apply aw_condF rfl | ((first | refine aw_hide fun K hK => aw_region ?_ | refine acall0 (from_ac _ _ _) ?_ | refine ago_if (by omega) ?_ | skip); simp (disch := first | exact okY | omega) only [List.length, Nat.zero_add, Nat.reduceAdd, Nat.reduceMul, dI, ARun_none, AOpRun, aexec, FSt.ev, St.F, eget_c, Nat.reduceBEq, ↓eget_h, cond_false, AGo_ok, St.app, putO, eput_c, eput_n, hups, List.map, Option.map, run1, hget_c, beq_self_eq_true, hget_n, cond_true, List.getElem?_cons_succ, List.getElem?_cons_zero, fls_len, isSh, Bool.false_eq_true, ↓reduceIte, abin, ki, decide_true, ARun_nil, dropE_c, inL_c, inL_n, dropE_n, Int.natCast_nonneg, fls_all, and_self, opt1, Int.toNat_natCast, g1, flC, dB, Nat.reduceLeDiff, List.take, Option.isSome, hput_c, hput_n, ↓hget_h, D.isBot, D.cells, List.all, D.leaf, Bool.and_true, splice, List.nil_append, List.drop, List.append_nil, Int.reduceNeg, fits, c1, Bool.not_true, ARun_some, AG_ff, c2, c3, c4, AG_tf, Nat.mul_one, thenQ, blockQ]) | subst hK))
        all_goals (refine end_q [] [] ?_ ?_ <;> repeat' (first | exact trivial | exact vr_val _))
      | false =>
      cases c5 : wI f.num (-1000) 1000 with
      | false =>
        rw [no fun hf => by have h := c5; have := wI_f h; have := hf.n1; have := hf.n2; omega]
        (repeat' (first | (with_reducible first | refine thenQ_n ?_ | refine blockQ_n ?_ | refine thenQ_e ?_ | refine blockQ_t ?_ | refine blockQ_f (by decide) ?_) | apply aw_seq | apply aw_skip | apply aw_exit | apply aw_ret | apply aw_block | apply aw_condT rfl | apply aw_condF rfl | ((first | refine aw_hide fun K hK => aw_region ?_ | refine acall0 (from_ac _ _ _) ?_ | refine ago_if (by omega) ?_ | skip); simp (disch := first | exact okY | omega) only [List.length, Nat.zero_add, Nat.reduceAdd, Nat.reduceMul, dI, ARun_none, AOpRun, aexec, FSt.ev, St.F, eget_c, Nat.reduceBEq, ↓eget_h, cond_false, AGo_ok, St.app, putO, eput_c, eput_n, hups, List.map, Option.map, run1, hget_c, beq_self_eq_true, hget_n, cond_true, List.getElem?_cons_succ, List.getElem?_cons_zero, fls_len, isSh, Bool.false_eq_true, ↓reduceIte, abin, ki, decide_true, ARun_nil, dropE_c, inL_c, inL_n, dropE_n, Int.natCast_nonneg, fls_all, and_self, opt1, Int.toNat_natCast, g1, flC, dB, Nat.reduceLeDiff, List.take, Option.isSome, hput_c, hput_n, ↓hget_h, D.isBot, D.cells, List.all, D.leaf, Bool.and_true, splice, List.nil_append, List.drop, List.append_nil, Int.reduceNeg, fits, c1, Bool.not_true, ARun_some, AG_ff, c2, c3, c4, c5, Bool.not_false, AG_tf, Nat.mul_one, thenQ, blockQ]) | subst hK))
        all_goals (refine end_q [] [] ?_ ?_ <;> repeat' (first | exact trivial | exact vr_val _))
      | true =>
      have b5 := wI_t c5
      cases c6 : wI f.den 1 1000 with
      | false =>
        rw [no fun hf => by have h := c6; have := wI_f h; have := hf.d1; have := hf.d2; omega]
        (repeat' (first | (with_reducible first | refine thenQ_n ?_ | refine blockQ_n ?_ | refine thenQ_e ?_ | refine blockQ_t ?_ | refine blockQ_f (by decide) ?_) | apply aw_seq | apply aw_skip | apply aw_exit | apply aw_ret | apply aw_block | apply aw_condT rfl | apply aw_condF rfl | ((first | refine aw_hide fun K hK => aw_region ?_ | refine acall0 (from_ac _ _ _) ?_ | refine ago_if (by omega) ?_ | skip); simp (disch := first | exact okY | omega) only [List.length, Nat.zero_add, Nat.reduceAdd, Nat.reduceMul, dI, ARun_none, AOpRun, aexec, FSt.ev, St.F, eget_c, Nat.reduceBEq, ↓eget_h, cond_false, AGo_ok, St.app, putO, eput_c, eput_n, hups, List.map, Option.map, run1, hget_c, beq_self_eq_true, hget_n, cond_true, List.getElem?_cons_succ, List.getElem?_cons_zero, fls_len, isSh, Bool.false_eq_true, ↓reduceIte, abin, ki, decide_true, ARun_nil, dropE_c, inL_c, inL_n, dropE_n, Int.natCast_nonneg, fls_all, and_self, opt1, Int.toNat_natCast, g1, flC, dB, Nat.reduceLeDiff, List.take, Option.isSome, hput_c, hput_n, ↓hget_h, D.isBot, D.cells, List.all, D.leaf, Bool.and_true, splice, List.nil_append, List.drop, List.append_nil, Int.reduceNeg, fits, c1, Bool.not_true, ARun_some, AG_ff, c2, c3, c4, c5, c6, Bool.not_false, AG_tf, Nat.mul_one, thenQ, blockQ]) | subst hK))
        all_goals (refine end_q [] [] ?_ ?_ <;> repeat' (first | exact trivial | exact vr_val _))
      | true =>
      have b6 := wI_t c6
      cases c7 : wI f.add (-1000000) 1000000 with
      | false =>
        rw [no fun hf => by have h := c7; have := wI_f h; have := hf.a1; have := hf.a2; omega]
        (repeat' (first | (with_reducible first | refine thenQ_n ?_ | refine blockQ_n ?_ | refine thenQ_e ?_ | refine blockQ_t ?_ | refine blockQ_f (by decide) ?_) | apply aw_seq | apply aw_skip | apply aw_exit | apply aw_ret | apply aw_block | apply aw_condT rfl | apply aw_condF rfl | ((first | refine aw_hide fun K hK => aw_region ?_ | refine acall0 (from_ac _ _ _) ?_ | refine ago_if (by omega) ?_ | skip); simp (disch := first | exact okY | omega) only [List.length, Nat.zero_add, Nat.reduceAdd, Nat.reduceMul, dI, ARun_none, AOpRun, aexec, FSt.ev, St.F, eget_c, Nat.reduceBEq, ↓eget_h, cond_false, AGo_ok, St.app, putO, eput_c, eput_n, hups, List.map, Option.map, run1, hget_c, beq_self_eq_true, hget_n, cond_true, List.getElem?_cons_succ, List.getElem?_cons_zero, fls_len, isSh, Bool.false_eq_true, ↓reduceIte, abin, ki, decide_true, ARun_nil, dropE_c, inL_c, inL_n, dropE_n, Int.natCast_nonneg, fls_all, and_self, opt1, Int.toNat_natCast, g1, flC, dB, Nat.reduceLeDiff, List.take, Option.isSome, hput_c, hput_n, ↓hget_h, D.isBot, D.cells, List.all, D.leaf, Bool.and_true, splice, List.nil_append, List.drop, List.append_nil, Int.reduceNeg, fits, c1, Bool.not_true, ARun_some, AG_ff, c2, c3, c4, c5, c6, c7, Bool.not_false, Nat.mul_one, thenQ, blockQ]) | subst hK))
        all_goals (refine end_q [] [] ?_ ?_ <;> repeat' (first | exact trivial | exact vr_val _))
      | true =>
      have b7 := wI_t c7
      have b4 := of_decide_eq_false c4
      by_cases hev : f.every = 1 ∨ f.every = 2 ∨ f.every = 4
      case neg =>
        have r1 : (f.every != 1) = true := by simp only [bne_iff_ne]; omega
        have r2 : (f.every != 2) = true := by simp only [bne_iff_ne]; omega
        have r3 : (f.every != 4) = true := by simp only [bne_iff_ne]; omega
        rw [no fun hf => hev hf.ev]
        (repeat' (first | (with_reducible first | refine thenQ_n ?_ | refine blockQ_n ?_ | refine thenQ_e ?_ | refine blockQ_t ?_ | refine blockQ_f (by decide) ?_) | apply aw_seq | apply aw_skip | apply aw_exit | apply aw_ret | apply aw_block | apply aw_condT rfl | apply aw_condF rfl | ((first | refine aw_hide fun K hK => aw_region ?_ | refine acall0 (from_ac _ _ _) ?_ | refine ago_if (by omega) ?_ | skip); simp (disch := first | exact okY | omega) only [List.length, Nat.zero_add, Nat.reduceAdd, Nat.reduceMul, dI, ARun_none, AOpRun, aexec, FSt.ev, St.F, eget_c, Nat.reduceBEq, ↓eget_h, cond_false, AGo_ok, St.app, putO, eput_c, eput_n, hups, List.map, Option.map, run1, hget_c, beq_self_eq_true, hget_n, cond_true, List.getElem?_cons_succ, List.getElem?_cons_zero, fls_len, isSh, Bool.false_eq_true, ↓reduceIte, abin, ki, decide_true, ARun_nil, dropE_c, inL_c, inL_n, dropE_n, Int.natCast_nonneg, fls_all, and_self, opt1, Int.toNat_natCast, g1, flC, dB, Nat.reduceLeDiff, List.take, Option.isSome, hput_c, hput_n, ↓hget_h, D.isBot, D.cells, List.all, D.leaf, Bool.and_true, splice, List.nil_append, List.drop, List.append_nil, Int.reduceNeg, fits, c1, Bool.not_true, ARun_some, AG_ff, c2, c3, c4, c5, c6, c7, r1, AG_tt, r2, r3, AG_tf, Nat.mul_one, blockQ, thenQ]) | subst hK))
        all_goals (refine end_q [] [] ?_ ?_ <;> repeat' (first | exact trivial | exact vr_val _))
      have he1 : 1 ≤ f.every := by omega
      have he4 : f.every ≤ 4 := by omega
      have fin : wI f.phase 0 (f.every - 1) = true → FOk l.words f := fun h => by
        have := wI_t h
        exact ⟨b1.1, b1.2, b2.1, b3.1, by omega, b5.1, b5.2, b6.1, b6.2, b7.1, b7.2, hev, this.1, this.2⟩
      cases c9 : wI f.phase 0 (f.every - 1) with
      | false =>
        rw [no fun hf => by have := wI_f c9; have := hf.p1; have := hf.p2; omega]
        rcases hev with hev | hev | hev
        · have r1 : (f.every != 1) = false := (by simp [hev])
          (repeat' (first | (with_reducible first | refine thenQ_n ?_ | refine blockQ_n ?_ | refine thenQ_e ?_ | refine blockQ_t ?_ | refine blockQ_f (by decide) ?_) | apply aw_seq | apply aw_skip | apply aw_exit | apply aw_ret | apply aw_block | apply aw_condT rfl | apply aw_condF rfl | ((first | refine aw_hide fun K hK => aw_region ?_ | refine acall0 (from_ac _ _ _) ?_ | refine ago_if (by omega) ?_ | skip); simp (disch := first | exact okY | omega) only [List.length, Nat.zero_add, Nat.reduceAdd, Nat.reduceMul, dI, ARun_none, AOpRun, aexec, FSt.ev, St.F, eget_c, Nat.reduceBEq, ↓eget_h, cond_false, AGo_ok, St.app, putO, eput_c, eput_n, hups, List.map, Option.map, run1, hget_c, beq_self_eq_true, hget_n, cond_true, List.getElem?_cons_succ, List.getElem?_cons_zero, fls_len, isSh, Bool.false_eq_true, ↓reduceIte, abin, ki, decide_true, ARun_nil, dropE_c, inL_c, inL_n, dropE_n, Int.natCast_nonneg, fls_all, and_self, opt1, Int.toNat_natCast, g1, flC, dB, Nat.reduceLeDiff, List.take, Option.isSome, hput_c, hput_n, ↓hget_h, D.isBot, D.cells, List.all, D.leaf, Bool.and_true, splice, List.nil_append, List.drop, List.append_nil, Int.reduceNeg, fits, c1, Bool.not_true, ARun_some, AG_ff, c2, c3, c4, c5, c6, c7, r1, AG_ft, c9, Bool.not_false, Nat.mul_one, blockQ, thenQ]) | subst hK))
          all_goals (refine end_q [] [] ?_ ?_ <;> repeat' (first | exact trivial | exact vr_val _))
        · have r1 : (f.every != 1) = true := (by simp [hev]); have r2 : (f.every != 2) = false := (by simp [hev])
          (repeat' (first | (with_reducible first | refine thenQ_n ?_ | refine blockQ_n ?_ | refine thenQ_e ?_ | refine blockQ_t ?_ | refine blockQ_f (by decide) ?_) | apply aw_seq | apply aw_skip | apply aw_exit | apply aw_ret | apply aw_block | apply aw_condT rfl | apply aw_condF rfl | ((first | refine aw_hide fun K hK => aw_region ?_ | refine acall0 (from_ac _ _ _) ?_ | refine ago_if (by omega) ?_ | skip); simp (disch := first | exact okY | omega) only [List.length, Nat.zero_add, Nat.reduceAdd, Nat.reduceMul, dI, ARun_none, AOpRun, aexec, FSt.ev, St.F, eget_c, Nat.reduceBEq, ↓eget_h, cond_false, AGo_ok, St.app, putO, eput_c, eput_n, hups, List.map, Option.map, run1, hget_c, beq_self_eq_true, hget_n, cond_true, List.getElem?_cons_succ, List.getElem?_cons_zero, fls_len, isSh, Bool.false_eq_true, ↓reduceIte, abin, ki, decide_true, ARun_nil, dropE_c, inL_c, inL_n, dropE_n, Int.natCast_nonneg, fls_all, and_self, opt1, Int.toNat_natCast, g1, flC, dB, Nat.reduceLeDiff, List.take, Option.isSome, hput_c, hput_n, ↓hget_h, D.isBot, D.cells, List.all, D.leaf, Bool.and_true, splice, List.nil_append, List.drop, List.append_nil, Int.reduceNeg, fits, c1, Bool.not_true, ARun_some, AG_ff, c2, c3, c4, c5, c6, c7, r1, AG_tt, r2, AG_ft, c9, Bool.not_false, Nat.mul_one, blockQ, thenQ]) | subst hK))
          all_goals (refine end_q [] [] ?_ ?_ <;> repeat' (first | exact trivial | exact vr_val _))
        · have r1 : (f.every != 1) = true := (by simp [hev]); have r2 : (f.every != 2) = true := (by simp [hev]); have r3 : (f.every != 4) = false := (by simp [hev])
          (repeat' (first | (with_reducible first | refine thenQ_n ?_ | refine blockQ_n ?_ | refine thenQ_e ?_ | refine blockQ_t ?_ | refine blockQ_f (by decide) ?_) | apply aw_seq | apply aw_skip | apply aw_exit | apply aw_ret | apply aw_block | apply aw_condT rfl | apply aw_condF rfl | ((first | refine aw_hide fun K hK => aw_region ?_ | refine acall0 (from_ac _ _ _) ?_ | refine ago_if (by omega) ?_ | skip); simp (disch := first | exact okY | omega) only [List.length, Nat.zero_add, Nat.reduceAdd, Nat.reduceMul, dI, ARun_none, AOpRun, aexec, FSt.ev, St.F, eget_c, Nat.reduceBEq, ↓eget_h, cond_false, AGo_ok, St.app, putO, eput_c, eput_n, hups, List.map, Option.map, run1, hget_c, beq_self_eq_true, hget_n, cond_true, List.getElem?_cons_succ, List.getElem?_cons_zero, fls_len, isSh, Bool.false_eq_true, ↓reduceIte, abin, ki, decide_true, ARun_nil, dropE_c, inL_c, inL_n, dropE_n, Int.natCast_nonneg, fls_all, and_self, opt1, Int.toNat_natCast, g1, flC, dB, Nat.reduceLeDiff, List.take, Option.isSome, hput_c, hput_n, ↓hget_h, D.isBot, D.cells, List.all, D.leaf, Bool.and_true, splice, List.nil_append, List.drop, List.append_nil, Int.reduceNeg, fits, c1, Bool.not_true, ARun_some, AG_ff, c2, c3, c4, c5, c6, c7, r1, AG_tt, r2, r3, c9, Bool.not_false, Nat.mul_one, blockQ, thenQ]) | subst hK))
          all_goals (refine end_q [] [] ?_ ?_ <;> repeat' (first | exact trivial | exact vr_val _))
      | true =>
        rcases hev with hev | hev | hev
        · have r1 : (f.every != 1) = false := (by simp [hev])
          (repeat' (first | (with_reducible first | refine thenQ_n ?_ | refine blockQ_n ?_ | refine thenQ_e ?_ | refine blockQ_t ?_ | refine blockQ_f (by decide) ?_) | apply aw_seq | apply aw_skip | apply aw_exit | apply aw_ret | apply aw_block | apply aw_condT rfl | apply aw_condF rfl | ((first | refine aw_hide fun K hK => aw_region ?_ | refine acall0 (from_ac _ _ _) ?_ | refine ago_if (by omega) ?_ | skip); simp (disch := first | exact okY | omega) only [List.length, Nat.zero_add, Nat.reduceAdd, Nat.reduceMul, dI, ARun_none, AOpRun, aexec, FSt.ev, St.F, eget_c, Nat.reduceBEq, ↓eget_h, cond_false, AGo_ok, St.app, putO, eput_c, eput_n, hups, List.map, Option.map, run1, hget_c, beq_self_eq_true, hget_n, cond_true, List.getElem?_cons_succ, List.getElem?_cons_zero, fls_len, isSh, Bool.false_eq_true, ↓reduceIte, abin, ki, decide_true, ARun_nil, dropE_c, inL_c, inL_n, dropE_n, Int.natCast_nonneg, fls_all, and_self, opt1, Int.toNat_natCast, g1, flC, dB, Nat.reduceLeDiff, List.take, Option.isSome, hput_c, hput_n, ↓hget_h, D.isBot, D.cells, List.all, D.leaf, Bool.and_true, splice, List.nil_append, List.drop, List.append_nil, Int.reduceNeg, fits, c1, Bool.not_true, ARun_some, AG_ff, c2, c3, c4, c5, c6, c7, r1, AG_ft, c9]) | subst hK))
          refine ⟨k + 1, ⟨by omega, yes (fin c9)⟩, by omega, ?_⟩
          refine wk_q [] [(0, 0)] ?_ ?_ <;> repeat' (first | exact trivial | exact vr_val _ | exact vr_list _ | exact vr_ptr _ _ _ rfl | refine And.intro ⟨_, rfl, .inl ⟨_, rfl, by decide, ?_⟩⟩ ?_ | apply And.intro)
        · have r1 : (f.every != 1) = true := (by simp [hev]); have r2 : (f.every != 2) = false := (by simp [hev])
          (repeat' (first | (with_reducible first | refine thenQ_n ?_ | refine blockQ_n ?_ | refine thenQ_e ?_ | refine blockQ_t ?_ | refine blockQ_f (by decide) ?_) | apply aw_seq | apply aw_skip | apply aw_exit | apply aw_ret | apply aw_block | apply aw_condT rfl | apply aw_condF rfl | ((first | refine aw_hide fun K hK => aw_region ?_ | refine acall0 (from_ac _ _ _) ?_ | refine ago_if (by omega) ?_ | skip); simp (disch := first | exact okY | omega) only [List.length, Nat.zero_add, Nat.reduceAdd, Nat.reduceMul, dI, ARun_none, AOpRun, aexec, FSt.ev, St.F, eget_c, Nat.reduceBEq, ↓eget_h, cond_false, AGo_ok, St.app, putO, eput_c, eput_n, hups, List.map, Option.map, run1, hget_c, beq_self_eq_true, hget_n, cond_true, List.getElem?_cons_succ, List.getElem?_cons_zero, fls_len, isSh, Bool.false_eq_true, ↓reduceIte, abin, ki, decide_true, ARun_nil, dropE_c, inL_c, inL_n, dropE_n, Int.natCast_nonneg, fls_all, and_self, opt1, Int.toNat_natCast, g1, flC, dB, Nat.reduceLeDiff, List.take, Option.isSome, hput_c, hput_n, ↓hget_h, D.isBot, D.cells, List.all, D.leaf, Bool.and_true, splice, List.nil_append, List.drop, List.append_nil, Int.reduceNeg, fits, c1, Bool.not_true, ARun_some, AG_ff, c2, c3, c4, c5, c6, c7, r1, AG_tt, r2, AG_ft, c9]) | subst hK))
          refine ⟨k + 1, ⟨by omega, yes (fin c9)⟩, by omega, ?_⟩
          refine wk_q [] [(0, 0)] ?_ ?_ <;> repeat' (first | exact trivial | exact vr_val _ | exact vr_list _ | exact vr_ptr _ _ _ rfl | refine And.intro ⟨_, rfl, .inl ⟨_, rfl, by decide, ?_⟩⟩ ?_ | apply And.intro)
        · have r1 : (f.every != 1) = true := (by simp [hev]); have r2 : (f.every != 2) = true := (by simp [hev]); have r3 : (f.every != 4) = false := (by simp [hev])
          (repeat' (first | (with_reducible first | refine thenQ_n ?_ | refine blockQ_n ?_ | refine thenQ_e ?_ | refine blockQ_t ?_ | refine blockQ_f (by decide) ?_) | apply aw_seq | apply aw_skip | apply aw_exit | apply aw_ret | apply aw_block | apply aw_condT rfl | apply aw_condF rfl | ((first | refine aw_hide fun K hK => aw_region ?_ | refine acall0 (from_ac _ _ _) ?_ | refine ago_if (by omega) ?_ | skip); simp (disch := first | exact okY | omega) only [List.length, Nat.zero_add, Nat.reduceAdd, Nat.reduceMul, dI, ARun_none, AOpRun, aexec, FSt.ev, St.F, eget_c, Nat.reduceBEq, ↓eget_h, cond_false, AGo_ok, St.app, putO, eput_c, eput_n, hups, List.map, Option.map, run1, hget_c, beq_self_eq_true, hget_n, cond_true, List.getElem?_cons_succ, List.getElem?_cons_zero, fls_len, isSh, Bool.false_eq_true, ↓reduceIte, abin, ki, decide_true, ARun_nil, dropE_c, inL_c, inL_n, dropE_n, Int.natCast_nonneg, fls_all, and_self, opt1, Int.toNat_natCast, g1, flC, dB, Nat.reduceLeDiff, List.take, Option.isSome, hput_c, hput_n, ↓hget_h, D.isBot, D.cells, List.all, D.leaf, Bool.and_true, splice, List.nil_append, List.drop, List.append_nil, Int.reduceNeg, fits, c1, Bool.not_true, ARun_some, AG_ff, c2, c3, c4, c5, c6, c7, r1, AG_tt, r2, r3, c9]) | subst hK))
          refine ⟨k + 1, ⟨by omega, yes (fin c9)⟩, by omega, ?_⟩
          refine wk_q [] [(0, 0)] ?_ ?_ <;> repeat' (first | exact trivial | exact vr_val _ | exact vr_list _ | exact vr_ptr _ _ _ rfl | refine And.intro ⟨_, rfl, .inl ⟨_, rfl, by decide, ?_⟩⟩ ?_ | apply And.intro)
    · obtain rfl : k = l.fl.length := by omega
      have hF : ∀ j, j < l.fl.length → FOk l.words (fAt l j) := hfo
      (have hg : (987654321 : Nat) - 987654321 = 0 := rfl; have hr := hg; repeat' (first | (with_reducible first | refine thenQ_n ?_ | refine blockQ_n ?_ | refine thenQ_e ?_ | refine blockQ_t ?_ | refine blockQ_f (by decide) ?_) | apply aw_seq | apply aw_skip | apply aw_exit | apply aw_ret | apply aw_block | apply aw_condT rfl | apply aw_condF rfl | (refine aw_cond rfl (fun hg => ?_) (fun hg => ?_) <;> (try (have hq := hg; simp only [Bool.not_eq_true', Bool.not_eq_false', Bool.and_eq_true, Bool.and_eq_false_iff, Bool.or_eq_true, Bool.or_eq_false_iff, decide_eq_true_eq, decide_eq_false_iff_not, bne_iff_ne, beq_iff_eq, beq_eq_false_iff_ne, bne_eq_false_iff_eq, ne_eq, Int.not_lt, Int.not_le, Decidable.not_not] at hq)) <;> (try (have hr := hg; simp only [decide_eq_true_eq, decide_eq_false_iff_not] at hr)) <;> (try (exfalso; omega))) | ((first | refine aw_hide fun K hK => aw_region ?_ | refine ago_if (by omega) ?_ | skip); simp (disch := first | exact okY | omega) only [List.length, Nat.zero_add, Nat.reduceAdd, Nat.reduceMul, dI, ARun_none, AOpRun, aexec, FSt.ev, St.F, eget_c, Nat.reduceBEq, ↓eget_h, cond_false, AGo_ok, St.app, putO, eput_c, eput_n, hups, List.map, Option.map, run1, hget_c, beq_self_eq_true, hget_n, cond_true, List.getElem?_cons_succ, List.getElem?_cons_zero, fls_len, isSh, Bool.false_eq_true, ↓reduceIte, abin, ARun_nil, dropE_c, inL_c, inL_n, dropE_n, hr, decide_false]) | subst hK))
      refine aw_loop (fun i : Nat => ⟨[(1, .ptr 0 0), (7, dI i)], [(0, [dI l.words, dI l.s0, dI l.s1, dI l.s2, dI l.s3, .list (fls l.fl)])], 100⟩) (fun i => i ≤ l.fl.length ∧ ∀ t, t < i → ∀ j, j < t → ¬ MeetP (fAt l t) (fAt l j)) (fun i => l.fl.length - i) ⟨0, ⟨by omega, fun j hj => by omega⟩, ?_⟩ ?_
      · refine wk_q [] [(0, 0)] ?_ ?_ <;> repeat' (first | exact trivial | exact vr_val _ | exact vr_list _ | exact vr_ptr _ _ _ rfl | refine And.intro ⟨_, rfl, .inl ⟨_, rfl, by decide, ?_⟩⟩ ?_ | apply And.intro)
      rintro i ⟨hi, hme⟩
      by_cases hi2 : i < l.fl.length
      case neg =>
        obtain rfl : i = l.fl.length := by omega
        have e : layE l 120 = 0 := layE_ok ⟨w1.1, w1.2, h2, fun k hk => (hin k hk).1, fun i hi k hk => (hin i hi).2 k hk, hF, fun i hi k hk s hs h3 h4 h5 => hme i hi k hk ⟨h5, s, hs, h3, h4⟩⟩
        rw [e]
        (have hg : (987654321 : Nat) - 987654321 = 0 := rfl; have hr := hg; repeat' (first | (with_reducible first | refine thenQ_n ?_ | refine blockQ_n ?_ | refine thenQ_e ?_ | refine blockQ_t ?_ | refine blockQ_f (by decide) ?_) | apply aw_seq | apply aw_skip | apply aw_exit | apply aw_ret | apply aw_block | apply aw_condT rfl | apply aw_condF rfl | (refine aw_cond rfl (fun hg => ?_) (fun hg => ?_) <;> (try (have hq := hg; simp only [Bool.not_eq_true', Bool.not_eq_false', Bool.and_eq_true, Bool.and_eq_false_iff, Bool.or_eq_true, Bool.or_eq_false_iff, decide_eq_true_eq, decide_eq_false_iff_not, bne_iff_ne, beq_iff_eq, beq_eq_false_iff_ne, bne_eq_false_iff_eq, ne_eq, Int.not_lt, Int.not_le, Decidable.not_not] at hq)) <;> (try (have hr := hg; simp only [decide_eq_true_eq, decide_eq_false_iff_not] at hr)) <;> (try (exfalso; omega))) | ((first | refine aw_hide fun K hK => aw_region ?_ | refine ago_if (by omega) ?_ | skip); simp (disch := first | exact okY | omega) only [List.length, Nat.zero_add, Nat.reduceAdd, Nat.reduceMul, dI, ARun_none, AOpRun, aexec, FSt.ev, St.F, eget_c, Nat.reduceBEq, ↓eget_h, cond_false, AGo_ok, St.app, putO, eput_c, eput_n, hups, List.map, Option.map, run1, hget_c, beq_self_eq_true, hget_n, cond_true, List.getElem?_cons_succ, List.getElem?_cons_zero, fls_len, isSh, Bool.false_eq_true, ↓reduceIte, abin, ARun_nil, dropE_c, inL_c, inL_n, dropE_n, hr, decide_false]) | subst hK))
        all_goals (refine end_q [] [] ?_ ?_ <;> repeat' (first | exact trivial | exact vr_val _))
      have gi := cF i hi2
      have ii : (i : Int) < (l.fl.length : Int) := by omega
      (repeat' (first | (with_reducible first | refine thenQ_n ?_ | refine blockQ_n ?_ | refine thenQ_e ?_ | refine blockQ_t ?_ | refine blockQ_f (by decide) ?_) | apply aw_seq | apply aw_skip | apply aw_exit | apply aw_ret | apply aw_block | apply aw_condT rfl | apply aw_condF rfl | ((first | refine aw_hide fun K hK => aw_region ?_ | refine ago_if (by omega) ?_ | skip); simp (disch := first | exact okY | omega) only [List.length, Nat.zero_add, Nat.reduceAdd, Nat.reduceMul, dI, ARun_none, AOpRun, aexec, FSt.ev, St.F, eget_c, Nat.reduceBEq, ↓eget_h, cond_false, AGo_ok, St.app, putO, eput_c, eput_n, hups, List.map, Option.map, run1, hget_c, beq_self_eq_true, hget_n, cond_true, List.getElem?_cons_succ, List.getElem?_cons_zero, fls_len, isSh, Bool.false_eq_true, ↓reduceIte, abin, ii, decide_true, ARun_nil, dropE_c, inL_c, inL_n, dropE_n]) | subst hK))
      refine aw_loop (fun j : Nat => ⟨[(1, .ptr 0 0), (7, dI i), (8, dI j)], [(0, [dI l.words, dI l.s0, dI l.s1, dI l.s2, dI l.s3, .list (fls l.fl)])], 100⟩) (fun j => j ≤ i ∧ ∀ t, t < j → ¬ MeetP (fAt l i) (fAt l t)) (fun j => i - j) ⟨0, ⟨by omega, fun j hj => by omega⟩, ?_⟩ ?_
      · refine wk_q [] [(0, 0)] ?_ ?_ <;> repeat' (first | exact trivial | exact vr_val _ | exact vr_list _ | exact vr_ptr _ _ _ rfl | refine And.intro ⟨_, rfl, .inl ⟨_, rfl, by decide, ?_⟩⟩ ?_ | apply And.intro)
      rintro j ⟨hj, hmj⟩
      by_cases hj2 : j < i
      case neg =>
        obtain rfl : j = i := by omega
        (have hg : (987654321 : Nat) - 987654321 = 0 := rfl; have hr := hg; repeat' (first | (with_reducible first | refine thenQ_n ?_ | refine blockQ_n ?_ | refine thenQ_e ?_ | refine blockQ_t ?_ | refine blockQ_f (by decide) ?_) | apply aw_seq | apply aw_skip | apply aw_exit | apply aw_ret | apply aw_block | apply aw_condT rfl | apply aw_condF rfl | (refine aw_cond rfl (fun hg => ?_) (fun hg => ?_) <;> (try (have hq := hg; simp only [Bool.not_eq_true', Bool.not_eq_false', Bool.and_eq_true, Bool.and_eq_false_iff, Bool.or_eq_true, Bool.or_eq_false_iff, decide_eq_true_eq, decide_eq_false_iff_not, bne_iff_ne, beq_iff_eq, beq_eq_false_iff_ne, bne_eq_false_iff_eq, ne_eq, Int.not_lt, Int.not_le, Decidable.not_not] at hq)) <;> (try (have hr := hg; simp only [decide_eq_true_eq, decide_eq_false_iff_not] at hr)) <;> (try (exfalso; omega))) | ((first | refine aw_hide fun K hK => aw_region ?_ | refine ago_if (by omega) ?_ | skip); simp (disch := first | exact okY | omega) only [List.length, Nat.zero_add, Nat.reduceAdd, Nat.reduceMul, dI, ARun_none, AOpRun, aexec, FSt.ev, St.F, eget_c, Nat.reduceBEq, ↓eget_h, cond_false, AGo_ok, St.app, putO, eput_c, eput_n, hups, List.map, isSh, Bool.false_eq_true, ↓reduceIte, Option.map, abin, ARun_nil, dropE_c, inL_c, inL_n, beq_self_eq_true, cond_true, dropE_n, hr, decide_false, fits]) | subst hK))
        refine ⟨j + 1, ⟨by omega, fun t ht => ?_⟩, by omega, ?_⟩
        · rcases (by omega : t < j ∨ t = j) with h | rfl
          · exact hme t h
          · exact hmj
        · refine wk_q [] [(0, 0)] ?_ ?_ <;> repeat' (first | exact trivial | exact vr_val _ | exact vr_list _ | exact vr_ptr _ _ _ rfl | refine And.intro ⟨_, rfl, .inl ⟨_, rfl, by decide, ?_⟩⟩ ?_ | apply And.intro)
      have gj := cF j (by omega)
      have ji : (j : Int) < (i : Int) := by omega
      have mac := meet_ac (hF i hi2) (hF j (by omega))
      by_cases hm : MeetP (fAt l i) (fAt l j)
      · have e : layE l 120 = 120 := layE_no fun h => by
          obtain ⟨ho, s, hs, h3, h4⟩ := hm
          exact h.ov i hi2 j hj2 s hs h3 h4 ho
        rw [e]
        rw [meetB_t hm] at mac
        (repeat' (first | (with_reducible first | refine thenQ_n ?_ | refine blockQ_n ?_ | refine thenQ_e ?_ | refine blockQ_t ?_ | refine blockQ_f (by decide) ?_) | apply aw_seq | apply aw_skip | apply aw_exit | apply aw_ret | apply aw_block | apply aw_condT rfl | apply aw_condF rfl | ((first | refine aw_hide fun K hK => aw_region ?_ | refine acall0 (mac) ?_ | refine ago_if (by omega) ?_ | skip); simp (disch := first | exact okY | omega) only [List.length, Nat.zero_add, Nat.reduceAdd, Nat.reduceMul, dI, ARun_none, AOpRun, aexec, FSt.ev, St.F, eget_c, Nat.reduceBEq, ↓eget_h, cond_false, AGo_ok, St.app, putO, eput_c, eput_n, hups, List.map, isSh, Bool.false_eq_true, ↓reduceIte, Option.map, abin, ji, decide_true, ARun_nil, dropE_c, inL_c, inL_n, beq_self_eq_true, cond_true, dropE_n, run1, hget_c, hget_n, List.getElem?_cons_succ, List.getElem?_cons_zero, Int.natCast_nonneg, fls_all, and_self, opt1, Int.toNat_natCast, gi, flC, dB, Nat.reduceLeDiff, List.take, gj, Nat.mul_one, blockQ, thenQ]) | subst hK))
        all_goals (refine end_q [] [] ?_ ?_ <;> repeat' (first | exact trivial | exact vr_val _))
      · rw [meetB_f hm] at mac
        (repeat' (first | (with_reducible first | refine thenQ_n ?_ | refine blockQ_n ?_ | refine thenQ_e ?_ | refine blockQ_t ?_ | refine blockQ_f (by decide) ?_) | apply aw_seq | apply aw_skip | apply aw_exit | apply aw_ret | apply aw_block | apply aw_condT rfl | apply aw_condF rfl | ((first | refine aw_hide fun K hK => aw_region ?_ | refine acall0 (mac) ?_ | refine ago_if (by omega) ?_ | skip); simp (disch := first | exact okY | omega) only [List.length, Nat.zero_add, Nat.reduceAdd, Nat.reduceMul, dI, ARun_none, AOpRun, aexec, FSt.ev, St.F, eget_c, Nat.reduceBEq, ↓eget_h, cond_false, AGo_ok, St.app, putO, eput_c, eput_n, hups, List.map, isSh, Bool.false_eq_true, ↓reduceIte, Option.map, abin, ji, decide_true, ARun_nil, dropE_c, inL_c, inL_n, beq_self_eq_true, cond_true, dropE_n, run1, hget_c, hget_n, List.getElem?_cons_succ, List.getElem?_cons_zero, Int.natCast_nonneg, fls_all, and_self, opt1, Int.toNat_natCast, gi, flC, dB, Nat.reduceLeDiff, List.take, gj, fits]) | subst hK))
        refine ⟨j + 1, ⟨by omega, fun t ht => ?_⟩, by omega, ?_⟩
        · rcases (by omega : t < j ∨ t = j) with h | rfl
          · exact hmj t h
          · exact hm
        · refine wk_q [] [(0, 0)] ?_ ?_ <;> repeat' (first | exact trivial | exact vr_val _ | exact vr_list _ | exact vr_ptr _ _ _ rfl | refine And.intro ⟨_, rfl, .inl ⟨_, rfl, by decide, ?_⟩⟩ ?_ | apply And.intro)
end Go.Proofs.Ytdcodicoclecnaa
/- The functions' bodies, translated. Written by a program; no conditions. -/
namespace Go.Proofs.Ytdcodicoclecnaa
open Go.RowKit Lift

def cref12_Subframe : ACode :=
 (.seq
 (.region false [⟨some 2, .box (.tmp 0), none, []⟩,
 ⟨some 4, .mv (.const (.int .i64 0)), none, []⟩] [])
 (.seq
 (.seq
 (.region false [⟨some 7, .mv (.tmp 1), none, []⟩,
 ⟨some 8, .len_ (.tmp 7), none, []⟩,
 ⟨some 9, .fad 0 (.tmp 2), none, []⟩,
 ⟨some 10, .load1 (.tmp 9), none, []⟩,
 ⟨some 11, .bin .neq (.tmp 8) (.tmp 10), none, []⟩] [7, 8, 9, 10])
 (.cond (.tmp 11)
 (.seq
 (.region false [⟨some 4, .mv (.const (.int .i64 (-1))), none, []⟩] [])
 .ret)
 .skip))
 (.seq
 (.seq
 (.region false [⟨some 5, .mv (.const (.int .i64 0)), none, []⟩] [])
 (.block 0
 (.loop
 (.seq
 (.seq
 (.region false [⟨some 12, .mv (.tmp 5), none, []⟩,
 ⟨some 13, .mv (.tmp 1), none, []⟩,
 ⟨some 14, .len_ (.tmp 13), none, []⟩,
 ⟨some 15, .bin .lss (.tmp 12) (.tmp 14), none, []⟩] [12, 13, 14])
 (.cond (.tmp 15)
 .skip
 (.exit 0)))
 (.seq
 (.block 1
 (.seq
 (.region false [⟨some 18, .mv (.tmp 1), none, []⟩,
 ⟨some 19, .mv (.tmp 5), none, []⟩,
 ⟨some 20, .iadS 1 (.tmp 18) (.tmp 19), none, []⟩,
 ⟨some 21, .load1 (.tmp 20), none, []⟩,
 ⟨some 22, .call (.func 79) [(.tmp 21), (.const (.int .i64 0)), (.const (.int .i64 4095))], none, []⟩,
 ⟨some 23, .un .not (.tmp 22), none, []⟩] [18, 19, 20, 21, 22])
 (.cond (.tmp 23)
 (.seq
 (.region false [⟨some 4, .mv (.const (.int .i64 (-1))), none, []⟩] [])
 .ret)
 .skip)))
 (.region false [⟨some 16, .mv (.tmp 5), none, []⟩,
 ⟨some 17, .bin .add (.tmp 16) (.const (.int .i64 1)), none, []⟩,
 ⟨some 5, .mv (.tmp 17), none, []⟩] [16, 17]))))))
 (.seq
 (.seq
 (.region false [⟨some 6, .mv (.const (.int .i64 0)), none, []⟩] [])
 (.block 2
 (.loop
 (.seq
 (.seq
 (.region false [⟨some 24, .mv (.tmp 6), none, []⟩,
 ⟨some 25, .bin .lss (.tmp 24) (.const (.int .i64 4)), none, []⟩] [24])
 (.cond (.tmp 25)
 .skip
 (.exit 2)))
 (.seq
 (.block 3
 (.seq
 (.region true [⟨some 28, .mv (.tmp 1), none, []⟩,
 ⟨some 29, .iadS 1 (.tmp 28) (.const (.int .i64 0)), none, [0]⟩,
 ⟨some 30, .load1 (.tmp 29), none, [1, 0]⟩,
 ⟨some 31, .mv (.tmp 6), none, []⟩,
 ⟨some 32, .fad 1 (.tmp 2), none, []⟩,
 ⟨some 33, .iadA 4 1 (.tmp 32) (.tmp 31), none, [4, 3]⟩,
 ⟨some 34, .load1 (.tmp 33), none, [5, 4, 3]⟩,
 ⟨some 35, .bin .eql (.tmp 30) (.tmp 34), none, [2, 1, 0, 6, 5, 4, 3]⟩] [28, 29, 30, 31, 32, 33, 34])
 (.cond (.tmp 35)
 (.seq
 (.region false [⟨some 36, .mv (.tmp 6), none, []⟩,
 ⟨some 4, .mv (.tmp 36), none, []⟩] [36])
 .ret)
 .skip)))
 (.region false [⟨some 26, .mv (.tmp 6), none, []⟩,
 ⟨some 27, .bin .add (.tmp 26) (.const (.int .i64 1)), none, []⟩,
 ⟨some 6, .mv (.tmp 27), none, []⟩] [26, 27]))))))
 (.seq
 (.region false [⟨some 4, .mv (.const (.int .i64 (-1))), none, []⟩] [])
 .ret)))))
set_option maxRecDepth 100000 in
theorem kref12_Subframe : IsCode Try.prog 73 37 cref12_Subframe [.tmp 4] :=
 ⟨Try.f73, _, [35, 25, 23, 15, 11, 0, 1, 2, 5, 6, 4], Try.func73, rfl, by decide, rfl, by kernel_rfl, by kernel_rfl⟩
def cref12_CheckFrames : ACode :=
 (.seq
 (.region false [⟨some 2, .box (.tmp 0), none, []⟩,
 ⟨some 4, .mv (.const (.int .i64 0)), none, []⟩] [])
 (.seq
 (.region false [⟨some 6, .loadN 6 (.tmp 2), none, []⟩,
 ⟨some 7, .call (.func 28) [(.tmp 6)], none, []⟩,
 ⟨some 5, .mv (.tmp 7), none, []⟩] [6, 7])
 (.seq
 (.seq
 (.region false [⟨some 8, .mv (.tmp 5), none, []⟩,
 ⟨some 9, .bin .neq (.tmp 8) (.const (.int .i64 0)), none, []⟩] [8])
 (.cond (.tmp 9)
 (.seq
 (.region false [⟨some 10, .mv (.tmp 5), none, []⟩,
 ⟨some 4, .mv (.tmp 10), none, []⟩] [10])
 .ret)
 .skip))
 (.seq
 (.seq
 (.region false [⟨some 11, .mv (.tmp 1), none, []⟩,
 ⟨some 12, .len_ (.tmp 11), none, []⟩,
 ⟨some 13, .bin .gtr (.tmp 12) (.const (.int .i64 200)), none, []⟩] [11, 12])
 (.cond (.tmp 13)
 (.seq
 (.region false [⟨some 4, .mv (.const (.int .i64 2)), none, []⟩] [])
 .ret)
 .skip))
 (.seq
 (.region false [⟨some 4, .mv (.const (.int .i64 0)), none, []⟩] [])
 .ret)))))
set_option maxRecDepth 100000 in
theorem kref12_CheckFrames : IsCode Try.prog 68 14 cref12_CheckFrames [.tmp 4] :=
 ⟨Try.f68, _, [13, 9, 0, 2, 5, 1, 4], Try.func68, rfl, by decide, rfl, by kernel_rfl, by kernel_rfl⟩
def cref12_raw : ACode :=
 (.seq
 (.region false [⟨some 2, .box (.tmp 0), none, []⟩,
 ⟨some 4, .mv (.const (.int .i64 0)), none, []⟩] [])
 (.seq
 (.region true [⟨some 6, .mv (.tmp 1), none, []⟩,
 ⟨some 7, .fad 0 (.tmp 2), none, []⟩,
 ⟨some 8, .load1 (.tmp 7), none, [1]⟩,
 ⟨some 9, .iadS 1 (.tmp 6) (.tmp 8), none, [0, 2, 1]⟩,
 ⟨some 10, .load1 (.tmp 9), none, [3, 0, 2, 1]⟩,
 ⟨some 11, .fad 1 (.tmp 2), none, []⟩,
 ⟨some 12, .load1 (.tmp 11), none, [5]⟩,
 ⟨some 13, .conv .u64 (.tmp 12), none, [6, 5]⟩,
 ⟨some 14, .bin .shr (.tmp 10) (.tmp 13), none, [4, 3, 0, 2, 1, 7, 6, 5]⟩,
 ⟨some 15, .fad 2 (.tmp 2), none, []⟩,
 ⟨some 16, .load1 (.tmp 15), none, [9]⟩,
 ⟨some 17, .conv .u64 (.tmp 16), none, [10, 9]⟩,
 ⟨some 18, .bin .shl (.const (.int .i64 1)) (.tmp 17), none, [11, 10, 9]⟩,
 ⟨some 19, .bin .sub (.tmp 18) (.const (.int .i64 1)), none, [12, 11, 10, 9]⟩,
 ⟨some 20, .bin .and (.tmp 14) (.tmp 19), none, [8, 4, 3, 0, 2, 1, 7, 6, 5, 13, 12, 11, 10, 9]⟩,
 ⟨some 5, .mv (.tmp 20), none, [14, 8, 4, 3, 0, 2, 1, 7, 6, 5, 13, 12, 11, 10, 9]⟩] [6, 7, 8, 9, 10, 11, 12, 13, 14, 15, 16, 17, 18, 19, 20])
 (.seq
 (.seq
 (.region false [⟨some 21, .fad 3 (.tmp 2), none, []⟩,
 ⟨some 22, .load1 (.tmp 21), none, []⟩,
 ⟨some 23, .mv (.tmp 22), none, []⟩,
 ⟨some 24, .mv (.tmp 5), (some (some 23, true)), []⟩,
 ⟨some 25, .fad 2 (.tmp 2), (some (some 23, true)), []⟩,
 ⟨some 26, .load1 (.tmp 25), (some (some 23, true)), []⟩,
 ⟨some 27, .bin .sub (.tmp 26) (.const (.int .i64 1)), (some (some 23, true)), []⟩,
 ⟨some 28, .conv .u64 (.tmp 27), (some (some 23, true)), []⟩,
 ⟨some 29, .bin .shl (.const (.int .i64 1)) (.tmp 28), (some (some 23, true)), []⟩,
 ⟨some 30, .bin .geq (.tmp 24) (.tmp 29), (some (some 23, true)), []⟩,
 ⟨some 31, .pick (.tmp 23) (.tmp 30) (.const (.bool false)), none, []⟩] [21, 22, 23, 24, 25, 26, 27, 28, 29, 30])
 (.cond (.tmp 31)
 (.region false [⟨some 32, .mv (.tmp 5), none, []⟩,
 ⟨some 33, .fad 2 (.tmp 2), none, []⟩,
 ⟨some 34, .load1 (.tmp 33), none, []⟩,
 ⟨some 35, .conv .u64 (.tmp 34), none, []⟩,
 ⟨some 36, .bin .shl (.const (.int .i64 1)) (.tmp 35), none, []⟩,
 ⟨some 37, .bin .sub (.tmp 32) (.tmp 36), none, []⟩,
 ⟨some 5, .mv (.tmp 37), none, []⟩] [32, 33, 34, 35, 36, 37])
 .skip))
 (.seq
 (.region false [⟨some 38, .mv (.tmp 5), none, []⟩,
 ⟨some 4, .mv (.tmp 38), none, []⟩] [38])
 .ret))))
set_option maxRecDepth 100000 in
theorem kref12_raw : IsCode Try.prog 127 39 cref12_raw [.tmp 4] :=
 ⟨Try.f127, _, [31, 0, 1, 2, 5, 4], Try.func127, rfl, by decide, rfl, by kernel_rfl, by kernel_rfl⟩
def cref12_sample : ACode :=
 (.seq
 (.region false [⟨some 3, .box (.tmp 0), none, []⟩,
 ⟨some 4, .box (.tmp 1), none, []⟩,
 ⟨some 6, .mv (.const (.int .i64 0)), none, []⟩,
 ⟨some 7, .mv (.const (.bool false)), none, []⟩] [])
 (.seq
 (.region false [⟨some 9, .loadN 6 (.tmp 3), none, []⟩,
 ⟨some 10, .mv (.tmp 2), none, []⟩,
 ⟨some 11, .call (.func 73) [(.tmp 9), (.tmp 10)], none, []⟩,
 ⟨some 8, .mv (.tmp 11), none, []⟩] [9, 10, 11])
 (.seq
 (.seq
 (.region true [⟨some 12, .mv (.tmp 8), none, []⟩,
 ⟨some 13, .bin .lss (.tmp 12) (.const (.int .i64 0)), none, [0]⟩,
 ⟨some 14, .mv (.tmp 13), none, [1, 0]⟩,
 ⟨some 15, .mv (.tmp 8), (some (some 14, false)), [2, 1, 0]⟩,
 ⟨some 16, .fad 7 (.tmp 4), (some (some 14, false)), [2, 1, 0]⟩,
 ⟨some 17, .load1 (.tmp 16), (some (some 14, false)), [4, 2, 1, 0]⟩,
 ⟨some 18, .bin .rem (.tmp 15) (.tmp 17), (some (some 14, false)), [3, 2, 1, 0, 5, 4]⟩,
 ⟨some 19, .fad 8 (.tmp 4), (some (some 14, false)), [2, 1, 0]⟩,
 ⟨some 20, .load1 (.tmp 19), (some (some 14, false)), [7, 2, 1, 0]⟩,
 ⟨some 21, .bin .neq (.tmp 18) (.tmp 20), (some (some 14, false)), [6, 3, 2, 1, 0, 5, 4, 8, 7]⟩,
 ⟨some 22, .pick (.tmp 14) (.const (.bool true)) (.tmp 21), none, [2, 1, 0, 9, 6, 3, 5, 4, 8, 7]⟩] [12, 13, 14, 15, 16, 17, 18, 19, 20, 21])
 (.cond (.tmp 22)
 (.seq
 (.region false [⟨some 6, .mv (.const (.int .i64 0)), none, []⟩,
 ⟨some 7, .mv (.const (.bool false)), none, []⟩] [])
 .ret)
 .skip))
 (.seq
 (.region true [⟨some 23, .fad 6 (.tmp 4), none, []⟩,
 ⟨some 24, .load1 (.tmp 23), none, [0]⟩,
 ⟨some 25, .fad 5 (.tmp 4), none, []⟩,
 ⟨some 26, .load1 (.tmp 25), none, [2]⟩,
 ⟨some 27, .bin .mul (.tmp 24) (.tmp 26), none, [1, 0, 3, 2]⟩,
 ⟨some 28, .loadN 9 (.tmp 4), none, []⟩,
 ⟨some 29, .mv (.tmp 2), none, []⟩,
 ⟨some 30, .call (.func 127) [(.tmp 28), (.tmp 29)], none, [5, 6]⟩,
 ⟨some 31, .fad 4 (.tmp 4), none, []⟩,
 ⟨some 32, .load1 (.tmp 31), none, [8]⟩,
 ⟨some 33, .bin .mul (.tmp 30) (.tmp 32), none, [7, 5, 6, 9, 8]⟩,
 ⟨some 34, .bin .add (.tmp 27) (.tmp 33), none, [4, 1, 0, 3, 2, 10, 7, 5, 6, 9, 8]⟩,
 ⟨some 6, .mv (.tmp 34), none, [11, 4, 1, 0, 3, 2, 10, 7, 5, 6, 9, 8]⟩,
 ⟨some 7, .mv (.const (.bool true)), none, [12, 11, 4, 1, 0, 3, 2, 10, 7, 5, 6, 9, 8]⟩] [23, 24, 25, 26, 27, 28, 29, 30, 31, 32, 33, 34])
 .ret))))
set_option maxRecDepth 100000 in
theorem kref12_sample : IsCode Try.prog 96 35 cref12_sample [.tmp 6, .tmp 7] :=
 ⟨Try.f96, _, [22, 0, 1, 3, 2, 8, 4, 6, 7], Try.func96, rfl, by decide, rfl, by kernel_rfl, by kernel_rfl⟩
def cref12_field : ACode :=
 (.seq
 (.region false [⟨some 2, .box (.tmp 0), none, []⟩,
 ⟨some 4, .mv (.const (.bool false)), none, []⟩] [])
 (.seq
 (.region false [⟨some 5, .mv (.tmp 1), none, []⟩,
 ⟨some 6, .fad 5 (.tmp 2), none, []⟩,
 ⟨some 7, .load1 (.tmp 6), none, []⟩,
 ⟨some 8, .len_ (.tmp 7), none, []⟩,
 ⟨some 9, .bin .sub (.tmp 8) (.const (.int .i64 1)), none, []⟩,
 ⟨some 10, .call (.func 79) [(.tmp 5), (.const (.int .i64 0)), (.tmp 9)], none, []⟩,
 ⟨some 4, .mv (.tmp 10), none, []⟩] [5, 6, 7, 8, 9, 10])
 .ret))
set_option maxRecDepth 100000 in
theorem kref12_field : IsCode Try.prog 69 11 cref12_field [.tmp 4] :=
 ⟨Try.f69, _, [0, 1, 2, 4], Try.func69, rfl, by decide, rfl, by kernel_rfl, by kernel_rfl⟩
end Go.Proofs.Ytdcodicoclecnaa
