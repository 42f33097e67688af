/- Texts of the law RecordProofs, part 10. No conditions. -/
import Derived.Test.YtdcodicoclecnaaPRecordProofs09
/- record: a round of the search for proofs to renew, walked. No conditions. -/
set_option linter.unusedSimpArgs false
set_option linter.unusedVariables false
namespace Go.Proofs.Ytdcodicoclecnaa
open Go Go.RowKit Lift

set_option maxRecDepth 100000 in
set_option maxHeartbeats 8000000 in
theorem lookB_succ (c : Cas) (hc : CasOk c) (cl : Nat) (hcl : cl < c.cl.length) (now : Nat) (hnow : now < 4096) (m : Nat) (ih : ∀ (p f : Nat) (L J : List Int), p < 4096 → L.length + m ≤ 1000 → L ++ J ≠ [] → AC Try.prog 88 [dI p, dI f, dI m, .ptr 0 0, .ptr 8 0, .ptr 16 0, .ptr 24 0, .ptr 32 0] (hpB c cl now 48 L J) (upB c cl now 48 L J (lkE (hlB c cl) now c.pf.length m p f) (lkN (hlB c cl) now c.pf.length m p f)) (dB (lookF (hlB c cl) now c.pf.length m p f).isSome)) (p f : Nat) (L J : List Int) (hp : p < 4096) (hLm : L.length + (m + 1) ≤ 1000) (hne : L ++ J ≠ []) : AC Try.prog 88 [dI p, dI f, dI ((m + 1 : Nat) : Int), .ptr 0 0, .ptr 8 0, .ptr 16 0, .ptr 24 0, .ptr 32 0] (hpB c cl now 40 L J) (upB c cl now 40 L J (lkE (hlB c cl) now c.pf.length (m + 1) p f) (lkN (hlB c cl) now c.pf.length (m + 1) p f)) (dB (lookF (hlB c cl) now c.pf.length (m + 1) p f).isSome) := by
  have n2 := hc.n2
  have pfl := sps_len c.pf
  have hlk := look_succ (hlB c cl) now c.pf.length m p f
  generalize hG : (fun i : Nat => if f ≤ i ∧ now.testBit i = false then (lookF (hlB c cl) now c.pf.length m (p ||| 2 ^ i) (i + 1)).map (i :: ·) else none) = G at hlk
  have hGi : ∀ i : Nat, G i = if f ≤ i ∧ now.testBit i = false then (lookF (hlB c cl) now c.pf.length m (p ||| 2 ^ i) (i + 1)).map (i :: ·) else none := fun i => by rw [← hG]
  clear hG
  have hG0 : ∀ j, j < f → G j = none := fun j hj => by rw [hGi, if_neg (by omega)]
  have hokU : ∀ E e, okUp (hpB c cl now 40 L J) (upB c cl now 40 L J E e) = true := by
    intro E e
    have hie := ic_ne hne
    cases E <;> simp [okUp, hpB, upB, hie]
  have hup : ∀ r, lookF (hlB c cl) now c.pf.length (m + 1) p f = some r → lkE (hlB c cl) now c.pf.length (m + 1) p f = r ∧ lkN (hlB c cl) now c.pf.length (m + 1) p f = r.length := fun r hr => by unfold lkE lkN; rw [hr]; exact ⟨rfl, rfl⟩
  have hun : lookF (hlB c cl) now c.pf.length (m + 1) p f = none → lkE (hlB c cl) now c.pf.length (m + 1) p f = stl now c.pf.length (m + 1) f ∧ lkN (hlB c cl) now c.pf.length (m + 1) p f = 0 := fun hr => by unfold lkE lkN; rw [hr]; exact ⟨rfl, rfl⟩
  generalize hEE : lkE (hlB c cl) now c.pf.length (m + 1) p f = EE at *
  generalize hNN : lkN (hlB c cl) now c.pf.length (m + 1) p f = NN at *
  generalize hLL : lookF (hlB c cl) now c.pf.length (m + 1) p f = LL at *
  have em : ((m + 1 : Nat) : Int) - 1 = (m : Int) := by omega
  have hm0 : (((m + 1 : Nat) : Int) == 0) = false := by simp only [beq_eq_false_iff_ne]; omega
  refine krecord_Renew_S1.ac (n0 := 200) (by simp) ⟨.val _, .val _, .val _, .ptr _ _ (by omega), .ptr _ _ (by omega), .ptr _ _ (by omega), .ptr _ _ (by omega), .ptr _ _ (by omega), trivial⟩ ⟨⟨by omega, ca_in c⟩, ⟨by omega, one_in _⟩, ⟨by omega, one_in _⟩, ⟨by omega, by intro d hd; simp at hd; subst hd; exact .vec _ _ _ (by omega)⟩, ⟨by omega, fn_in⟩, ⟨by omega, fun d h => (icells_in _ d h).mono fun _ h => h.elim⟩, trivial⟩ (hokU EE NN) ?_
  clear hokU
  unfold crecord_Renew_S1 hpB
  have hcin0 := icells_in (L ++ J)
  (have hg : (987654321 : Nat) - 987654321 = 0 := rfl; have hr := hg; repeat' (first | refine aw_seq ?_ | (refine aw_skip ?_; repeat' (first | with_reducible refine thenQ_n ?_ | with_reducible refine blockQ_n ?_ | with_reducible refine thenQ_e ?_ | with_reducible refine blockQ_t ?_ | with_reducible refine blockQ_f (by decide) ?_)) | (refine aw_exit ?_; repeat' (first | with_reducible refine thenQ_n ?_ | with_reducible refine blockQ_n ?_ | with_reducible refine thenQ_e ?_ | with_reducible refine blockQ_t ?_ | with_reducible refine blockQ_f (by decide) ?_)) | refine aw_ret ?_ | refine aw_block ?_ | refine aw_condT rfl ?_ | refine aw_condF rfl ?_ | ((first | refine aw_hide fun K hK => aw_region ?_ | refine ago_if (by omega) ?_ | skip); simp (config := {maxSteps := 10000000}) (disch := first | exact okYes (by kernel_rfl) | omega) only [List.length, Nat.zero_add, Nat.reduceMul, Nat.reduceAdd, envOf, dI, ARun_none, AOpRun, aexec, FSt.ev, AGo_ok, St.app, putO, eput_c, Nat.reduceBEq, eput_n, cond_false, hups, List.map, ARun_nil, dropE_c, inL_n, dropE_n, St.F, eget_c, ↓eget_h, isSh, Bool.false_eq_true, ↓reduceIte, Option.map, abin, hm0, inL_c, beq_self_eq_true, cond_true, dB, Option.isSome]) | (subst hK; repeat' (first | with_reducible refine thenQ_n ?_ | with_reducible refine blockQ_n ?_ | with_reducible refine thenQ_e ?_ | with_reducible refine blockQ_t ?_ | with_reducible refine blockQ_f (by decide) ?_))))
  refine aw_loop (fun i : Nat => match lastK now f i with
    | none => ⟨[(0, dI p), (2, dI ((m + 1 : Nat) : Int)), (3, .ptr 0 0), (4, .ptr 8 0), (5, .ptr 16 0), (6, .ptr 24 0), (7, .ptr 32 0), (12, dI i)], [(0, [.list (cls c.cl), .list (sps c.pf)]), (8, [dI cl]), (16, [dI now]), (24, [.vec 40 L.length 1]), (32, [.fn 88 [] [.ptr 0 0, .ptr 8 0, .ptr 16 0, .ptr 24 0, .ptr 32 0]]), (40, icells (L ++ J))], 600⟩
    | some j => ⟨[(0, dI p), (2, dI ((m + 1 : Nat) : Int)), (3, .ptr 0 0), (4, .ptr 8 0), (5, .ptr 16 0), (6, .ptr 24 0), (7, .ptr 32 0), (12, dI i)], [(0, [.list (cls c.cl), .list (sps c.pf)]), (8, [dI cl]), (16, [dI now]), (24, [.vec 500 L.length 1]), (32, [.fn 88 [] [.ptr 0 0, .ptr 8 0, .ptr 16 0, .ptr 24 0, .ptr 32 0]]), (500, icells (L ++ ci (j :: stl now c.pf.length m (j + 1))))], 600⟩) (fun i => f ≤ i ∧ (i ≤ c.pf.length ∨ i = f) ∧ ∀ j, j < i → G j = none) (fun i => c.pf.length - i) ⟨f, ⟨Nat.le_refl _, .inr rfl, hG0⟩, ?_⟩ ?_
  · show Wk _ _ (match lastK now f f with
    | none => _
    | some j => _)
    rw [last_none (Nat.le_refl f)]
    unfold dI
    refine wk_to [] [(0, 0), (8, 8), (16, 16), (24, 24), (32, 32), (40, 40)] (by kernel_rfl) (by kernel_rfl) (by kernel_rfl) (by kernel_rfl) (by kernel_rfl) ?_ ?_ <;> repeat' (first | exact trivial | exact vr_val _ | exact vr_list _ | exact vr_vec _ _ _ _ rfl | exact vr_ptr _ _ _ rfl | apply vr_fn | refine And.intro ⟨_, rfl, .inl ⟨_, rfl, by decide, ?_⟩⟩ ?_ | apply And.intro | exact vrl_flat _ (by first | exact icells_in _ | exact rcells_in _ | exact scells_in _ | exact bcells_in _ | assumption))
  rintro i ⟨hfi, hif, hin⟩
  by_cases hi2 : i < c.pf.length
  case neg =>
    have hl : lastK now f i = lastK now f c.pf.length := by
      rcases (by omega : i = c.pf.length ∨ (i = f ∧ c.pf.length ≤ f)) with rfl | ⟨rfl, h⟩
      · rfl
      · rw [last_none (Nat.le_refl _), last_none h]
    rw [hl]
    have hgn : LL = none := by rw [hlk]; exact first_none fun j hj => hin j (by omega)
    obtain ⟨e1, e2⟩ := hun hgn
    rw [e1, e2, hgn]
    clear e1 e2 hgn hEE hNN hLL hup hun hlk hGi hG0 hin ih
    have ki : decide ((i : Int) < (c.pf.length : Int)) = false := decide_eq_false (by omega)
    cases hk : lastK now f c.pf.length with
    | none =>
      have hs : stl now c.pf.length (m + 1) f = [] := by rw [stl, hk]
      rw [hs]
      dsimp only [upB, Option.isSome_none]
      (have hg : (987654321 : Nat) - 987654321 = 0 := rfl; have hr := hg; repeat' (first | refine aw_seq ?_ | (refine aw_skip ?_; repeat' (first | with_reducible refine thenQ_n ?_ | with_reducible refine blockQ_n ?_ | with_reducible refine thenQ_e ?_ | with_reducible refine blockQ_t ?_ | with_reducible refine blockQ_f (by decide) ?_)) | (refine aw_exit ?_; repeat' (first | with_reducible refine thenQ_n ?_ | with_reducible refine blockQ_n ?_ | with_reducible refine thenQ_e ?_ | with_reducible refine blockQ_t ?_ | with_reducible refine blockQ_f (by decide) ?_)) | refine aw_ret ?_ | refine aw_block ?_ | refine aw_condT rfl ?_ | refine aw_condF rfl ?_ | ((first | refine aw_hide fun K hK => aw_region ?_ | refine ago_if (by omega) ?_ | skip); simp (config := {maxSteps := 10000000}) (disch := first | exact okYes (by kernel_rfl) | omega) only [List.length, Nat.zero_add, Nat.reduceAdd, Nat.reduceMul, dI, ARun_none, AOpRun, aexec, FSt.ev, St.F, eget_c, Nat.reduceBEq, ↓eget_h, cond_false, AGo_ok, St.app, putO, eput_c, eput_n, hups, List.map, Option.map, run1, hget_c, beq_self_eq_true, hget_n, cond_true, List.getElem?_cons_succ, List.getElem?_cons_zero, pfl, isSh, Bool.false_eq_true, ↓reduceIte, abin, ki, ARun_nil, dropE_c, inL_c, inL_n, dropE_n]) | (subst hK; repeat' (first | with_reducible refine thenQ_n ?_ | with_reducible refine blockQ_n ?_ | with_reducible refine thenQ_e ?_ | with_reducible refine blockQ_t ?_ | with_reducible refine blockQ_f (by decide) ?_))))
      refine end_to [] [(0, 0), (8, 8), (16, 16), (24, 24), (32, 32), (40, 40)] (by first | exact .inl rfl | exact .inr rfl) rfl (by kernel_rfl) (by kernel_rfl) (by kernel_rfl) ?_ ?_ <;> repeat' (first | exact trivial | exact vr_val _ | exact vr_list _ | exact vr_vec _ _ _ _ rfl | exact vr_ptr _ _ _ rfl | apply vr_fn | refine And.intro ⟨_, rfl, _, rfl, by decide, ?_⟩ ?_ | apply And.intro | exact vrl_flat _ (by first | exact icells_in _ | exact rcells_in _ | exact scells_in _ | exact bcells_in _ | assumption))
    | some j =>
      have hs : stl now c.pf.length (m + 1) f = j :: stl now c.pf.length m (j + 1) := by rw [stl, hk]
      rw [hs]
      dsimp only [upB, Option.isSome_none]
      rw [Nat.add_zero]
      generalize stl now c.pf.length m (j + 1) = Z at *
      have hcin := icells_in (L ++ ci (j :: Z))
      (have hg : (987654321 : Nat) - 987654321 = 0 := rfl; have hr := hg; repeat' (first | refine aw_seq ?_ | (refine aw_skip ?_; repeat' (first | with_reducible refine thenQ_n ?_ | with_reducible refine blockQ_n ?_ | with_reducible refine thenQ_e ?_ | with_reducible refine blockQ_t ?_ | with_reducible refine blockQ_f (by decide) ?_)) | (refine aw_exit ?_; repeat' (first | with_reducible refine thenQ_n ?_ | with_reducible refine blockQ_n ?_ | with_reducible refine thenQ_e ?_ | with_reducible refine blockQ_t ?_ | with_reducible refine blockQ_f (by decide) ?_)) | refine aw_ret ?_ | refine aw_block ?_ | refine aw_condT rfl ?_ | refine aw_condF rfl ?_ | ((first | refine aw_hide fun K hK => aw_region ?_ | refine ago_if (by omega) ?_ | skip); simp (config := {maxSteps := 10000000}) (disch := first | exact okYes (by kernel_rfl) | omega) only [List.length, Nat.zero_add, Nat.reduceAdd, Nat.reduceMul, dI, ARun_none, AOpRun, aexec, FSt.ev, St.F, eget_c, Nat.reduceBEq, ↓eget_h, cond_false, AGo_ok, St.app, putO, eput_c, eput_n, hups, List.map, Option.map, run1, hget_c, beq_self_eq_true, hget_n, cond_true, List.getElem?_cons_succ, List.getElem?_cons_zero, pfl, isSh, Bool.false_eq_true, ↓reduceIte, abin, ki, ARun_nil, dropE_c, inL_c, inL_n, dropE_n]) | (subst hK; repeat' (first | with_reducible refine thenQ_n ?_ | with_reducible refine blockQ_n ?_ | with_reducible refine thenQ_e ?_ | with_reducible refine blockQ_t ?_ | with_reducible refine blockQ_f (by decide) ?_))))
      refine end_to [] [(0, 0), (8, 8), (16, 16), (24, 24), (32, 32), (40, 40), (296, 500)] (by first | exact .inl rfl | exact .inr rfl) rfl (by kernel_rfl) (by kernel_rfl) (by kernel_rfl) ?_ ?_ <;> repeat' (first | exact trivial | exact vr_val _ | exact vr_list _ | exact vr_vec _ _ _ _ rfl | exact vr_ptr _ _ _ rfl | apply vr_fn | refine And.intro ⟨_, rfl, _, rfl, by decide, ?_⟩ ?_ | apply And.intro | exact vrl_flat _ (by first | exact icells_in _ | exact rcells_in _ | exact scells_in _ | exact bcells_in _ | assumption))
  have hno : now.testBit i = true → G i = none := fun h => by rw [hGi, if_neg (by simp [h])]
  have hin1 : G i = none → ∀ j, j < i + 1 → G j = none := fun h j hj => by
    rcases (by omega : j < i ∨ j = i) with h1 | rfl
    · exact hin j h1
    · exact h
  have ki : (i : Int) < (c.pf.length : Int) := by omega
  have w := phas_ac now i hnow (by omega)
  have w2 := pwith_ac p i hp (by omega)
  cases hb : now.testBit i with
  | true =>
    rw [hb] at w
    have hl1 : lastK now f (i + 1) = lastK now f i := by
      show (if _ then _ else _) = _
      rw [if_neg (by simp [hb])]
    have hnx := hin1 (hno hb)
    clear hEE hNN hLL hup hun hlk hGi hG0 hin ih
    cases hk : lastK now f i with
    | none =>
      dsimp only
      (have hg : (987654321 : Nat) - 987654321 = 0 := rfl; have hr := hg; repeat' (first | refine aw_seq ?_ | (refine aw_skip ?_; repeat' (first | with_reducible refine thenQ_n ?_ | with_reducible refine blockQ_n ?_ | with_reducible refine thenQ_e ?_ | with_reducible refine blockQ_t ?_ | with_reducible refine blockQ_f (by decide) ?_)) | (refine aw_exit ?_; repeat' (first | with_reducible refine thenQ_n ?_ | with_reducible refine blockQ_n ?_ | with_reducible refine thenQ_e ?_ | with_reducible refine blockQ_t ?_ | with_reducible refine blockQ_f (by decide) ?_)) | refine aw_ret ?_ | refine aw_block ?_ | refine aw_condT rfl ?_ | refine aw_condF rfl ?_ | ((first | refine aw_hide fun K hK => aw_region ?_ | refine acall0 (w) ?_ | refine ago_if (by omega) ?_ | skip); simp (config := {maxSteps := 10000000}) (disch := first | exact okYes (by kernel_rfl) | omega) only [List.length, Nat.zero_add, Nat.reduceAdd, Nat.reduceMul, dI, ARun_none, AOpRun, aexec, FSt.ev, St.F, eget_c, Nat.reduceBEq, ↓eget_h, cond_false, AGo_ok, St.app, putO, eput_c, eput_n, hups, List.map, Option.map, run1, hget_c, beq_self_eq_true, hget_n, cond_true, List.getElem?_cons_succ, List.getElem?_cons_zero, pfl, isSh, Bool.false_eq_true, ↓reduceIte, abin, ki, decide_true, ARun_nil, dropE_c, inL_c, inL_n, dropE_n, ↓hget_h, dB, fits]) | (subst hK; repeat' (first | with_reducible refine thenQ_n ?_ | with_reducible refine blockQ_n ?_ | with_reducible refine thenQ_e ?_ | with_reducible refine blockQ_t ?_ | with_reducible refine blockQ_f (by decide) ?_))))
      refine ⟨i + 1, ⟨by omega, .inl (by omega), hnx⟩, by omega, ?_⟩
      rw [hl1, hk]
      refine wk_to [] [(0, 0), (8, 8), (16, 16), (24, 24), (32, 32), (40, 40)] (by kernel_rfl) (by kernel_rfl) (by kernel_rfl) (by kernel_rfl) (by kernel_rfl) ?_ ?_ <;> repeat' (first | exact trivial | exact vr_val _ | exact vr_list _ | exact vr_vec _ _ _ _ rfl | exact vr_ptr _ _ _ rfl | apply vr_fn | refine And.intro ⟨_, rfl, .inl ⟨_, rfl, by decide, ?_⟩⟩ ?_ | apply And.intro | exact vrl_flat _ (by first | exact icells_in _ | exact rcells_in _ | exact scells_in _ | exact bcells_in _ | assumption))
    | some j =>
      dsimp only
      generalize hC : L ++ ci (j :: stl now c.pf.length m (j + 1)) = C at *
      have hcin := icells_in C
      (have hg : (987654321 : Nat) - 987654321 = 0 := rfl; have hr := hg; repeat' (first | refine aw_seq ?_ | (refine aw_skip ?_; repeat' (first | with_reducible refine thenQ_n ?_ | with_reducible refine blockQ_n ?_ | with_reducible refine thenQ_e ?_ | with_reducible refine blockQ_t ?_ | with_reducible refine blockQ_f (by decide) ?_)) | (refine aw_exit ?_; repeat' (first | with_reducible refine thenQ_n ?_ | with_reducible refine blockQ_n ?_ | with_reducible refine thenQ_e ?_ | with_reducible refine blockQ_t ?_ | with_reducible refine blockQ_f (by decide) ?_)) | refine aw_ret ?_ | refine aw_block ?_ | refine aw_condT rfl ?_ | refine aw_condF rfl ?_ | ((first | refine aw_hide fun K hK => aw_region ?_ | refine acall0 (w) ?_ | refine ago_if (by omega) ?_ | skip); simp (config := {maxSteps := 10000000}) (disch := first | exact okYes (by kernel_rfl) | omega) only [List.length, Nat.zero_add, Nat.reduceAdd, Nat.reduceMul, dI, ARun_none, AOpRun, aexec, FSt.ev, St.F, eget_c, Nat.reduceBEq, ↓eget_h, cond_false, AGo_ok, St.app, putO, eput_c, eput_n, hups, List.map, Option.map, run1, hget_c, beq_self_eq_true, hget_n, cond_true, List.getElem?_cons_succ, List.getElem?_cons_zero, pfl, isSh, Bool.false_eq_true, ↓reduceIte, abin, ki, decide_true, ARun_nil, dropE_c, inL_c, inL_n, dropE_n, ↓hget_h, dB, fits]) | (subst hK; repeat' (first | with_reducible refine thenQ_n ?_ | with_reducible refine blockQ_n ?_ | with_reducible refine thenQ_e ?_ | with_reducible refine blockQ_t ?_ | with_reducible refine blockQ_f (by decide) ?_))))
      refine ⟨i + 1, ⟨by omega, .inl (by omega), hnx⟩, by omega, ?_⟩
      rw [hl1, hk]
      dsimp only
      rw [hC]
      refine wk_to [] [(0, 0), (8, 8), (16, 16), (24, 24), (32, 32), (40, 40), (500, 500)] (by kernel_rfl) (by kernel_rfl) (by kernel_rfl) (by kernel_rfl) (by kernel_rfl) ?_ ?_ <;> repeat' (first | exact trivial | exact vr_val _ | exact vr_list _ | exact vr_vec _ _ _ _ rfl | exact vr_ptr _ _ _ rfl | apply vr_fn | refine And.intro ⟨_, rfl, .inl ⟨_, rfl, by decide, ?_⟩⟩ ?_ | apply And.intro | exact vrl_flat _ (by first | exact icells_in _ | exact rcells_in _ | exact scells_in _ | exact bcells_in _ | assumption))
  | false =>
  rw [hb] at w
  have hl1 : lastK now f (i + 1) = some i := by
    show (if _ then _ else _) = _
    rw [if_pos ⟨hfi, hb⟩]
  have hGp : G i = (lookF (hlB c cl) now c.pf.length m (p ||| 2 ^ i) (i + 1)).map (i :: ·) := by rw [hGi, if_pos ⟨hfi, hb⟩]
  have ihx := ih (p ||| 2 ^ i) (i + 1) (L ++ [(i : Int)]) [] (or_lt hp (by omega)) (by rw [List.length_append, List.length_singleton]; omega) (by simp)
  unfold hpB at ihx
  rw [List.append_nil, ← ic_app, show ((i + 1 : Nat) : Int) = (i : Int) + 1 by omega] at ihx
  rw [show (L ++ [(i : Int)]).length = L.length + 1 by simp] at ihx
  have hct : ∀ K : List Int, (icells (L ++ K)).take L.length = icells L := fun K => by
    unfold icells
    rw [List.map_append, List.take_append_of_le_length (by simp), List.take_of_length_le (by simp)]
  have hle : ∀ K : List Int, L.length ≤ (icells (L ++ K)).length := fun K => by rw [icells_len, List.length_append]; omega
  have hlf : (icells L).all D.leaf = true := icells_leaf L
  have hin2 : ∀ y ∈ icells L ++ [.val (.int .i64 (i : Int))], In (fun _ => False) y := by rw [ic_app]; exact icells_in _
  clear hGi hG0 hno ih
  cases hk : lastK now f i
  all_goals dsimp only
  case' none =>
    have hct := hct J
    have hle := hle J
    have hcin := icells_in (L ++ J)
    generalize icells (L ++ J) = CK at *
  case' some j =>
    have hct := hct (ci (j :: stl now c.pf.length m (j + 1)))
    have hle := hle (ci (j :: stl now c.pf.length m (j + 1)))
    have hcin := icells_in (L ++ ci (j :: stl now c.pf.length m (j + 1)))
    generalize icells (L ++ ci (j :: stl now c.pf.length m (j + 1))) = CK at *
  all_goals
    clear hk
    refine aw_seq (aw_seq (aw_region ?_))
    simp (config := {maxSteps := 10000000}) (disch := first | exact okYes (by kernel_rfl) | omega) only [thenQ, dI, List.length, Nat.zero_add, Nat.reduceAdd, Nat.reduceMul, ARun_none, AOpRun, aexec, FSt.ev, St.F, eget_c, Nat.reduceBEq, ↓eget_h, cond_false, AGo_ok, St.app, putO, eput_c, eput_n, hups, List.map, Option.map, run1, hget_c, beq_self_eq_true, hget_n, cond_true, List.getElem?_cons_succ, List.getElem?_cons_zero, pfl, isSh, Bool.false_eq_true, ↓reduceIte, abin, ki, decide_true, ARun_nil, dropE_c, inL_c, inL_n, dropE_n]
    refine aw_condT rfl (aw_skip ?_)
    refine aw_seq (aw_block (aw_seq (aw_seq (aw_region ?_))))
    simp (config := {maxSteps := 10000000}) (disch := first | exact okYes (by kernel_rfl) | omega) only [thenQ, List.length, Nat.zero_add, Nat.reduceAdd, Nat.reduceMul, ARun_none, AOpRun, aexec, Option.map, run1, FSt.ev, St.F, eget_c, Nat.reduceBEq, ↓eget_h, cond_false, hget_c, ↓hget_h, List.getElem?_cons_zero, AGo_ok, St.app, putO, eput_c, eput_n, hups, List.map]
    refine acall0 w ?_
    simp (config := {maxSteps := 10000000}) (disch := first | exact okYes (by kernel_rfl) | omega) only [Nat.reduceAdd, St.app, putO, dB, eput_c, Nat.reduceBEq, eput_n, cond_false, hups, ARun_nil, dropE_c, inL_c, inL_n, beq_self_eq_true, cond_true, dropE_n]
    refine aw_condF rfl (aw_skip ?_)
    refine aw_seq (aw_region ?_)
    simp (config := {maxSteps := 10000000}) (disch := first | exact okYes (by kernel_rfl) | omega) only [thenQ, List.length, Nat.zero_add, Nat.reduceAdd, Nat.reduceMul, ARun_none, AOpRun, aexec, Option.map, run1, FSt.ev, St.F, eget_c, Nat.reduceBEq, ↓eget_h, cond_false, hget_c, ↓hget_h, List.getElem?_cons_zero, AGo_ok, St.app, putO, eput_c, eput_n, hups, List.map, Option.isSome, hget_n, Bool.false_eq_true, ↓reduceIte, fillD, D.isBot, D.cells, ne_eq, not_true_eq_false, Nat.reduceGT, or_self, splice, List.take, List.nil_append, List.drop, List.append_nil, hput_c, hput_n, base, Nat.mul_one, hle, and_self, hct, elems, Nat.reduceLeDiff, List.all, D.leaf, Bool.and_true, and_true, ups, List.cons_append]
    refine ago_if (by omega) ?_
    simp (config := {maxSteps := 10000000}) (disch := first | exact okYes (by kernel_rfl) | omega) only [AGo_ok, Nat.reduceAdd, St.app, putO, eput_c, Nat.reduceBEq, eput_n, cond_false, hups, hput_c, hput_n, hdel_c, beq_self_eq_true, hdel_n, cond_true, List.map, ARun_none, AOpRun, aexec, FSt.ev, St.F, eget_c, ↓eget_h, hget_c, ↓hget_h, D.isBot, D.cells, List.length, Nat.zero_add, Nat.reduceLeDiff, List.all, D.leaf, Bool.and_true, and_self, ↓reduceIte, splice, List.take, List.nil_append, List.drop, List.append_nil, ARun_nil, dropE_c, inL_c, inL_n, dropE_n]
  all_goals
    refine aw_wk (s' := ⟨[(0, dI p), (2, dI ((m + 1 : Nat) : Int)), (3, .ptr 0 0), (4, .ptr 8 0), (5, .ptr 16 0), (6, .ptr 24 0), (7, .ptr 32 0), (12, dI i)], [(0, [.list (cls c.cl), .list (sps c.pf)]), (8, [dI cl]), (16, [dI now]), (24, [.vec 48 (L.length + 1) 1]), (32, [.fn 88 [] [.ptr 0 0, .ptr 8 0, .ptr 16 0, .ptr 24 0, .ptr 32 0]]), (48, icells L ++ [.val (.int .i64 (i : Int))])], 232⟩) ?_ ?_
    · unfold dI
      refine wk_to [] [(0, 0), (8, 8), (16, 16), (24, 24), (32, 32), (40, 40), (48, 688)] (by kernel_rfl) (by kernel_rfl) (by kernel_rfl) (by kernel_rfl) (by kernel_rfl) ?_ ?_ <;> repeat' (first | exact trivial | exact vr_val _ | exact vr_list _ | exact vr_vec _ _ _ _ rfl | exact vr_ptr _ _ _ rfl | apply vr_fn | refine And.intro ⟨_, rfl, .inl ⟨_, rfl, by decide, ?_⟩⟩ ?_ | apply And.intro | exact vrl_flat _ (by first | exact icells_in _ | exact rcells_in _ | exact scells_in _ | exact bcells_in _ | assumption))
  all_goals
    have hlen : (L ++ [(i : Int)]).length = L.length + 1 := by simp
    clear hif
    cases hr : lookF (hlB c cl) now c.pf.length m (p ||| 2 ^ i) (i + 1) with
    | some r =>
      have hLs : LL = some (i :: r) := by rw [hlk]; exact first_some hi2 hin (by rw [hGp, hr]; rfl)
      obtain ⟨e1, e2⟩ := hup _ hLs
      have x1 : lkE (hlB c cl) now c.pf.length m (p ||| 2 ^ i) (i + 1) = r := by unfold lkE; rw [hr]
      have x2 : lkN (hlB c cl) now c.pf.length m (p ||| 2 ^ i) (i + 1) = r.length := by unfold lkN; rw [hr]
      rw [hr, x1, x2] at ihx
      rw [e1, e2, hLs]
      clear e1 e2 hLs x1 x2 hr hup hun hlk hEE hNN hLL hGp hin1 hin w
      cases r with
      | nil =>
        dsimp only [upB, Option.isSome_some] at ihx ⊢
        rw [hlen, List.append_nil, ← ic_app] at ihx
        have hc1 : icells (L ++ ci [i]) = icells L ++ [.val (.int .i64 (i : Int))] := by rw [ic_app]; rfl
        rw [hc1]
        (have hg : (987654321 : Nat) - 987654321 = 0 := rfl; have hr := hg; repeat' (first | refine aw_seq ?_ | (refine aw_skip ?_; repeat' (first | with_reducible refine thenQ_n ?_ | with_reducible refine blockQ_n ?_ | with_reducible refine thenQ_e ?_ | with_reducible refine blockQ_t ?_ | with_reducible refine blockQ_f (by decide) ?_)) | (refine aw_exit ?_; repeat' (first | with_reducible refine thenQ_n ?_ | with_reducible refine blockQ_n ?_ | with_reducible refine thenQ_e ?_ | with_reducible refine blockQ_t ?_ | with_reducible refine blockQ_f (by decide) ?_)) | refine aw_ret ?_ | refine aw_block ?_ | refine aw_condT rfl ?_ | refine aw_condF rfl ?_ | ((first | refine aw_hide fun K hK => aw_region ?_ | refine acall0 (w2) ?_ | refine acallB (ihx) (by repeat' (first | exact trivial | exact rfl | refine And.intro ?_ ?_)) (by kernel_rfl) (by kernel_rfl) (by kernel_rfl) ?_ | refine ago_if (by omega) ?_ | skip); simp (config := {maxSteps := 10000000}) (disch := first | exact okYes (by kernel_rfl) | omega) only [List.length, Nat.zero_add, Nat.reduceAdd, Nat.reduceMul, dI, ARun_none, AOpRun, aexec, Option.map, run1, FSt.ev, St.F, eget_c, Nat.reduceBEq, ↓eget_h, cond_false, hget_c, ↓hget_h, List.getElem?_cons_zero, AGo_ok, St.app, putO, eput_c, eput_n, hups, List.map, isSh, Bool.false_eq_true, ↓reduceIte, abin, fits, em, dB, hput_c, beq_self_eq_true, hput_n, cond_true, List.append_nil, ARun_nil, dropE_c, inL_c, inL_n, dropE_n, thenQ, blockQ]) | (subst hK; repeat' (first | with_reducible refine thenQ_n ?_ | with_reducible refine blockQ_n ?_ | with_reducible refine thenQ_e ?_ | with_reducible refine blockQ_t ?_ | with_reducible refine blockQ_f (by decide) ?_))))
        refine end_to [] [(0, 0), (8, 8), (16, 16), (24, 24), (32, 32), (40, 40), (296, 48)] (by first | exact .inl rfl | exact .inr rfl) rfl (by kernel_rfl) (by kernel_rfl) (by kernel_rfl) ?_ ?_ <;> repeat' (first | exact trivial | exact vr_val _ | exact vr_list _ | exact vr_vec _ _ _ _ rfl | exact vr_ptr _ _ _ rfl | apply vr_fn | refine And.intro ⟨_, rfl, _, rfl, by decide, ?_⟩ ?_ | apply And.intro | exact vrl_flat _ (by first | exact icells_in _ | exact rcells_in _ | exact scells_in _ | exact bcells_in _ | assumption))
      | cons x xs =>
        dsimp only [upB, Option.isSome_some] at ihx ⊢
        rw [hlen] at ihx
        have hc1 : icells (L ++ ci (i :: x :: xs)) = icells (L ++ [(i : Int)] ++ ci (x :: xs)) := by rw [ci_cons i, List.append_assoc]
        have hc2 : L.length + (i :: x :: xs).length = L.length + 1 + (x :: xs).length := by simp only [List.length_cons]; omega
        rw [hc1, hc2]
        have hcin3 := icells_in (L ++ [(i : Int)] ++ ci (x :: xs))
        generalize icells (L ++ [(i : Int)] ++ ci (x :: xs)) = CX at *
        generalize (x :: xs).length = N at *
        (have hg : (987654321 : Nat) - 987654321 = 0 := rfl; have hr := hg; repeat' (first | refine aw_seq ?_ | (refine aw_skip ?_; repeat' (first | with_reducible refine thenQ_n ?_ | with_reducible refine blockQ_n ?_ | with_reducible refine thenQ_e ?_ | with_reducible refine blockQ_t ?_ | with_reducible refine blockQ_f (by decide) ?_)) | (refine aw_exit ?_; repeat' (first | with_reducible refine thenQ_n ?_ | with_reducible refine blockQ_n ?_ | with_reducible refine thenQ_e ?_ | with_reducible refine blockQ_t ?_ | with_reducible refine blockQ_f (by decide) ?_)) | refine aw_ret ?_ | refine aw_block ?_ | refine aw_condT rfl ?_ | refine aw_condF rfl ?_ | ((first | refine aw_hide fun K hK => aw_region ?_ | refine acall0 (w2) ?_ | refine acallB (ihx) (by repeat' (first | exact trivial | exact rfl | refine And.intro ?_ ?_)) (by kernel_rfl) (by kernel_rfl) (by kernel_rfl) ?_ | refine ago_if (by omega) ?_ | skip); simp (config := {maxSteps := 10000000}) (disch := first | exact okYes (by kernel_rfl) | omega) only [List.length, Nat.zero_add, Nat.reduceAdd, Nat.reduceMul, dI, ARun_none, AOpRun, aexec, Option.map, run1, FSt.ev, St.F, eget_c, Nat.reduceBEq, ↓eget_h, cond_false, hget_c, ↓hget_h, List.getElem?_cons_zero, AGo_ok, St.app, putO, eput_c, eput_n, hups, List.map, isSh, Bool.false_eq_true, ↓reduceIte, abin, fits, em, dB, hput_c, hput_n, hdel_c, beq_self_eq_true, hdel_n, cond_true, List.append_nil, ARun_nil, dropE_c, inL_c, inL_n, dropE_n, thenQ, blockQ]) | (subst hK; repeat' (first | with_reducible refine thenQ_n ?_ | with_reducible refine blockQ_n ?_ | with_reducible refine thenQ_e ?_ | with_reducible refine blockQ_t ?_ | with_reducible refine blockQ_f (by decide) ?_))))
        refine end_to [] [(0, 0), (8, 8), (16, 16), (24, 24), (32, 32), (40, 40), (296, 296)] (by first | exact .inl rfl | exact .inr rfl) rfl (by kernel_rfl) (by kernel_rfl) (by kernel_rfl) ?_ ?_ <;> repeat' (first | exact trivial | exact vr_val _ | exact vr_list _ | exact vr_vec _ _ _ _ rfl | exact vr_ptr _ _ _ rfl | apply vr_fn | refine And.intro ⟨_, rfl, _, rfl, by decide, ?_⟩ ?_ | apply And.intro | exact vrl_flat _ (by first | exact icells_in _ | exact rcells_in _ | exact scells_in _ | exact bcells_in _ | assumption))
    | none =>
      have hnx := hin1 (by rw [hGp, hr]; rfl)
      have x1 : lkE (hlB c cl) now c.pf.length m (p ||| 2 ^ i) (i + 1) = stl now c.pf.length m (i + 1) := by unfold lkE; rw [hr]
      have x2 : lkN (hlB c cl) now c.pf.length m (p ||| 2 ^ i) (i + 1) = 0 := by unfold lkN; rw [hr]
      rw [hr, x1, x2] at ihx
      clear x1 x2 hr hup hun hlk hEE hNN hLL hGp hin1 hin w
      have s1 : (((L.length + 1 : Nat) : Int) - 1).toNat = L.length := by omega
      have s2 : (0 : Int) ≤ ((L.length + 1 : Nat) : Int) - 1 := by omega
      have s3 : ((L.length + 1 : Nat) : Int) - 1 ≤ ((L.length + 1 : Nat) : Int) := by omega
      cases hs : stl now c.pf.length m (i + 1) with
      | nil =>
        rw [hs] at ihx
        dsimp only [upB, Option.isSome_none] at ihx
        rw [hlen, List.append_nil, ← ic_app] at ihx
        have hc1 : icells (L ++ ci [i]) = icells L ++ [.val (.int .i64 (i : Int))] := by rw [ic_app]; rfl
        (have hg : (987654321 : Nat) - 987654321 = 0 := rfl; have hr := hg; repeat' (first | refine aw_seq ?_ | (refine aw_skip ?_; repeat' (first | with_reducible refine thenQ_n ?_ | with_reducible refine blockQ_n ?_ | with_reducible refine thenQ_e ?_ | with_reducible refine blockQ_t ?_ | with_reducible refine blockQ_f (by decide) ?_)) | (refine aw_exit ?_; repeat' (first | with_reducible refine thenQ_n ?_ | with_reducible refine blockQ_n ?_ | with_reducible refine thenQ_e ?_ | with_reducible refine blockQ_t ?_ | with_reducible refine blockQ_f (by decide) ?_)) | refine aw_ret ?_ | refine aw_block ?_ | refine aw_condT rfl ?_ | refine aw_condF rfl ?_ | ((first | refine aw_hide fun K hK => aw_region ?_ | refine acall0 (w2) ?_ | refine acallB (ihx) (by repeat' (first | exact trivial | exact rfl | refine And.intro ?_ ?_)) (by kernel_rfl) (by kernel_rfl) (by kernel_rfl) ?_ | refine ago_if (by omega) ?_ | skip); simp (config := {maxSteps := 10000000}) (disch := first | exact okYes (by kernel_rfl) | omega) only [List.length, Nat.zero_add, Nat.reduceAdd, Nat.reduceMul, dI, ARun_none, AOpRun, aexec, Option.map, run1, FSt.ev, St.F, eget_c, Nat.reduceBEq, ↓eget_h, cond_false, hget_c, ↓hget_h, List.getElem?_cons_zero, AGo_ok, St.app, putO, eput_c, eput_n, hups, List.map, isSh, Bool.false_eq_true, ↓reduceIte, abin, fits, em, dB, hput_c, beq_self_eq_true, hput_n, cond_true, List.append_nil, ARun_nil, dropE_c, inL_c, inL_n, dropE_n, asI, Int.le_refl, s2, s3, true_or, and_self, s1, D.isBot, D.cells, Nat.reduceLeDiff, List.all, D.leaf, Bool.and_true, splice, List.take, List.nil_append, List.drop]) | (subst hK; repeat' (first | with_reducible refine thenQ_n ?_ | with_reducible refine blockQ_n ?_ | with_reducible refine thenQ_e ?_ | with_reducible refine blockQ_t ?_ | with_reducible refine blockQ_f (by decide) ?_))))
        refine ⟨i + 1, ⟨by omega, .inl (by omega), hnx⟩, by omega, ?_⟩
        rw [hl1]
        dsimp only
        rw [hs, hc1]
        refine wk_to [] [(0, 0), (8, 8), (16, 16), (24, 24), (32, 32), (40, 40), (500, 48)] (by kernel_rfl) (by kernel_rfl) (by kernel_rfl) (by kernel_rfl) (by kernel_rfl) ?_ ?_ <;> repeat' (first | exact trivial | exact vr_val _ | exact vr_list _ | exact vr_vec _ _ _ _ rfl | exact vr_ptr _ _ _ rfl | apply vr_fn | refine And.intro ⟨_, rfl, .inl ⟨_, rfl, by decide, ?_⟩⟩ ?_ | apply And.intro | exact vrl_flat _ (by first | exact icells_in _ | exact rcells_in _ | exact scells_in _ | exact bcells_in _ | assumption))
      | cons x xs =>
        rw [hs] at ihx
        dsimp only [upB, Option.isSome_none] at ihx
        rw [Nat.add_zero, hlen] at ihx
        have hc1 : icells (L ++ ci (i :: x :: xs)) = icells (L ++ [(i : Int)] ++ ci (x :: xs)) := by rw [ci_cons i, List.append_assoc]
        have hcin3 := icells_in (L ++ [(i : Int)] ++ ci (x :: xs))
        generalize icells (L ++ [(i : Int)] ++ ci (x :: xs)) = CX at *
        (have hg : (987654321 : Nat) - 987654321 = 0 := rfl; have hr := hg; repeat' (first | refine aw_seq ?_ | (refine aw_skip ?_; repeat' (first | with_reducible refine thenQ_n ?_ | with_reducible refine blockQ_n ?_ | with_reducible refine thenQ_e ?_ | with_reducible refine blockQ_t ?_ | with_reducible refine blockQ_f (by decide) ?_)) | (refine aw_exit ?_; repeat' (first | with_reducible refine thenQ_n ?_ | with_reducible refine blockQ_n ?_ | with_reducible refine thenQ_e ?_ | with_reducible refine blockQ_t ?_ | with_reducible refine blockQ_f (by decide) ?_)) | refine aw_ret ?_ | refine aw_block ?_ | refine aw_condT rfl ?_ | refine aw_condF rfl ?_ | ((first | refine aw_hide fun K hK => aw_region ?_ | refine acall0 (w2) ?_ | refine acallB (ihx) (by repeat' (first | exact trivial | exact rfl | refine And.intro ?_ ?_)) (by kernel_rfl) (by kernel_rfl) (by kernel_rfl) ?_ | refine ago_if (by omega) ?_ | skip); simp (config := {maxSteps := 10000000}) (disch := first | exact okYes (by kernel_rfl) | omega) only [List.length, Nat.zero_add, Nat.reduceAdd, Nat.reduceMul, dI, ARun_none, AOpRun, aexec, Option.map, run1, FSt.ev, St.F, eget_c, Nat.reduceBEq, ↓eget_h, cond_false, hget_c, ↓hget_h, List.getElem?_cons_zero, AGo_ok, St.app, putO, eput_c, eput_n, hups, List.map, isSh, Bool.false_eq_true, ↓reduceIte, abin, fits, em, dB, hput_c, hput_n, hdel_c, beq_self_eq_true, hdel_n, cond_true, List.append_nil, ARun_nil, dropE_c, inL_c, inL_n, dropE_n, asI, Int.le_refl, s2, s3, true_or, and_self, s1, D.isBot, D.cells, Nat.reduceLeDiff, List.all, D.leaf, Bool.and_true, splice, List.take, List.nil_append, List.drop]) | (subst hK; repeat' (first | with_reducible refine thenQ_n ?_ | with_reducible refine blockQ_n ?_ | with_reducible refine thenQ_e ?_ | with_reducible refine blockQ_t ?_ | with_reducible refine blockQ_f (by decide) ?_))))
        refine ⟨i + 1, ⟨by omega, .inl (by omega), hnx⟩, by omega, ?_⟩
        rw [hl1]
        dsimp only
        rw [hs, hc1]
        refine wk_to [] [(0, 0), (8, 8), (16, 16), (24, 24), (32, 32), (40, 40), (500, 296)] (by kernel_rfl) (by kernel_rfl) (by kernel_rfl) (by kernel_rfl) (by kernel_rfl) ?_ ?_ <;> repeat' (first | exact trivial | exact vr_val _ | exact vr_list _ | exact vr_vec _ _ _ _ rfl | exact vr_ptr _ _ _ rfl | apply vr_fn | refine And.intro ⟨_, rfl, .inl ⟨_, rfl, by decide, ?_⟩⟩ ?_ | apply And.intro | exact vrl_flat _ (by first | exact icells_in _ | exact rcells_in _ | exact scells_in _ | exact bcells_in _ | assumption))
end Go.Proofs.Ytdcodicoclecnaa
/- record: a round of the search for proofs to renew, walked. No conditions. -/
set_option linter.unusedSimpArgs false
set_option linter.unusedVariables false
namespace Go.Proofs.Ytdcodicoclecnaa
open Go Go.RowKit Lift

set_option maxRecDepth 100000 in
set_option maxHeartbeats 8000000 in
theorem lookC_succ (c : Cas) (hc : CasOk c) (cl : Nat) (hcl : cl < c.cl.length) (now : Nat) (hnow : now < 4096) (m : Nat) (ih : ∀ (p f : Nat) (L J : List Int), p < 4096 → L.length + m ≤ 1000 → L ++ J ≠ [] → AC Try.prog 88 [dI p, dI f, dI m, .ptr 0 0, .ptr 8 0, .ptr 16 0, .ptr 24 0, .ptr 32 0] (hpB c cl now 40 L J) (upB c cl now 40 L J (lkE (hlB c cl) now c.pf.length m p f) (lkN (hlB c cl) now c.pf.length m p f)) (dB (lookF (hlB c cl) now c.pf.length m p f).isSome)) (p f : Nat) (L J : List Int) (hp : p < 4096) (hLm : L.length + (m + 1) ≤ 1000) (hne : L ++ J ≠ []) : AC Try.prog 88 [dI p, dI f, dI ((m + 1 : Nat) : Int), .ptr 0 0, .ptr 8 0, .ptr 16 0, .ptr 24 0, .ptr 32 0] (hpB c cl now 48 L J) (upB c cl now 48 L J (lkE (hlB c cl) now c.pf.length (m + 1) p f) (lkN (hlB c cl) now c.pf.length (m + 1) p f)) (dB (lookF (hlB c cl) now c.pf.length (m + 1) p f).isSome) := by
  have n2 := hc.n2
  have pfl := sps_len c.pf
  have hlk := look_succ (hlB c cl) now c.pf.length m p f
  generalize hG : (fun i : Nat => if f ≤ i ∧ now.testBit i = false then (lookF (hlB c cl) now c.pf.length m (p ||| 2 ^ i) (i + 1)).map (i :: ·) else none) = G at hlk
  have hGi : ∀ i : Nat, G i = if f ≤ i ∧ now.testBit i = false then (lookF (hlB c cl) now c.pf.length m (p ||| 2 ^ i) (i + 1)).map (i :: ·) else none := fun i => by rw [← hG]
  clear hG
  have hG0 : ∀ j, j < f → G j = none := fun j hj => by rw [hGi, if_neg (by omega)]
  have hokU : ∀ E e, okUp (hpB c cl now 48 L J) (upB c cl now 48 L J E e) = true := by
    intro E e
    have hie := ic_ne hne
    cases E <;> simp [okUp, hpB, upB, hie]
  have hup : ∀ r, lookF (hlB c cl) now c.pf.length (m + 1) p f = some r → lkE (hlB c cl) now c.pf.length (m + 1) p f = r ∧ lkN (hlB c cl) now c.pf.length (m + 1) p f = r.length := fun r hr => by unfold lkE lkN; rw [hr]; exact ⟨rfl, rfl⟩
  have hun : lookF (hlB c cl) now c.pf.length (m + 1) p f = none → lkE (hlB c cl) now c.pf.length (m + 1) p f = stl now c.pf.length (m + 1) f ∧ lkN (hlB c cl) now c.pf.length (m + 1) p f = 0 := fun hr => by unfold lkE lkN; rw [hr]; exact ⟨rfl, rfl⟩
  generalize hEE : lkE (hlB c cl) now c.pf.length (m + 1) p f = EE at *
  generalize hNN : lkN (hlB c cl) now c.pf.length (m + 1) p f = NN at *
  generalize hLL : lookF (hlB c cl) now c.pf.length (m + 1) p f = LL at *
  have em : ((m + 1 : Nat) : Int) - 1 = (m : Int) := by omega
  have hm0 : (((m + 1 : Nat) : Int) == 0) = false := by simp only [beq_eq_false_iff_ne]; omega
  refine krecord_Renew_S1.ac (n0 := 200) (by simp) ⟨.val _, .val _, .val _, .ptr _ _ (by omega), .ptr _ _ (by omega), .ptr _ _ (by omega), .ptr _ _ (by omega), .ptr _ _ (by omega), trivial⟩ ⟨⟨by omega, ca_in c⟩, ⟨by omega, one_in _⟩, ⟨by omega, one_in _⟩, ⟨by omega, by intro d hd; simp at hd; subst hd; exact .vec _ _ _ (by omega)⟩, ⟨by omega, fn_in⟩, ⟨by omega, fun d h => (icells_in _ d h).mono fun _ h => h.elim⟩, trivial⟩ (hokU EE NN) ?_
  clear hokU
  unfold crecord_Renew_S1 hpB
  have hcin0 := icells_in (L ++ J)
  (have hg : (987654321 : Nat) - 987654321 = 0 := rfl; have hr := hg; repeat' (first | refine aw_seq ?_ | (refine aw_skip ?_; repeat' (first | with_reducible refine thenQ_n ?_ | with_reducible refine blockQ_n ?_ | with_reducible refine thenQ_e ?_ | with_reducible refine blockQ_t ?_ | with_reducible refine blockQ_f (by decide) ?_)) | (refine aw_exit ?_; repeat' (first | with_reducible refine thenQ_n ?_ | with_reducible refine blockQ_n ?_ | with_reducible refine thenQ_e ?_ | with_reducible refine blockQ_t ?_ | with_reducible refine blockQ_f (by decide) ?_)) | refine aw_ret ?_ | refine aw_block ?_ | refine aw_condT rfl ?_ | refine aw_condF rfl ?_ | ((first | refine aw_hide fun K hK => aw_region ?_ | refine ago_if (by omega) ?_ | skip); simp (config := {maxSteps := 10000000}) (disch := first | exact okYes (by kernel_rfl) | omega) only [List.length, Nat.zero_add, Nat.reduceMul, Nat.reduceAdd, envOf, dI, ARun_none, AOpRun, aexec, FSt.ev, AGo_ok, St.app, putO, eput_c, Nat.reduceBEq, eput_n, cond_false, hups, List.map, ARun_nil, dropE_c, inL_n, dropE_n, St.F, eget_c, ↓eget_h, isSh, Bool.false_eq_true, ↓reduceIte, Option.map, abin, hm0, inL_c, beq_self_eq_true, cond_true, dB, Option.isSome]) | (subst hK; repeat' (first | with_reducible refine thenQ_n ?_ | with_reducible refine blockQ_n ?_ | with_reducible refine thenQ_e ?_ | with_reducible refine blockQ_t ?_ | with_reducible refine blockQ_f (by decide) ?_))))
  refine aw_loop (fun i : Nat => match lastK now f i with
    | none => ⟨[(0, dI p), (2, dI ((m + 1 : Nat) : Int)), (3, .ptr 0 0), (4, .ptr 8 0), (5, .ptr 16 0), (6, .ptr 24 0), (7, .ptr 32 0), (12, dI i)], [(0, [.list (cls c.cl), .list (sps c.pf)]), (8, [dI cl]), (16, [dI now]), (24, [.vec 48 L.length 1]), (32, [.fn 88 [] [.ptr 0 0, .ptr 8 0, .ptr 16 0, .ptr 24 0, .ptr 32 0]]), (48, icells (L ++ J))], 600⟩
    | some j => ⟨[(0, dI p), (2, dI ((m + 1 : Nat) : Int)), (3, .ptr 0 0), (4, .ptr 8 0), (5, .ptr 16 0), (6, .ptr 24 0), (7, .ptr 32 0), (12, dI i)], [(0, [.list (cls c.cl), .list (sps c.pf)]), (8, [dI cl]), (16, [dI now]), (24, [.vec 500 L.length 1]), (32, [.fn 88 [] [.ptr 0 0, .ptr 8 0, .ptr 16 0, .ptr 24 0, .ptr 32 0]]), (500, icells (L ++ ci (j :: stl now c.pf.length m (j + 1))))], 600⟩) (fun i => f ≤ i ∧ (i ≤ c.pf.length ∨ i = f) ∧ ∀ j, j < i → G j = none) (fun i => c.pf.length - i) ⟨f, ⟨Nat.le_refl _, .inr rfl, hG0⟩, ?_⟩ ?_
  · show Wk _ _ (match lastK now f f with
    | none => _
    | some j => _)
    rw [last_none (Nat.le_refl f)]
    unfold dI
    refine wk_to [] [(0, 0), (8, 8), (16, 16), (24, 24), (32, 32), (48, 48)] (by kernel_rfl) (by kernel_rfl) (by kernel_rfl) (by kernel_rfl) (by kernel_rfl) ?_ ?_ <;> repeat' (first | exact trivial | exact vr_val _ | exact vr_list _ | exact vr_vec _ _ _ _ rfl | exact vr_ptr _ _ _ rfl | apply vr_fn | refine And.intro ⟨_, rfl, .inl ⟨_, rfl, by decide, ?_⟩⟩ ?_ | apply And.intro | exact vrl_flat _ (by first | exact icells_in _ | exact rcells_in _ | exact scells_in _ | exact bcells_in _ | assumption))
  rintro i ⟨hfi, hif, hin⟩
  by_cases hi2 : i < c.pf.length
  case neg =>
    have hl : lastK now f i = lastK now f c.pf.length := by
      rcases (by omega : i = c.pf.length ∨ (i = f ∧ c.pf.length ≤ f)) with rfl | ⟨rfl, h⟩
      · rfl
      · rw [last_none (Nat.le_refl _), last_none h]
    rw [hl]
    have hgn : LL = none := by rw [hlk]; exact first_none fun j hj => hin j (by omega)
    obtain ⟨e1, e2⟩ := hun hgn
    rw [e1, e2, hgn]
    clear e1 e2 hgn hEE hNN hLL hup hun hlk hGi hG0 hin ih
    have ki : decide ((i : Int) < (c.pf.length : Int)) = false := decide_eq_false (by omega)
    cases hk : lastK now f c.pf.length with
    | none =>
      have hs : stl now c.pf.length (m + 1) f = [] := by rw [stl, hk]
      rw [hs]
      dsimp only [upB, Option.isSome_none]
      (have hg : (987654321 : Nat) - 987654321 = 0 := rfl; have hr := hg; repeat' (first | refine aw_seq ?_ | (refine aw_skip ?_; repeat' (first | with_reducible refine thenQ_n ?_ | with_reducible refine blockQ_n ?_ | with_reducible refine thenQ_e ?_ | with_reducible refine blockQ_t ?_ | with_reducible refine blockQ_f (by decide) ?_)) | (refine aw_exit ?_; repeat' (first | with_reducible refine thenQ_n ?_ | with_reducible refine blockQ_n ?_ | with_reducible refine thenQ_e ?_ | with_reducible refine blockQ_t ?_ | with_reducible refine blockQ_f (by decide) ?_)) | refine aw_ret ?_ | refine aw_block ?_ | refine aw_condT rfl ?_ | refine aw_condF rfl ?_ | ((first | refine aw_hide fun K hK => aw_region ?_ | refine ago_if (by omega) ?_ | skip); simp (config := {maxSteps := 10000000}) (disch := first | exact okYes (by kernel_rfl) | omega) only [List.length, Nat.zero_add, Nat.reduceAdd, Nat.reduceMul, dI, ARun_none, AOpRun, aexec, FSt.ev, St.F, eget_c, Nat.reduceBEq, ↓eget_h, cond_false, AGo_ok, St.app, putO, eput_c, eput_n, hups, List.map, Option.map, run1, hget_c, beq_self_eq_true, hget_n, cond_true, List.getElem?_cons_succ, List.getElem?_cons_zero, pfl, isSh, Bool.false_eq_true, ↓reduceIte, abin, ki, ARun_nil, dropE_c, inL_c, inL_n, dropE_n]) | (subst hK; repeat' (first | with_reducible refine thenQ_n ?_ | with_reducible refine blockQ_n ?_ | with_reducible refine thenQ_e ?_ | with_reducible refine blockQ_t ?_ | with_reducible refine blockQ_f (by decide) ?_))))
      refine end_to [] [(0, 0), (8, 8), (16, 16), (24, 24), (32, 32), (48, 48)] (by first | exact .inl rfl | exact .inr rfl) rfl (by kernel_rfl) (by kernel_rfl) (by kernel_rfl) ?_ ?_ <;> repeat' (first | exact trivial | exact vr_val _ | exact vr_list _ | exact vr_vec _ _ _ _ rfl | exact vr_ptr _ _ _ rfl | apply vr_fn | refine And.intro ⟨_, rfl, _, rfl, by decide, ?_⟩ ?_ | apply And.intro | exact vrl_flat _ (by first | exact icells_in _ | exact rcells_in _ | exact scells_in _ | exact bcells_in _ | assumption))
    | some j =>
      have hs : stl now c.pf.length (m + 1) f = j :: stl now c.pf.length m (j + 1) := by rw [stl, hk]
      rw [hs]
      dsimp only [upB, Option.isSome_none]
      rw [Nat.add_zero]
      generalize stl now c.pf.length m (j + 1) = Z at *
      have hcin := icells_in (L ++ ci (j :: Z))
      (have hg : (987654321 : Nat) - 987654321 = 0 := rfl; have hr := hg; repeat' (first | refine aw_seq ?_ | (refine aw_skip ?_; repeat' (first | with_reducible refine thenQ_n ?_ | with_reducible refine blockQ_n ?_ | with_reducible refine thenQ_e ?_ | with_reducible refine blockQ_t ?_ | with_reducible refine blockQ_f (by decide) ?_)) | (refine aw_exit ?_; repeat' (first | with_reducible refine thenQ_n ?_ | with_reducible refine blockQ_n ?_ | with_reducible refine thenQ_e ?_ | with_reducible refine blockQ_t ?_ | with_reducible refine blockQ_f (by decide) ?_)) | refine aw_ret ?_ | refine aw_block ?_ | refine aw_condT rfl ?_ | refine aw_condF rfl ?_ | ((first | refine aw_hide fun K hK => aw_region ?_ | refine ago_if (by omega) ?_ | skip); simp (config := {maxSteps := 10000000}) (disch := first | exact okYes (by kernel_rfl) | omega) only [List.length, Nat.zero_add, Nat.reduceAdd, Nat.reduceMul, dI, ARun_none, AOpRun, aexec, FSt.ev, St.F, eget_c, Nat.reduceBEq, ↓eget_h, cond_false, AGo_ok, St.app, putO, eput_c, eput_n, hups, List.map, Option.map, run1, hget_c, beq_self_eq_true, hget_n, cond_true, List.getElem?_cons_succ, List.getElem?_cons_zero, pfl, isSh, Bool.false_eq_true, ↓reduceIte, abin, ki, ARun_nil, dropE_c, inL_c, inL_n, dropE_n]) | (subst hK; repeat' (first | with_reducible refine thenQ_n ?_ | with_reducible refine blockQ_n ?_ | with_reducible refine thenQ_e ?_ | with_reducible refine blockQ_t ?_ | with_reducible refine blockQ_f (by decide) ?_))))
      refine end_to [] [(0, 0), (8, 8), (16, 16), (24, 24), (32, 32), (48, 48), (296, 500)] (by first | exact .inl rfl | exact .inr rfl) rfl (by kernel_rfl) (by kernel_rfl) (by kernel_rfl) ?_ ?_ <;> repeat' (first | exact trivial | exact vr_val _ | exact vr_list _ | exact vr_vec _ _ _ _ rfl | exact vr_ptr _ _ _ rfl | apply vr_fn | refine And.intro ⟨_, rfl, _, rfl, by decide, ?_⟩ ?_ | apply And.intro | exact vrl_flat _ (by first | exact icells_in _ | exact rcells_in _ | exact scells_in _ | exact bcells_in _ | assumption))
  have hno : now.testBit i = true → G i = none := fun h => by rw [hGi, if_neg (by simp [h])]
  have hin1 : G i = none → ∀ j, j < i + 1 → G j = none := fun h j hj => by
    rcases (by omega : j < i ∨ j = i) with h1 | rfl
    · exact hin j h1
    · exact h
  have ki : (i : Int) < (c.pf.length : Int) := by omega
  have w := phas_ac now i hnow (by omega)
  have w2 := pwith_ac p i hp (by omega)
  cases hb : now.testBit i with
  | true =>
    rw [hb] at w
    have hl1 : lastK now f (i + 1) = lastK now f i := by
      show (if _ then _ else _) = _
      rw [if_neg (by simp [hb])]
    have hnx := hin1 (hno hb)
    clear hEE hNN hLL hup hun hlk hGi hG0 hin ih
    cases hk : lastK now f i with
    | none =>
      dsimp only
      (have hg : (987654321 : Nat) - 987654321 = 0 := rfl; have hr := hg; repeat' (first | refine aw_seq ?_ | (refine aw_skip ?_; repeat' (first | with_reducible refine thenQ_n ?_ | with_reducible refine blockQ_n ?_ | with_reducible refine thenQ_e ?_ | with_reducible refine blockQ_t ?_ | with_reducible refine blockQ_f (by decide) ?_)) | (refine aw_exit ?_; repeat' (first | with_reducible refine thenQ_n ?_ | with_reducible refine blockQ_n ?_ | with_reducible refine thenQ_e ?_ | with_reducible refine blockQ_t ?_ | with_reducible refine blockQ_f (by decide) ?_)) | refine aw_ret ?_ | refine aw_block ?_ | refine aw_condT rfl ?_ | refine aw_condF rfl ?_ | ((first | refine aw_hide fun K hK => aw_region ?_ | refine acall0 (w) ?_ | refine ago_if (by omega) ?_ | skip); simp (config := {maxSteps := 10000000}) (disch := first | exact okYes (by kernel_rfl) | omega) only [List.length, Nat.zero_add, Nat.reduceAdd, Nat.reduceMul, dI, ARun_none, AOpRun, aexec, FSt.ev, St.F, eget_c, Nat.reduceBEq, ↓eget_h, cond_false, AGo_ok, St.app, putO, eput_c, eput_n, hups, List.map, Option.map, run1, hget_c, beq_self_eq_true, hget_n, cond_true, List.getElem?_cons_succ, List.getElem?_cons_zero, pfl, isSh, Bool.false_eq_true, ↓reduceIte, abin, ki, decide_true, ARun_nil, dropE_c, inL_c, inL_n, dropE_n, ↓hget_h, dB, fits]) | (subst hK; repeat' (first | with_reducible refine thenQ_n ?_ | with_reducible refine blockQ_n ?_ | with_reducible refine thenQ_e ?_ | with_reducible refine blockQ_t ?_ | with_reducible refine blockQ_f (by decide) ?_))))
      refine ⟨i + 1, ⟨by omega, .inl (by omega), hnx⟩, by omega, ?_⟩
      rw [hl1, hk]
      refine wk_to [] [(0, 0), (8, 8), (16, 16), (24, 24), (32, 32), (48, 48)] (by kernel_rfl) (by kernel_rfl) (by kernel_rfl) (by kernel_rfl) (by kernel_rfl) ?_ ?_ <;> repeat' (first | exact trivial | exact vr_val _ | exact vr_list _ | exact vr_vec _ _ _ _ rfl | exact vr_ptr _ _ _ rfl | apply vr_fn | refine And.intro ⟨_, rfl, .inl ⟨_, rfl, by decide, ?_⟩⟩ ?_ | apply And.intro | exact vrl_flat _ (by first | exact icells_in _ | exact rcells_in _ | exact scells_in _ | exact bcells_in _ | assumption))
    | some j =>
      dsimp only
      generalize hC : L ++ ci (j :: stl now c.pf.length m (j + 1)) = C at *
      have hcin := icells_in C
      (have hg : (987654321 : Nat) - 987654321 = 0 := rfl; have hr := hg; repeat' (first | refine aw_seq ?_ | (refine aw_skip ?_; repeat' (first | with_reducible refine thenQ_n ?_ | with_reducible refine blockQ_n ?_ | with_reducible refine thenQ_e ?_ | with_reducible refine blockQ_t ?_ | with_reducible refine blockQ_f (by decide) ?_)) | (refine aw_exit ?_; repeat' (first | with_reducible refine thenQ_n ?_ | with_reducible refine blockQ_n ?_ | with_reducible refine thenQ_e ?_ | with_reducible refine blockQ_t ?_ | with_reducible refine blockQ_f (by decide) ?_)) | refine aw_ret ?_ | refine aw_block ?_ | refine aw_condT rfl ?_ | refine aw_condF rfl ?_ | ((first | refine aw_hide fun K hK => aw_region ?_ | refine acall0 (w) ?_ | refine ago_if (by omega) ?_ | skip); simp (config := {maxSteps := 10000000}) (disch := first | exact okYes (by kernel_rfl) | omega) only [List.length, Nat.zero_add, Nat.reduceAdd, Nat.reduceMul, dI, ARun_none, AOpRun, aexec, FSt.ev, St.F, eget_c, Nat.reduceBEq, ↓eget_h, cond_false, AGo_ok, St.app, putO, eput_c, eput_n, hups, List.map, Option.map, run1, hget_c, beq_self_eq_true, hget_n, cond_true, List.getElem?_cons_succ, List.getElem?_cons_zero, pfl, isSh, Bool.false_eq_true, ↓reduceIte, abin, ki, decide_true, ARun_nil, dropE_c, inL_c, inL_n, dropE_n, ↓hget_h, dB, fits]) | (subst hK; repeat' (first | with_reducible refine thenQ_n ?_ | with_reducible refine blockQ_n ?_ | with_reducible refine thenQ_e ?_ | with_reducible refine blockQ_t ?_ | with_reducible refine blockQ_f (by decide) ?_))))
      refine ⟨i + 1, ⟨by omega, .inl (by omega), hnx⟩, by omega, ?_⟩
      rw [hl1, hk]
      dsimp only
      rw [hC]
      refine wk_to [] [(0, 0), (8, 8), (16, 16), (24, 24), (32, 32), (48, 48), (500, 500)] (by kernel_rfl) (by kernel_rfl) (by kernel_rfl) (by kernel_rfl) (by kernel_rfl) ?_ ?_ <;> repeat' (first | exact trivial | exact vr_val _ | exact vr_list _ | exact vr_vec _ _ _ _ rfl | exact vr_ptr _ _ _ rfl | apply vr_fn | refine And.intro ⟨_, rfl, .inl ⟨_, rfl, by decide, ?_⟩⟩ ?_ | apply And.intro | exact vrl_flat _ (by first | exact icells_in _ | exact rcells_in _ | exact scells_in _ | exact bcells_in _ | assumption))
  | false =>
  rw [hb] at w
  have hl1 : lastK now f (i + 1) = some i := by
    show (if _ then _ else _) = _
    rw [if_pos ⟨hfi, hb⟩]
  have hGp : G i = (lookF (hlB c cl) now c.pf.length m (p ||| 2 ^ i) (i + 1)).map (i :: ·) := by rw [hGi, if_pos ⟨hfi, hb⟩]
  have ihx := ih (p ||| 2 ^ i) (i + 1) (L ++ [(i : Int)]) [] (or_lt hp (by omega)) (by rw [List.length_append, List.length_singleton]; omega) (by simp)
  unfold hpB at ihx
  rw [List.append_nil, ← ic_app, show ((i + 1 : Nat) : Int) = (i : Int) + 1 by omega] at ihx
  rw [show (L ++ [(i : Int)]).length = L.length + 1 by simp] at ihx
  have hct : ∀ K : List Int, (icells (L ++ K)).take L.length = icells L := fun K => by
    unfold icells
    rw [List.map_append, List.take_append_of_le_length (by simp), List.take_of_length_le (by simp)]
  have hle : ∀ K : List Int, L.length ≤ (icells (L ++ K)).length := fun K => by rw [icells_len, List.length_append]; omega
  have hlf : (icells L).all D.leaf = true := icells_leaf L
  have hin2 : ∀ y ∈ icells L ++ [.val (.int .i64 (i : Int))], In (fun _ => False) y := by rw [ic_app]; exact icells_in _
  clear hGi hG0 hno ih
  cases hk : lastK now f i
  all_goals dsimp only
  case' none =>
    have hct := hct J
    have hle := hle J
    have hcin := icells_in (L ++ J)
    generalize icells (L ++ J) = CK at *
  case' some j =>
    have hct := hct (ci (j :: stl now c.pf.length m (j + 1)))
    have hle := hle (ci (j :: stl now c.pf.length m (j + 1)))
    have hcin := icells_in (L ++ ci (j :: stl now c.pf.length m (j + 1)))
    generalize icells (L ++ ci (j :: stl now c.pf.length m (j + 1))) = CK at *
  all_goals
    clear hk
    refine aw_seq (aw_seq (aw_region ?_))
    simp (config := {maxSteps := 10000000}) (disch := first | exact okYes (by kernel_rfl) | omega) only [thenQ, dI, List.length, Nat.zero_add, Nat.reduceAdd, Nat.reduceMul, ARun_none, AOpRun, aexec, FSt.ev, St.F, eget_c, Nat.reduceBEq, ↓eget_h, cond_false, AGo_ok, St.app, putO, eput_c, eput_n, hups, List.map, Option.map, run1, hget_c, beq_self_eq_true, hget_n, cond_true, List.getElem?_cons_succ, List.getElem?_cons_zero, pfl, isSh, Bool.false_eq_true, ↓reduceIte, abin, ki, decide_true, ARun_nil, dropE_c, inL_c, inL_n, dropE_n]
    refine aw_condT rfl (aw_skip ?_)
    refine aw_seq (aw_block (aw_seq (aw_seq (aw_region ?_))))
    simp (config := {maxSteps := 10000000}) (disch := first | exact okYes (by kernel_rfl) | omega) only [thenQ, List.length, Nat.zero_add, Nat.reduceAdd, Nat.reduceMul, ARun_none, AOpRun, aexec, Option.map, run1, FSt.ev, St.F, eget_c, Nat.reduceBEq, ↓eget_h, cond_false, hget_c, ↓hget_h, List.getElem?_cons_zero, AGo_ok, St.app, putO, eput_c, eput_n, hups, List.map]
    refine acall0 w ?_
    simp (config := {maxSteps := 10000000}) (disch := first | exact okYes (by kernel_rfl) | omega) only [Nat.reduceAdd, St.app, putO, dB, eput_c, Nat.reduceBEq, eput_n, cond_false, hups, ARun_nil, dropE_c, inL_c, inL_n, beq_self_eq_true, cond_true, dropE_n]
    refine aw_condF rfl (aw_skip ?_)
    refine aw_seq (aw_region ?_)
    simp (config := {maxSteps := 10000000}) (disch := first | exact okYes (by kernel_rfl) | omega) only [thenQ, List.length, Nat.zero_add, Nat.reduceAdd, Nat.reduceMul, ARun_none, AOpRun, aexec, Option.map, run1, FSt.ev, St.F, eget_c, Nat.reduceBEq, ↓eget_h, cond_false, hget_c, ↓hget_h, List.getElem?_cons_zero, AGo_ok, St.app, putO, eput_c, eput_n, hups, List.map, Option.isSome, hget_n, Bool.false_eq_true, ↓reduceIte, fillD, D.isBot, D.cells, ne_eq, not_true_eq_false, Nat.reduceGT, or_self, splice, List.take, List.nil_append, List.drop, List.append_nil, hput_c, hput_n, base, Nat.mul_one, hle, and_self, hct, elems, Nat.reduceLeDiff, List.all, D.leaf, Bool.and_true, and_true, ups, List.cons_append]
    refine ago_if (by omega) ?_
    simp (config := {maxSteps := 10000000}) (disch := first | exact okYes (by kernel_rfl) | omega) only [AGo_ok, Nat.reduceAdd, St.app, putO, eput_c, Nat.reduceBEq, eput_n, cond_false, hups, hput_c, hput_n, hdel_c, beq_self_eq_true, hdel_n, cond_true, List.map, ARun_none, AOpRun, aexec, FSt.ev, St.F, eget_c, ↓eget_h, hget_c, ↓hget_h, D.isBot, D.cells, List.length, Nat.zero_add, Nat.reduceLeDiff, List.all, D.leaf, Bool.and_true, and_self, ↓reduceIte, splice, List.take, List.nil_append, List.drop, List.append_nil, ARun_nil, dropE_c, inL_c, inL_n, dropE_n]
  all_goals
    refine aw_wk (s' := ⟨[(0, dI p), (2, dI ((m + 1 : Nat) : Int)), (3, .ptr 0 0), (4, .ptr 8 0), (5, .ptr 16 0), (6, .ptr 24 0), (7, .ptr 32 0), (12, dI i)], [(0, [.list (cls c.cl), .list (sps c.pf)]), (8, [dI cl]), (16, [dI now]), (24, [.vec 40 (L.length + 1) 1]), (32, [.fn 88 [] [.ptr 0 0, .ptr 8 0, .ptr 16 0, .ptr 24 0, .ptr 32 0]]), (40, icells L ++ [.val (.int .i64 (i : Int))])], 232⟩) ?_ ?_
    · unfold dI
      refine wk_to [] [(0, 0), (8, 8), (16, 16), (24, 24), (32, 32), (48, 48), (40, 688)] (by kernel_rfl) (by kernel_rfl) (by kernel_rfl) (by kernel_rfl) (by kernel_rfl) ?_ ?_ <;> repeat' (first | exact trivial | exact vr_val _ | exact vr_list _ | exact vr_vec _ _ _ _ rfl | exact vr_ptr _ _ _ rfl | apply vr_fn | refine And.intro ⟨_, rfl, .inl ⟨_, rfl, by decide, ?_⟩⟩ ?_ | apply And.intro | exact vrl_flat _ (by first | exact icells_in _ | exact rcells_in _ | exact scells_in _ | exact bcells_in _ | assumption))
  all_goals
    have hlen : (L ++ [(i : Int)]).length = L.length + 1 := by simp
    clear hif
    cases hr : lookF (hlB c cl) now c.pf.length m (p ||| 2 ^ i) (i + 1) with
    | some r =>
      have hLs : LL = some (i :: r) := by rw [hlk]; exact first_some hi2 hin (by rw [hGp, hr]; rfl)
      obtain ⟨e1, e2⟩ := hup _ hLs
      have x1 : lkE (hlB c cl) now c.pf.length m (p ||| 2 ^ i) (i + 1) = r := by unfold lkE; rw [hr]
      have x2 : lkN (hlB c cl) now c.pf.length m (p ||| 2 ^ i) (i + 1) = r.length := by unfold lkN; rw [hr]
      rw [hr, x1, x2] at ihx
      rw [e1, e2, hLs]
      clear e1 e2 hLs x1 x2 hr hup hun hlk hEE hNN hLL hGp hin1 hin w
      cases r with
      | nil =>
        dsimp only [upB, Option.isSome_some] at ihx ⊢
        rw [hlen, List.append_nil, ← ic_app] at ihx
        have hc1 : icells (L ++ ci [i]) = icells L ++ [.val (.int .i64 (i : Int))] := by rw [ic_app]; rfl
        rw [hc1]
        (have hg : (987654321 : Nat) - 987654321 = 0 := rfl; have hr := hg; repeat' (first | refine aw_seq ?_ | (refine aw_skip ?_; repeat' (first | with_reducible refine thenQ_n ?_ | with_reducible refine blockQ_n ?_ | with_reducible refine thenQ_e ?_ | with_reducible refine blockQ_t ?_ | with_reducible refine blockQ_f (by decide) ?_)) | (refine aw_exit ?_; repeat' (first | with_reducible refine thenQ_n ?_ | with_reducible refine blockQ_n ?_ | with_reducible refine thenQ_e ?_ | with_reducible refine blockQ_t ?_ | with_reducible refine blockQ_f (by decide) ?_)) | refine aw_ret ?_ | refine aw_block ?_ | refine aw_condT rfl ?_ | refine aw_condF rfl ?_ | ((first | refine aw_hide fun K hK => aw_region ?_ | refine acall0 (w2) ?_ | refine acallB (ihx) (by repeat' (first | exact trivial | exact rfl | refine And.intro ?_ ?_)) (by kernel_rfl) (by kernel_rfl) (by kernel_rfl) ?_ | refine ago_if (by omega) ?_ | skip); simp (config := {maxSteps := 10000000}) (disch := first | exact okYes (by kernel_rfl) | omega) only [List.length, Nat.zero_add, Nat.reduceAdd, Nat.reduceMul, dI, ARun_none, AOpRun, aexec, Option.map, run1, FSt.ev, St.F, eget_c, Nat.reduceBEq, ↓eget_h, cond_false, hget_c, ↓hget_h, List.getElem?_cons_zero, AGo_ok, St.app, putO, eput_c, eput_n, hups, List.map, isSh, Bool.false_eq_true, ↓reduceIte, abin, fits, em, dB, hput_c, beq_self_eq_true, hput_n, cond_true, List.append_nil, ARun_nil, dropE_c, inL_c, inL_n, dropE_n, thenQ, blockQ]) | (subst hK; repeat' (first | with_reducible refine thenQ_n ?_ | with_reducible refine blockQ_n ?_ | with_reducible refine thenQ_e ?_ | with_reducible refine blockQ_t ?_ | with_reducible refine blockQ_f (by decide) ?_))))
        refine end_to [] [(0, 0), (8, 8), (16, 16), (24, 24), (32, 32), (48, 48), (296, 40)] (by first | exact .inl rfl | exact .inr rfl) rfl (by kernel_rfl) (by kernel_rfl) (by kernel_rfl) ?_ ?_ <;> repeat' (first | exact trivial | exact vr_val _ | exact vr_list _ | exact vr_vec _ _ _ _ rfl | exact vr_ptr _ _ _ rfl | apply vr_fn | refine And.intro ⟨_, rfl, _, rfl, by decide, ?_⟩ ?_ | apply And.intro | exact vrl_flat _ (by first | exact icells_in _ | exact rcells_in _ | exact scells_in _ | exact bcells_in _ | assumption))
      | cons x xs =>
        dsimp only [upB, Option.isSome_some] at ihx ⊢
        rw [hlen] at ihx
        have hc1 : icells (L ++ ci (i :: x :: xs)) = icells (L ++ [(i : Int)] ++ ci (x :: xs)) := by rw [ci_cons i, List.append_assoc]
        have hc2 : L.length + (i :: x :: xs).length = L.length + 1 + (x :: xs).length := by simp only [List.length_cons]; omega
        rw [hc1, hc2]
        have hcin3 := icells_in (L ++ [(i : Int)] ++ ci (x :: xs))
        generalize icells (L ++ [(i : Int)] ++ ci (x :: xs)) = CX at *
        generalize (x :: xs).length = N at *
        (have hg : (987654321 : Nat) - 987654321 = 0 := rfl; have hr := hg; repeat' (first | refine aw_seq ?_ | (refine aw_skip ?_; repeat' (first | with_reducible refine thenQ_n ?_ | with_reducible refine blockQ_n ?_ | with_reducible refine thenQ_e ?_ | with_reducible refine blockQ_t ?_ | with_reducible refine blockQ_f (by decide) ?_)) | (refine aw_exit ?_; repeat' (first | with_reducible refine thenQ_n ?_ | with_reducible refine blockQ_n ?_ | with_reducible refine thenQ_e ?_ | with_reducible refine blockQ_t ?_ | with_reducible refine blockQ_f (by decide) ?_)) | refine aw_ret ?_ | refine aw_block ?_ | refine aw_condT rfl ?_ | refine aw_condF rfl ?_ | ((first | refine aw_hide fun K hK => aw_region ?_ | refine acall0 (w2) ?_ | refine acallB (ihx) (by repeat' (first | exact trivial | exact rfl | refine And.intro ?_ ?_)) (by kernel_rfl) (by kernel_rfl) (by kernel_rfl) ?_ | refine ago_if (by omega) ?_ | skip); simp (config := {maxSteps := 10000000}) (disch := first | exact okYes (by kernel_rfl) | omega) only [List.length, Nat.zero_add, Nat.reduceAdd, Nat.reduceMul, dI, ARun_none, AOpRun, aexec, Option.map, run1, FSt.ev, St.F, eget_c, Nat.reduceBEq, ↓eget_h, cond_false, hget_c, ↓hget_h, List.getElem?_cons_zero, AGo_ok, St.app, putO, eput_c, eput_n, hups, List.map, isSh, Bool.false_eq_true, ↓reduceIte, abin, fits, em, dB, hput_c, hput_n, hdel_c, beq_self_eq_true, hdel_n, cond_true, List.append_nil, ARun_nil, dropE_c, inL_c, inL_n, dropE_n, thenQ, blockQ]) | (subst hK; repeat' (first | with_reducible refine thenQ_n ?_ | with_reducible refine blockQ_n ?_ | with_reducible refine thenQ_e ?_ | with_reducible refine blockQ_t ?_ | with_reducible refine blockQ_f (by decide) ?_))))
        refine end_to [] [(0, 0), (8, 8), (16, 16), (24, 24), (32, 32), (48, 48), (296, 296)] (by first | exact .inl rfl | exact .inr rfl) rfl (by kernel_rfl) (by kernel_rfl) (by kernel_rfl) ?_ ?_ <;> repeat' (first | exact trivial | exact vr_val _ | exact vr_list _ | exact vr_vec _ _ _ _ rfl | exact vr_ptr _ _ _ rfl | apply vr_fn | refine And.intro ⟨_, rfl, _, rfl, by decide, ?_⟩ ?_ | apply And.intro | exact vrl_flat _ (by first | exact icells_in _ | exact rcells_in _ | exact scells_in _ | exact bcells_in _ | assumption))
    | none =>
      have hnx := hin1 (by rw [hGp, hr]; rfl)
      have x1 : lkE (hlB c cl) now c.pf.length m (p ||| 2 ^ i) (i + 1) = stl now c.pf.length m (i + 1) := by unfold lkE; rw [hr]
      have x2 : lkN (hlB c cl) now c.pf.length m (p ||| 2 ^ i) (i + 1) = 0 := by unfold lkN; rw [hr]
      rw [hr, x1, x2] at ihx
      clear x1 x2 hr hup hun hlk hEE hNN hLL hGp hin1 hin w
      have s1 : (((L.length + 1 : Nat) : Int) - 1).toNat = L.length := by omega
      have s2 : (0 : Int) ≤ ((L.length + 1 : Nat) : Int) - 1 := by omega
      have s3 : ((L.length + 1 : Nat) : Int) - 1 ≤ ((L.length + 1 : Nat) : Int) := by omega
      cases hs : stl now c.pf.length m (i + 1) with
      | nil =>
        rw [hs] at ihx
        dsimp only [upB, Option.isSome_none] at ihx
        rw [hlen, List.append_nil, ← ic_app] at ihx
        have hc1 : icells (L ++ ci [i]) = icells L ++ [.val (.int .i64 (i : Int))] := by rw [ic_app]; rfl
        (have hg : (987654321 : Nat) - 987654321 = 0 := rfl; have hr := hg; repeat' (first | refine aw_seq ?_ | (refine aw_skip ?_; repeat' (first | with_reducible refine thenQ_n ?_ | with_reducible refine blockQ_n ?_ | with_reducible refine thenQ_e ?_ | with_reducible refine blockQ_t ?_ | with_reducible refine blockQ_f (by decide) ?_)) | (refine aw_exit ?_; repeat' (first | with_reducible refine thenQ_n ?_ | with_reducible refine blockQ_n ?_ | with_reducible refine thenQ_e ?_ | with_reducible refine blockQ_t ?_ | with_reducible refine blockQ_f (by decide) ?_)) | refine aw_ret ?_ | refine aw_block ?_ | refine aw_condT rfl ?_ | refine aw_condF rfl ?_ | ((first | refine aw_hide fun K hK => aw_region ?_ | refine acall0 (w2) ?_ | refine acallB (ihx) (by repeat' (first | exact trivial | exact rfl | refine And.intro ?_ ?_)) (by kernel_rfl) (by kernel_rfl) (by kernel_rfl) ?_ | refine ago_if (by omega) ?_ | skip); simp (config := {maxSteps := 10000000}) (disch := first | exact okYes (by kernel_rfl) | omega) only [List.length, Nat.zero_add, Nat.reduceAdd, Nat.reduceMul, dI, ARun_none, AOpRun, aexec, Option.map, run1, FSt.ev, St.F, eget_c, Nat.reduceBEq, ↓eget_h, cond_false, hget_c, ↓hget_h, List.getElem?_cons_zero, AGo_ok, St.app, putO, eput_c, eput_n, hups, List.map, isSh, Bool.false_eq_true, ↓reduceIte, abin, fits, em, dB, hput_c, beq_self_eq_true, hput_n, cond_true, List.append_nil, ARun_nil, dropE_c, inL_c, inL_n, dropE_n, asI, Int.le_refl, s2, s3, true_or, and_self, s1, D.isBot, D.cells, Nat.reduceLeDiff, List.all, D.leaf, Bool.and_true, splice, List.take, List.nil_append, List.drop]) | (subst hK; repeat' (first | with_reducible refine thenQ_n ?_ | with_reducible refine blockQ_n ?_ | with_reducible refine thenQ_e ?_ | with_reducible refine blockQ_t ?_ | with_reducible refine blockQ_f (by decide) ?_))))
        refine ⟨i + 1, ⟨by omega, .inl (by omega), hnx⟩, by omega, ?_⟩
        rw [hl1]
        dsimp only
        rw [hs, hc1]
        refine wk_to [] [(0, 0), (8, 8), (16, 16), (24, 24), (32, 32), (48, 48), (500, 40)] (by kernel_rfl) (by kernel_rfl) (by kernel_rfl) (by kernel_rfl) (by kernel_rfl) ?_ ?_ <;> repeat' (first | exact trivial | exact vr_val _ | exact vr_list _ | exact vr_vec _ _ _ _ rfl | exact vr_ptr _ _ _ rfl | apply vr_fn | refine And.intro ⟨_, rfl, .inl ⟨_, rfl, by decide, ?_⟩⟩ ?_ | apply And.intro | exact vrl_flat _ (by first | exact icells_in _ | exact rcells_in _ | exact scells_in _ | exact bcells_in _ | assumption))
      | cons x xs =>
        rw [hs] at ihx
        dsimp only [upB, Option.isSome_none] at ihx
        rw [Nat.add_zero, hlen] at ihx
        have hc1 : icells (L ++ ci (i :: x :: xs)) = icells (L ++ [(i : Int)] ++ ci (x :: xs)) := by rw [ci_cons i, List.append_assoc]
        have hcin3 := icells_in (L ++ [(i : Int)] ++ ci (x :: xs))
        generalize icells (L ++ [(i : Int)] ++ ci (x :: xs)) = CX at *
        (have hg : (987654321 : Nat) - 987654321 = 0 := rfl; have hr := hg; repeat' (first | refine aw_seq ?_ | (refine aw_skip ?_; repeat' (first | with_reducible refine thenQ_n ?_ | with_reducible refine blockQ_n ?_ | with_reducible refine thenQ_e ?_ | with_reducible refine blockQ_t ?_ | with_reducible refine blockQ_f (by decide) ?_)) | (refine aw_exit ?_; repeat' (first | with_reducible refine thenQ_n ?_ | with_reducible refine blockQ_n ?_ | with_reducible refine thenQ_e ?_ | with_reducible refine blockQ_t ?_ | with_reducible refine blockQ_f (by decide) ?_)) | refine aw_ret ?_ | refine aw_block ?_ | refine aw_condT rfl ?_ | refine aw_condF rfl ?_ | ((first | refine aw_hide fun K hK => aw_region ?_ | refine acall0 (w2) ?_ | refine acallB (ihx) (by repeat' (first | exact trivial | exact rfl | refine And.intro ?_ ?_)) (by kernel_rfl) (by kernel_rfl) (by kernel_rfl) ?_ | refine ago_if (by omega) ?_ | skip); simp (config := {maxSteps := 10000000}) (disch := first | exact okYes (by kernel_rfl) | omega) only [List.length, Nat.zero_add, Nat.reduceAdd, Nat.reduceMul, dI, ARun_none, AOpRun, aexec, Option.map, run1, FSt.ev, St.F, eget_c, Nat.reduceBEq, ↓eget_h, cond_false, hget_c, ↓hget_h, List.getElem?_cons_zero, AGo_ok, St.app, putO, eput_c, eput_n, hups, List.map, isSh, Bool.false_eq_true, ↓reduceIte, abin, fits, em, dB, hput_c, hput_n, hdel_c, beq_self_eq_true, hdel_n, cond_true, List.append_nil, ARun_nil, dropE_c, inL_c, inL_n, dropE_n, asI, Int.le_refl, s2, s3, true_or, and_self, s1, D.isBot, D.cells, Nat.reduceLeDiff, List.all, D.leaf, Bool.and_true, splice, List.take, List.nil_append, List.drop]) | (subst hK; repeat' (first | with_reducible refine thenQ_n ?_ | with_reducible refine blockQ_n ?_ | with_reducible refine thenQ_e ?_ | with_reducible refine blockQ_t ?_ | with_reducible refine blockQ_f (by decide) ?_))))
        refine ⟨i + 1, ⟨by omega, .inl (by omega), hnx⟩, by omega, ?_⟩
        rw [hl1]
        dsimp only
        rw [hs, hc1]
        refine wk_to [] [(0, 0), (8, 8), (16, 16), (24, 24), (32, 32), (48, 48), (500, 296)] (by kernel_rfl) (by kernel_rfl) (by kernel_rfl) (by kernel_rfl) (by kernel_rfl) ?_ ?_ <;> repeat' (first | exact trivial | exact vr_val _ | exact vr_list _ | exact vr_vec _ _ _ _ rfl | exact vr_ptr _ _ _ rfl | apply vr_fn | refine And.intro ⟨_, rfl, .inl ⟨_, rfl, by decide, ?_⟩⟩ ?_ | apply And.intro | exact vrl_flat _ (by first | exact icells_in _ | exact rcells_in _ | exact scells_in _ | exact bcells_in _ | assumption))
end Go.Proofs.Ytdcodicoclecnaa
/- record.Renew. No conditions. -/
set_option linter.unusedSimpArgs false
set_option linter.unusedVariables false
namespace Go.Proofs.Ytdcodicoclecnaa
open Go Go.RowKit Lift

theorem look_bc (c : Cas) (hc : CasOk c) (cl : Nat) (hcl : cl < c.cl.length) (now : Nat) (hnow : now < 4096) : ∀ m : Nat, (∀ (p f : Nat) (L J : List Int), p < 4096 → L.length + m ≤ 1000 → L ++ J ≠ [] → AC Try.prog 88 [dI p, dI f, dI m, .ptr 0 0, .ptr 8 0, .ptr 16 0, .ptr 24 0, .ptr 32 0] (hpB c cl now 40 L J) (upB c cl now 40 L J (lkE (hlB c cl) now c.pf.length m p f) (lkN (hlB c cl) now c.pf.length m p f)) (dB (lookF (hlB c cl) now c.pf.length m p f).isSome)) ∧ (∀ (p f : Nat) (L J : List Int), p < 4096 → L.length + m ≤ 1000 → L ++ J ≠ [] → AC Try.prog 88 [dI p, dI f, dI m, .ptr 0 0, .ptr 8 0, .ptr 16 0, .ptr 24 0, .ptr 32 0] (hpB c cl now 48 L J) (upB c cl now 48 L J (lkE (hlB c cl) now c.pf.length m p f) (lkN (hlB c cl) now c.pf.length m p f)) (dB (lookF (hlB c cl) now c.pf.length m p f).isSome))
  | 0 => ⟨fun p f L J => lookB_zero c hc cl hcl now hnow p f L J, fun p f L J => lookC_zero c hc cl hcl now hnow p f L J⟩
  | m + 1 => ⟨fun p f L J => lookB_succ c hc cl hcl now hnow m (look_bc c hc cl hcl now hnow m).2 p f L J, fun p f L J => lookC_succ c hc cl hcl now hnow m (look_bc c hc cl hcl now hnow m).1 p f L J⟩
theorem look_a (c : Cas) (hc : CasOk c) (cl : Nat) (hcl : cl < c.cl.length) (now : Nat) (hnow : now < 4096) (m p f : Nat) (hp : p < 4096) (hm : m ≤ 1000) : AC Try.prog 88 [dI p, dI f, dI m, .ptr 0 0, .ptr 8 0, .ptr 16 0, .ptr 24 0, .ptr 32 0] (hpA c cl now) (upA c cl now [] (lkE (hlB c cl) now c.pf.length m p f) (lkN (hlB c cl) now c.pf.length m p f)) (dB (lookF (hlB c cl) now c.pf.length m p f).isSome) := by
  cases m with
  | zero => exact lookA_zero c hc cl hcl now hnow p f [] rfl hp (by simp)
  | succ m => exact lookA_succ c hc cl hcl now hnow m (look_bc c hc cl hcl now hnow m).1 p f [] rfl hp (by simp; omega)
/-- what lies behind the chosen ones before a round -/
def stK (now n : Nat) : Nat → List Nat
  | 0 => []
  | k + 1 => stl now n k 0
theorem stl_ne {now n m : Nat} (h : stl now n m 0 ≠ []) : stl now n (m + 1) 0 ≠ [] := by
  cases m with
  | zero => exact absurd rfl h
  | succ m =>
    rw [stl] at h ⊢
    cases hk : lastK now 0 n with
    | none => rw [hk] at h; exact absurd rfl h
    | some j => simp
theorem stK_ne {now n k : Nat} (h : stK now n k ≠ []) : stl now n k 0 ≠ [] ∧ 0 < k := by
  cases k with
  | zero => exact absurd rfl h
  | succ k => exact ⟨stl_ne h, by omega⟩
def renD (c : Cas) (cl : Nat) (tick : Int) : D := match renF (hlB c cl) (cntN c tick) c.pf.length with
  | none => .tup [.list [], dI 3]
  | some l => .tup [.list (ints (ci l)), dI 0]
set_option maxRecDepth 100000 in
set_option maxHeartbeats 8000000 in
theorem renewP_ok (c : Cas) (hi : CasIn c) (cl tk : Nat) (h0 : clmE c cl tk 122 1 = 0) : AC Try.prog 41 [casD c, dI cl, dI tk] [] [] (renD c cl tk) := by
  refine krecord_Renew.ac (n0 := 0) (by simp) ⟨in_cas _ _, .val _, .val _, trivial⟩ trivial rfl ?_
  obtain ⟨hc, cl', tk', e1, e2, hcl, htk⟩ := clmE_ok h0
  obtain rfl : cl = cl' := by omega
  obtain rfl : tk = tk' := by omega
  clear e1 e2
  have ck := ccheck_ac c hi cl tk
  rw [h0] at ck
  have n2 := hc.n2
  have cc := counting_ac c hc.n2 (tk : Int)
  have hnow := cntN_lt hc (tk : Int)
  unfold crecord_Renew
  unfold casD at *
  unfold renD
  have pfl := sps_len c.pf
  generalize cntN c tk = now at *
  have ha := fun m hm => look_a c hc cl hcl now hnow m now 0 hnow hm
  have hB := fun m => (look_bc c hc cl hcl now hnow m).1 now 0 []
  unfold hpA at ha
  unfold hpB at hB
  (have hg : (987654321 : Nat) - 987654321 = 0 := rfl; have hr := hg; repeat' (first | refine aw_seq ?_ | (refine aw_skip ?_; repeat' (first | with_reducible refine thenQ_n ?_ | with_reducible refine blockQ_n ?_ | with_reducible refine thenQ_e ?_ | with_reducible refine blockQ_t ?_ | with_reducible refine blockQ_f (by decide) ?_)) | (refine aw_exit ?_; repeat' (first | with_reducible refine thenQ_n ?_ | with_reducible refine blockQ_n ?_ | with_reducible refine thenQ_e ?_ | with_reducible refine blockQ_t ?_ | with_reducible refine blockQ_f (by decide) ?_)) | refine aw_ret ?_ | refine aw_block ?_ | refine aw_condT rfl ?_ | refine aw_condF rfl ?_ | ((first | refine aw_hide fun K hK => aw_region ?_ | refine acall0 (ck) ?_ | refine acall0 (cc) ?_ | refine ago_if (by omega) ?_ | skip); simp (config := {maxSteps := 10000000}) (disch := first | exact okYes (by kernel_rfl) | omega) only [List.length, Nat.zero_add, Nat.reduceAdd, Nat.reduceMul, envOf, dI, ARun_none, AOpRun, aexec, D.isBot, FSt.ev, St.F, ↓eget_h, Bool.false_eq_true, Option.isSome, hget_n, or_self, ↓reduceIte, D.cells, AGo_ok, St.app, putO, eput_c, Nat.reduceBEq, eput_n, cond_false, hups, hput_n, List.map, eget_c, hget_c, hput_c, ARun_nil, dropE_c, inL_n, dropE_n, beq_self_eq_true, cond_true, Nat.reduceLeDiff, List.drop, List.take, Option.map, run1, ↓hget_h, List.getElem?_cons_zero, inL_c, isSh, abin, bne_self_eq_false, List.all, D.leaf, Bool.and_true, and_self, splice, List.nil_append, List.append_nil, List.getElem?_cons_succ, pfl, fits]) | (subst hK; repeat' (first | with_reducible refine thenQ_n ?_ | with_reducible refine blockQ_n ?_ | with_reducible refine thenQ_e ?_ | with_reducible refine blockQ_t ?_ | with_reducible refine blockQ_f (by decide) ?_))))
  clear ck cc
  refine aw_loop (fun k : Nat => match stK now c.pf.length k with
    | [] => ⟨[(3, .ptr 0 0), (4, .ptr 8 0), (9, .ptr 16 0), (10, .ptr 24 0), (11, .ptr 32 0), (27, dI ((c.pf.length : Int) + 1)), (28, dI k)], [(0, [.list (cls c.cl), .list (sps c.pf)]), (8, [dI cl]), (16, [dI now]), (24, [.val (.slice none 0 0)]), (32, [.fn 88 [] [.ptr 0 0, .ptr 8 0, .ptr 16 0, .ptr 24 0, .ptr 32 0]])], 248⟩
    | x :: xs => ⟨[(3, .ptr 0 0), (4, .ptr 8 0), (9, .ptr 16 0), (10, .ptr 24 0), (11, .ptr 32 0), (27, dI ((c.pf.length : Int) + 1)), (28, dI k)], [(0, [.list (cls c.cl), .list (sps c.pf)]), (8, [dI cl]), (16, [dI now]), (24, [.vec 40 0 1]), (32, [.fn 88 [] [.ptr 0 0, .ptr 8 0, .ptr 16 0, .ptr 24 0, .ptr 32 0]]), (40, icells (ci (x :: xs)))], 248⟩) (fun k => k ≤ c.pf.length + 1 ∧ ∀ j, j < k → lookF (hlB c cl) now c.pf.length j now 0 = none) (fun k => c.pf.length + 1 - k) ⟨0, ⟨by omega, fun j hj => by omega⟩, ?_⟩ ?_
  · show Wk _ _ ⟨_, _, _⟩
    unfold dI
    refine wk_to [] [(0, 0), (8, 8), (16, 112), (24, 128), (32, 136)] (by kernel_rfl) (by kernel_rfl) (by kernel_rfl) (by kernel_rfl) (by kernel_rfl) ?_ ?_ <;> repeat' (first | exact trivial | exact vr_val _ | exact vr_list _ | exact vr_ptr _ _ _ rfl | apply vr_fn | refine And.intro ⟨_, rfl, .inl ⟨_, rfl, by decide, ?_⟩⟩ ?_ | apply And.intro)
  rintro k ⟨hk, hin⟩
  by_cases hk2 : k < c.pf.length + 1
  case neg =>
    obtain rfl : k = c.pf.length + 1 := by omega
    have hr : renF (hlB c cl) now c.pf.length = none := first_none hin
    rw [hr]
    dsimp only
    have ki : decide (((c.pf.length + 1 : Nat) : Int) < (c.pf.length : Int) + 1) = false := decide_eq_false (by omega)
    cases hs : stK now c.pf.length (c.pf.length + 1) with
    | nil =>
      dsimp only
      (have hg : (987654321 : Nat) - 987654321 = 0 := rfl; have hr := hg; repeat' (first | refine aw_seq ?_ | (refine aw_skip ?_; repeat' (first | with_reducible refine thenQ_n ?_ | with_reducible refine blockQ_n ?_ | with_reducible refine thenQ_e ?_ | with_reducible refine blockQ_t ?_ | with_reducible refine blockQ_f (by decide) ?_)) | (refine aw_exit ?_; repeat' (first | with_reducible refine thenQ_n ?_ | with_reducible refine blockQ_n ?_ | with_reducible refine thenQ_e ?_ | with_reducible refine blockQ_t ?_ | with_reducible refine blockQ_f (by decide) ?_)) | refine aw_ret ?_ | refine aw_block ?_ | refine aw_condT rfl ?_ | refine aw_condF rfl ?_ | ((first | refine aw_hide fun K hK => aw_region ?_ | refine ago_if (by omega) ?_ | skip); simp (config := {maxSteps := 10000000}) (disch := first | exact okYes (by kernel_rfl) | omega) only [List.length, Nat.zero_add, Nat.reduceMul, Nat.reduceAdd, dI, ARun_none, AOpRun, aexec, FSt.ev, St.F, eget_c, Nat.reduceBEq, ↓eget_h, cond_false, isSh, Bool.false_eq_true, ↓reduceIte, Option.map, abin, ki, AGo_ok, St.app, putO, eput_c, eput_n, hups, List.map, ARun_nil, dropE_c, inL_n, dropE_n]) | (subst hK; repeat' (first | with_reducible refine thenQ_n ?_ | with_reducible refine blockQ_n ?_ | with_reducible refine thenQ_e ?_ | with_reducible refine blockQ_t ?_ | with_reducible refine blockQ_f (by decide) ?_))))
      refine end_to [] [] (by first | exact .inl rfl | exact .inr rfl) rfl (by kernel_rfl) (by kernel_rfl) (by kernel_rfl) ?_ ?_ <;> repeat' (first | exact trivial | exact vr_val _ | exact vr_nil | apply vr_tup | apply And.intro)
    | cons x xs =>
      dsimp only
      (have hg : (987654321 : Nat) - 987654321 = 0 := rfl; have hr := hg; repeat' (first | refine aw_seq ?_ | (refine aw_skip ?_; repeat' (first | with_reducible refine thenQ_n ?_ | with_reducible refine blockQ_n ?_ | with_reducible refine thenQ_e ?_ | with_reducible refine blockQ_t ?_ | with_reducible refine blockQ_f (by decide) ?_)) | (refine aw_exit ?_; repeat' (first | with_reducible refine thenQ_n ?_ | with_reducible refine blockQ_n ?_ | with_reducible refine thenQ_e ?_ | with_reducible refine blockQ_t ?_ | with_reducible refine blockQ_f (by decide) ?_)) | refine aw_ret ?_ | refine aw_block ?_ | refine aw_condT rfl ?_ | refine aw_condF rfl ?_ | ((first | refine aw_hide fun K hK => aw_region ?_ | refine ago_if (by omega) ?_ | skip); simp (config := {maxSteps := 10000000}) (disch := first | exact okYes (by kernel_rfl) | omega) only [List.length, Nat.zero_add, Nat.reduceMul, Nat.reduceAdd, dI, ARun_none, AOpRun, aexec, FSt.ev, St.F, eget_c, Nat.reduceBEq, ↓eget_h, cond_false, isSh, Bool.false_eq_true, ↓reduceIte, Option.map, abin, ki, AGo_ok, St.app, putO, eput_c, eput_n, hups, List.map, ARun_nil, dropE_c, inL_n, dropE_n]) | (subst hK; repeat' (first | with_reducible refine thenQ_n ?_ | with_reducible refine blockQ_n ?_ | with_reducible refine thenQ_e ?_ | with_reducible refine blockQ_t ?_ | with_reducible refine blockQ_f (by decide) ?_))))
      refine end_to [] [] (by first | exact .inl rfl | exact .inr rfl) rfl (by kernel_rfl) (by kernel_rfl) (by kernel_rfl) ?_ ?_ <;> repeat' (first | exact trivial | exact vr_val _ | exact vr_nil | apply vr_tup | apply And.intro)
  have ki : decide ((k : Int) < (c.pf.length : Int) + 1) = true := decide_eq_true (by omega)
  cases hs : stK now c.pf.length k with
  | nil =>
    dsimp only
    have ih := ha k (by omega)
    rw [show ((0 : Nat) : Int) = 0 from rfl] at ih
    cases hl : lookF (hlB c cl) now c.pf.length k now 0 with
    | some r =>
      have hr : renF (hlB c cl) now c.pf.length = some r := first_some hk2 hin hl
      have x1 : lkE (hlB c cl) now c.pf.length k now 0 = r := by unfold lkE; rw [hl]
      have x2 : lkN (hlB c cl) now c.pf.length k now 0 = r.length := by unfold lkN; rw [hl]
      rw [hl, x1, x2] at ih
      rw [hr]
      clear ha hB x1 x2 hr
      cases r with
      | nil =>
        dsimp only [upA, Option.isSome_some] at ih ⊢
        rw [show ints (ci []) = [] from rfl]
        (have hg : (987654321 : Nat) - 987654321 = 0 := rfl; have hr := hg; repeat' (first | refine aw_seq ?_ | (refine aw_skip ?_; repeat' (first | with_reducible refine thenQ_n ?_ | with_reducible refine blockQ_n ?_ | with_reducible refine thenQ_e ?_ | with_reducible refine blockQ_t ?_ | with_reducible refine blockQ_f (by decide) ?_)) | (refine aw_exit ?_; repeat' (first | with_reducible refine thenQ_n ?_ | with_reducible refine blockQ_n ?_ | with_reducible refine thenQ_e ?_ | with_reducible refine blockQ_t ?_ | with_reducible refine blockQ_f (by decide) ?_)) | refine aw_ret ?_ | refine aw_block ?_ | refine aw_condT rfl ?_ | refine aw_condF rfl ?_ | ((first | refine aw_hide fun K hK => aw_region ?_ | refine acallB (ih) (by repeat' (first | exact trivial | exact rfl | refine And.intro ?_ ?_)) (by kernel_rfl) (by kernel_rfl) (by kernel_rfl) ?_ | refine ago_if (by omega) ?_ | skip); simp (config := {maxSteps := 10000000}) (disch := first | exact okYes (by kernel_rfl) | omega) only [List.length, Nat.zero_add, Nat.reduceMul, Nat.reduceAdd, dI, ARun_none, AOpRun, aexec, FSt.ev, St.F, eget_c, Nat.reduceBEq, ↓eget_h, cond_false, isSh, Bool.false_eq_true, ↓reduceIte, Option.map, abin, ki, AGo_ok, St.app, putO, eput_c, eput_n, hups, List.map, ARun_nil, dropE_c, inL_n, dropE_n, inL_c, beq_self_eq_true, cond_true, run1, hget_c, ↓hget_h, List.getElem?_cons_zero, dB, hput_c, hput_n, List.append_nil, blockQ, thenQ]) | (subst hK; repeat' (first | with_reducible refine thenQ_n ?_ | with_reducible refine blockQ_n ?_ | with_reducible refine thenQ_e ?_ | with_reducible refine blockQ_t ?_ | with_reducible refine blockQ_f (by decide) ?_))))
        refine end_to [] [] (by first | exact .inl rfl | exact .inr rfl) rfl (by kernel_rfl) (by kernel_rfl) (by kernel_rfl) ?_ ?_ <;> repeat' (first | exact trivial | exact vr_val _ | exact vr_nil | apply vr_tup | apply And.intro)
      | cons x xs =>
        dsimp only [upA, Option.isSome_some] at ih ⊢
        simp only [List.length_nil, List.nil_append, Nat.zero_add] at ih
        have hCl : (ci (x :: xs)).length = (x :: xs).length := by unfold ci; rw [List.length_map]
        generalize ci (x :: xs) = C at *
        generalize (x :: xs).length = N at *
        have hcin := icells_in C
        (have hg : (987654321 : Nat) - 987654321 = 0 := rfl; have hr := hg; repeat' (first | refine aw_seq ?_ | (refine aw_skip ?_; repeat' (first | with_reducible refine thenQ_n ?_ | with_reducible refine blockQ_n ?_ | with_reducible refine thenQ_e ?_ | with_reducible refine blockQ_t ?_ | with_reducible refine blockQ_f (by decide) ?_)) | (refine aw_exit ?_; repeat' (first | with_reducible refine thenQ_n ?_ | with_reducible refine blockQ_n ?_ | with_reducible refine thenQ_e ?_ | with_reducible refine blockQ_t ?_ | with_reducible refine blockQ_f (by decide) ?_)) | refine aw_ret ?_ | refine aw_block ?_ | refine aw_condT rfl ?_ | refine aw_condF rfl ?_ | ((first | refine aw_hide fun K hK => aw_region ?_ | refine acallB (ih) (by repeat' (first | exact trivial | exact rfl | refine And.intro ?_ ?_)) (by kernel_rfl) (by kernel_rfl) (by kernel_rfl) ?_ | refine ago_if (by omega) ?_ | skip); simp (config := {maxSteps := 10000000}) (disch := first | exact okYes (by kernel_rfl) | omega) only [List.length, Nat.zero_add, Nat.reduceMul, Nat.reduceAdd, dI, ARun_none, AOpRun, aexec, FSt.ev, St.F, eget_c, Nat.reduceBEq, ↓eget_h, cond_false, isSh, Bool.false_eq_true, ↓reduceIte, Option.map, abin, ki, AGo_ok, St.app, putO, eput_c, eput_n, hups, List.map, ARun_nil, dropE_c, inL_n, dropE_n, inL_c, beq_self_eq_true, cond_true, run1, hget_c, ↓hget_h, List.getElem?_cons_zero, dB, hput_c, hput_n, List.append_nil, blockQ, thenQ]) | (subst hK; repeat' (first | with_reducible refine thenQ_n ?_ | with_reducible refine blockQ_n ?_ | with_reducible refine thenQ_e ?_ | with_reducible refine blockQ_t ?_ | with_reducible refine blockQ_f (by decide) ?_))))
        refine end_to [296] [] (by first | exact .inl rfl | exact .inr rfl) rfl (by kernel_rfl) (by kernel_rfl) (by kernel_rfl) ?_ ?_ <;> repeat' (first | exact trivial | exact vr_val _ | apply vr_tup | refine vr_fl _ _ _ _ _ (by decide) rfl ?_ ?_ ?_ ?_ | apply And.intro)
        all_goals first | exact ints_one _ | exact (ints_len _).trans hCl | exact ints_flat _ | exact icells_in _
    | none =>
      have hnx : ∀ j, j < k + 1 → lookF (hlB c cl) now c.pf.length j now 0 = none := fun j hj => by
        rcases (by omega : j < k ∨ j = k) with h1 | rfl
        · exact hin j h1
        · exact hl
      have x1 : lkE (hlB c cl) now c.pf.length k now 0 = stl now c.pf.length k 0 := by unfold lkE; rw [hl]
      have x2 : lkN (hlB c cl) now c.pf.length k now 0 = 0 := by unfold lkN; rw [hl]
      rw [hl, x1, x2] at ih
      clear ha hB x1 x2
      cases hE : stl now c.pf.length k 0 with
      | nil =>
        rw [hE] at ih
        dsimp only [upA, Option.isSome_none] at ih
        (have hg : (987654321 : Nat) - 987654321 = 0 := rfl; have hr := hg; repeat' (first | refine aw_seq ?_ | (refine aw_skip ?_; repeat' (first | with_reducible refine thenQ_n ?_ | with_reducible refine blockQ_n ?_ | with_reducible refine thenQ_e ?_ | with_reducible refine blockQ_t ?_ | with_reducible refine blockQ_f (by decide) ?_)) | (refine aw_exit ?_; repeat' (first | with_reducible refine thenQ_n ?_ | with_reducible refine blockQ_n ?_ | with_reducible refine thenQ_e ?_ | with_reducible refine blockQ_t ?_ | with_reducible refine blockQ_f (by decide) ?_)) | refine aw_ret ?_ | refine aw_block ?_ | refine aw_condT rfl ?_ | refine aw_condF rfl ?_ | ((first | refine aw_hide fun K hK => aw_region ?_ | refine acallB (ih) (by repeat' (first | exact trivial | exact rfl | refine And.intro ?_ ?_)) (by kernel_rfl) (by kernel_rfl) (by kernel_rfl) ?_ | refine ago_if (by omega) ?_ | skip); simp (config := {maxSteps := 10000000}) (disch := first | exact okYes (by kernel_rfl) | omega) only [List.length, Nat.zero_add, Nat.reduceMul, Nat.reduceAdd, dI, ARun_none, AOpRun, aexec, FSt.ev, St.F, eget_c, Nat.reduceBEq, ↓eget_h, cond_false, isSh, Bool.false_eq_true, ↓reduceIte, Option.map, abin, ki, AGo_ok, St.app, putO, eput_c, eput_n, hups, List.map, ARun_nil, dropE_c, inL_n, dropE_n, inL_c, beq_self_eq_true, cond_true, run1, hget_c, ↓hget_h, List.getElem?_cons_zero, dB, hput_c, hput_n, List.append_nil, fits]) | (subst hK; repeat' (first | with_reducible refine thenQ_n ?_ | with_reducible refine blockQ_n ?_ | with_reducible refine thenQ_e ?_ | with_reducible refine blockQ_t ?_ | with_reducible refine blockQ_f (by decide) ?_))))
        refine ⟨k + 1, ⟨by omega, hnx⟩, by omega, ?_⟩
        rw [show stK now c.pf.length (k + 1) = [] from hE]
        dsimp only
        refine wk_to [] [(0, 0), (8, 8), (16, 16), (24, 24), (32, 32)] (by kernel_rfl) (by kernel_rfl) (by kernel_rfl) (by kernel_rfl) (by kernel_rfl) ?_ ?_ <;> repeat' (first | exact trivial | exact vr_val _ | exact vr_list _ | exact vr_ptr _ _ _ rfl | apply vr_fn | refine And.intro ⟨_, rfl, .inl ⟨_, rfl, by decide, ?_⟩⟩ ?_ | apply And.intro)
      | cons x xs =>
        rw [hE] at ih
        dsimp only [upA, Option.isSome_none] at ih
        simp only [List.length_nil, List.nil_append, Nat.zero_add] at ih
        have hcin := icells_in (ci (x :: xs))
        (have hg : (987654321 : Nat) - 987654321 = 0 := rfl; have hr := hg; repeat' (first | refine aw_seq ?_ | (refine aw_skip ?_; repeat' (first | with_reducible refine thenQ_n ?_ | with_reducible refine blockQ_n ?_ | with_reducible refine thenQ_e ?_ | with_reducible refine blockQ_t ?_ | with_reducible refine blockQ_f (by decide) ?_)) | (refine aw_exit ?_; repeat' (first | with_reducible refine thenQ_n ?_ | with_reducible refine blockQ_n ?_ | with_reducible refine thenQ_e ?_ | with_reducible refine blockQ_t ?_ | with_reducible refine blockQ_f (by decide) ?_)) | refine aw_ret ?_ | refine aw_block ?_ | refine aw_condT rfl ?_ | refine aw_condF rfl ?_ | ((first | refine aw_hide fun K hK => aw_region ?_ | refine acallB (ih) (by repeat' (first | exact trivial | exact rfl | refine And.intro ?_ ?_)) (by kernel_rfl) (by kernel_rfl) (by kernel_rfl) ?_ | refine ago_if (by omega) ?_ | skip); simp (config := {maxSteps := 10000000}) (disch := first | exact okYes (by kernel_rfl) | omega) only [List.length, Nat.zero_add, Nat.reduceMul, Nat.reduceAdd, dI, ARun_none, AOpRun, aexec, FSt.ev, St.F, eget_c, Nat.reduceBEq, ↓eget_h, cond_false, isSh, Bool.false_eq_true, ↓reduceIte, Option.map, abin, ki, AGo_ok, St.app, putO, eput_c, eput_n, hups, List.map, ARun_nil, dropE_c, inL_n, dropE_n, inL_c, beq_self_eq_true, cond_true, run1, hget_c, ↓hget_h, List.getElem?_cons_zero, dB, hput_c, hput_n, List.append_nil, fits]) | (subst hK; repeat' (first | with_reducible refine thenQ_n ?_ | with_reducible refine blockQ_n ?_ | with_reducible refine thenQ_e ?_ | with_reducible refine blockQ_t ?_ | with_reducible refine blockQ_f (by decide) ?_))))
        refine ⟨k + 1, ⟨by omega, hnx⟩, by omega, ?_⟩
        rw [show stK now c.pf.length (k + 1) = x :: xs from hE]
        dsimp only
        refine wk_to [] [(0, 0), (8, 8), (16, 16), (24, 24), (32, 32), (40, 296)] (by kernel_rfl) (by kernel_rfl) (by kernel_rfl) (by kernel_rfl) (by kernel_rfl) ?_ ?_ <;> repeat' (first | exact trivial | exact vr_val _ | exact vr_list _ | exact vr_vec _ _ _ _ rfl | exact vr_ptr _ _ _ rfl | apply vr_fn | refine And.intro ⟨_, rfl, .inl ⟨_, rfl, by decide, ?_⟩⟩ ?_ | apply And.intro | exact vrl_flat _ (by first | exact icells_in _ | exact rcells_in _ | exact scells_in _ | exact bcells_in _ | assumption))
  | cons x0 xs0 =>
    have hne := stK_ne (now := now) (n := c.pf.length) (k := k) (by rw [hs]; simp)
    have hcin0 := icells_in (ci (x0 :: xs0))
    dsimp only
    have ih := hB k (ci (x0 :: xs0)) hnow (by simp; omega) (by simp [ci])
    rw [show ((0 : Nat) : Int) = 0 from rfl] at ih
    cases hl : lookF (hlB c cl) now c.pf.length k now 0 with
    | some r =>
      have hr : renF (hlB c cl) now c.pf.length = some r := first_some hk2 hin hl
      have x1 : lkE (hlB c cl) now c.pf.length k now 0 = r := by unfold lkE; rw [hl]
      have x2 : lkN (hlB c cl) now c.pf.length k now 0 = r.length := by unfold lkN; rw [hl]
      rw [hl, x1, x2] at ih
      rw [hr]
      clear ha hB x1 x2 hr
      have hlen := (look_some hl).1
      cases r with
      | nil => exact absurd hlen (by simp; omega)
      | cons x xs =>
        dsimp only [upB, Option.isSome_some] at ih ⊢
        simp only [List.length_nil, List.nil_append, Nat.zero_add] at ih
        have hCl : (ci (x :: xs)).length = (x :: xs).length := by unfold ci; rw [List.length_map]
        generalize ci (x :: xs) = C at *
        generalize (x :: xs).length = N at *
        have hcin := icells_in C
        (have hg : (987654321 : Nat) - 987654321 = 0 := rfl; have hr := hg; repeat' (first | refine aw_seq ?_ | (refine aw_skip ?_; repeat' (first | with_reducible refine thenQ_n ?_ | with_reducible refine blockQ_n ?_ | with_reducible refine thenQ_e ?_ | with_reducible refine blockQ_t ?_ | with_reducible refine blockQ_f (by decide) ?_)) | (refine aw_exit ?_; repeat' (first | with_reducible refine thenQ_n ?_ | with_reducible refine blockQ_n ?_ | with_reducible refine thenQ_e ?_ | with_reducible refine blockQ_t ?_ | with_reducible refine blockQ_f (by decide) ?_)) | refine aw_ret ?_ | refine aw_block ?_ | refine aw_condT rfl ?_ | refine aw_condF rfl ?_ | ((first | refine aw_hide fun K hK => aw_region ?_ | refine acallB (ih) (by repeat' (first | exact trivial | exact rfl | refine And.intro ?_ ?_)) (by kernel_rfl) (by kernel_rfl) (by kernel_rfl) ?_ | refine ago_if (by omega) ?_ | skip); simp (config := {maxSteps := 10000000}) (disch := first | exact okYes (by kernel_rfl) | omega) only [List.length, Nat.zero_add, Nat.reduceMul, Nat.reduceAdd, dI, ARun_none, AOpRun, aexec, FSt.ev, St.F, eget_c, Nat.reduceBEq, ↓eget_h, cond_false, isSh, Bool.false_eq_true, ↓reduceIte, Option.map, abin, ki, AGo_ok, St.app, putO, eput_c, eput_n, hups, List.map, ARun_nil, dropE_c, inL_n, dropE_n, inL_c, beq_self_eq_true, cond_true, run1, hget_c, ↓hget_h, List.getElem?_cons_zero, dB, hput_c, hput_n, hdel_c, hdel_n, List.append_nil, blockQ, thenQ]) | (subst hK; repeat' (first | with_reducible refine thenQ_n ?_ | with_reducible refine blockQ_n ?_ | with_reducible refine thenQ_e ?_ | with_reducible refine blockQ_t ?_ | with_reducible refine blockQ_f (by decide) ?_))))
        refine end_to [296] [] (by first | exact .inl rfl | exact .inr rfl) rfl (by kernel_rfl) (by kernel_rfl) (by kernel_rfl) ?_ ?_ <;> repeat' (first | exact trivial | exact vr_val _ | apply vr_tup | refine vr_fl _ _ _ _ _ (by decide) rfl ?_ ?_ ?_ ?_ | apply And.intro)
        all_goals first | exact ints_one _ | exact (ints_len _).trans hCl | exact ints_flat _ | exact icells_in _
    | none =>
      have hnx : ∀ j, j < k + 1 → lookF (hlB c cl) now c.pf.length j now 0 = none := fun j hj => by
        rcases (by omega : j < k ∨ j = k) with h1 | rfl
        · exact hin j h1
        · exact hl
      have x1 : lkE (hlB c cl) now c.pf.length k now 0 = stl now c.pf.length k 0 := by unfold lkE; rw [hl]
      have x2 : lkN (hlB c cl) now c.pf.length k now 0 = 0 := by unfold lkN; rw [hl]
      rw [hl, x1, x2] at ih
      clear ha hB x1 x2
      cases hE : stl now c.pf.length k 0 with
      | nil => exact absurd hE hne.1
      | cons x xs =>
        rw [hE] at ih
        dsimp only [upB, Option.isSome_none] at ih
        simp only [List.length_nil, List.nil_append, Nat.zero_add] at ih
        have hcin := icells_in (ci (x :: xs))
        (have hg : (987654321 : Nat) - 987654321 = 0 := rfl; have hr := hg; repeat' (first | refine aw_seq ?_ | (refine aw_skip ?_; repeat' (first | with_reducible refine thenQ_n ?_ | with_reducible refine blockQ_n ?_ | with_reducible refine thenQ_e ?_ | with_reducible refine blockQ_t ?_ | with_reducible refine blockQ_f (by decide) ?_)) | (refine aw_exit ?_; repeat' (first | with_reducible refine thenQ_n ?_ | with_reducible refine blockQ_n ?_ | with_reducible refine thenQ_e ?_ | with_reducible refine blockQ_t ?_ | with_reducible refine blockQ_f (by decide) ?_)) | refine aw_ret ?_ | refine aw_block ?_ | refine aw_condT rfl ?_ | refine aw_condF rfl ?_ | ((first | refine aw_hide fun K hK => aw_region ?_ | refine acallB (ih) (by repeat' (first | exact trivial | exact rfl | refine And.intro ?_ ?_)) (by kernel_rfl) (by kernel_rfl) (by kernel_rfl) ?_ | refine ago_if (by omega) ?_ | skip); simp (config := {maxSteps := 10000000}) (disch := first | exact okYes (by kernel_rfl) | omega) only [List.length, Nat.zero_add, Nat.reduceMul, Nat.reduceAdd, dI, ARun_none, AOpRun, aexec, FSt.ev, St.F, eget_c, Nat.reduceBEq, ↓eget_h, cond_false, isSh, Bool.false_eq_true, ↓reduceIte, Option.map, abin, ki, AGo_ok, St.app, putO, eput_c, eput_n, hups, List.map, ARun_nil, dropE_c, inL_n, dropE_n, inL_c, beq_self_eq_true, cond_true, run1, hget_c, ↓hget_h, List.getElem?_cons_zero, dB, hput_c, hput_n, hdel_c, hdel_n, List.append_nil, fits]) | (subst hK; repeat' (first | with_reducible refine thenQ_n ?_ | with_reducible refine blockQ_n ?_ | with_reducible refine thenQ_e ?_ | with_reducible refine blockQ_t ?_ | with_reducible refine blockQ_f (by decide) ?_))))
        refine ⟨k + 1, ⟨by omega, hnx⟩, by omega, ?_⟩
        rw [show stK now c.pf.length (k + 1) = x :: xs from hE]
        dsimp only
        refine wk_to [] [(0, 0), (8, 8), (16, 16), (24, 24), (32, 32), (40, 296)] (by kernel_rfl) (by kernel_rfl) (by kernel_rfl) (by kernel_rfl) (by kernel_rfl) ?_ ?_ <;> repeat' (first | exact trivial | exact vr_val _ | exact vr_list _ | exact vr_vec _ _ _ _ rfl | exact vr_ptr _ _ _ rfl | apply vr_fn | refine And.intro ⟨_, rfl, .inl ⟨_, rfl, by decide, ?_⟩⟩ ?_ | apply And.intro | exact vrl_flat _ (by first | exact icells_in _ | exact rcells_in _ | exact scells_in _ | exact bcells_in _ | assumption))
end Go.Proofs.Ytdcodicoclecnaa
/- The document's Renew. No conditions. -/
set_option linter.unusedSimpArgs false
set_option linter.unusedVariables false
namespace Go.Proofs.Ytdcodicoclecnaa
open Go Go.RowKit Lift

theorem nuw_in {x : Int} (h1 : 0 ≤ x) (h2 : x < 18446744073709551616) : IntKind.u64.wrap x = x := by
  have h3 : x % 18446744073709551616 = x := Int.emod_eq_of_lt h1 h2
  unfold IntKind.wrap
  show (if (false && _) = true then _ else x % (2 ^ 64 : Int)) = x
  rw [Bool.false_and, if_neg (by simp)]
  exact h3
end Go.Proofs.Ytdcodicoclecnaa
/- A case whose proofs are others, in numbers. No conditions. -/
namespace Go.Proofs.Ytdcodicoclecnaa
open Go Go.RowKit Lift

theorem hlK_cl {c c' : Cas} (h : c'.cl = c.cl) (cn : Nat → Bool) : ∀ i, hlK c' cn i = hlK c cn i
  | 0 => rfl
  | i + 1 => by
    have e : clAt c' i = clAt c i := by unfold clAt; rw [h]
    rw [hlK, hlK, hlK_cl h cn i, e]
theorem holdC_cl {c c' : Cas} (h : c'.cl = c.cl) (cl : Nat) (cn : Nat → Bool) : holdC c' cl cn = holdC c cl cn := by unfold holdC; rw [hlK_cl h]
/-- the case with other proofs -/
def rpL (c : Cas) (f : Nat → Int × Int) : List (Int × Int) := (List.range c.pf.length).map f
def rp (c : Cas) (f : Nat → Int × Int) : Cas := ⟨c.cl, rpL c f⟩
theorem rpL_len (c : Cas) (f : Nat → Int × Int) : (rpL c f).length = c.pf.length := by simp [rpL]
theorem rpL_at (c : Cas) (f : Nat → Int × Int) (j : Nat) (h : j < c.pf.length) : (rpL c f)[j]?.getD (0, 0) = f j := by simp [rpL, h]
theorem rpL_same (c : Cas) : rpL c (pfAt c) = c.pf := by
  unfold rpL
  refine List.ext_getElem (by simp) fun j h1 h2 => ?_
  simp [pfAt, h2]
theorem rpL_set (c : Cas) (f g : Nat → Int × Int) (k : Nat) (h : ∀ j, j ≠ k → g j = f j) : (rpL c f).set k (g k) = rpL c g := by
  unfold rpL
  refine List.ext_getElem (by simp) fun j h1 h2 => ?_
  rw [List.getElem_set]
  simp only [List.getElem_map, List.getElem_range]
  by_cases e : k = j
  · subst e; rw [if_pos rfl]
  · rw [if_neg e, h j (Ne.symm e)]
theorem rpL_congr (c : Cas) (f g : Nat → Int × Int) (h : ∀ j, j < c.pf.length → f j = g j) : rpL c f = rpL c g := by
  unfold rpL
  exact List.map_congr_left fun j hj => h j (by simpa using hj)
theorem rp_ok {c : Cas} (hc : CasOk c) {f : Nat → Int × Int} (hf : ∀ j, j < c.pf.length → pfOk (f j)) : CasOk (rp c f) := by
  have hl := rpL_len c f
  refine ⟨hc.n1, by show (rpL c f).length ≤ 12; rw [hl]; exact hc.n2, fun i hi => ?_, fun i hi => ?_⟩
  · have := hc.asc i hi
    refine ⟨this.1, ?_⟩
    show Asc _ ((rpL c f).length : Int)
    rw [hl]; exact this.2
  · have hi' : i < c.pf.length := by rw [← hl]; exact hi
    show pfOk ((rpL c f)[i]?.getD (0, 0))
    rw [rpL_at c f i hi']
    exact hf i hi'
theorem rp_in {c : Cas} (hi : CasIn c) (f : Nat → Int × Int) : CasIn (rp c f) := ⟨hi.n1, by show (rpL c f).length ≤ _; rw [rpL_len]; exact hi.n2, hi.l1, hi.l2⟩
theorem rp_cnt (c : Cas) (f : Nat → Int × Int) (t : Int) (j : Nat) (h : j < c.pf.length) : cntT (rp c f) t j = (decide ((f j).1 ≤ t) && decide (t ≤ (f j).2)) := by
  unfold cntT
  rw [decide_eq_true (show j < (rp c f).pf.length by show j < (rpL c f).length; rw [rpL_len]; exact h), Bool.true_and]
  have e : pfAt (rp c f) j = f j := rpL_at c f j h
  rw [e]
theorem rp_holds {c : Cas} (hi : CasIn c) (hc : CasOk c) {cl tk : Nat} (hcl : cl < c.cl.length) (htk : tk ≤ 2000) {f : Nat → Int × Int} (hf : ∀ j, j < c.pf.length → pfOk (f j)) {cn : Nat → Bool} (hcn : ∀ j, j < c.pf.length → (decide ((f j).1 ≤ (tk : Int)) && decide ((tk : Int) ≤ (f j).2)) = cn j) :
    AC Try.prog 35 [.agg [.list (cls c.cl), .list (sps (rpL c f))], dI cl, dI tk] [] [] (.tup [dB (holdC c cl cn), dI 0]) := by
  have h0 : clmE (rp c f) cl tk 122 1 = 0 := by
    have e : casE (rp c f) 122 = 0 := casE_ok (rp_ok hc hf)
    unfold clmE
    rw [if_neg (by rw [e]; simp), if_pos]
    refine ⟨by omega, ?_, by omega, by omega⟩
    show (cl : Int) ≤ (c.cl.length : Int) - 1
    omega
  have h := holdsP_ok (rp c f) (rp_in hi f) cl tk h0
  have e : holdC (rp c f) cl (cntT (rp c f) tk) = holdC c cl cn := by
    rw [holdC_cl (c := c) (c' := rp c f) rfl]
    exact holdC_same hc (fun j hj => by rw [rp_cnt c f tk j hj]; exact hcn j hj) hcl
  rw [e] at h
  exact h
theorem cnt_in {c : Cas} {t : Int} {j : Nat} (h : j < c.pf.length) : cntT c t j = (decide ((pfAt c j).1 ≤ t) && decide (t ≤ (pfAt c j).2)) := by
  unfold cntT
  rw [decide_eq_true h, Bool.true_and]
/-- a proof that is moved away -/
def awayT (tk : Int) : Int := if tk + 1 > 2000 then 0 else tk + 1
def awF (c : Cas) (tk : Int) (i j : Nat) : Int × Int := if j = i then (awayT tk, awayT tk) else pfAt c j
theorem aw_ok {c : Cas} (hc : CasOk c) {tk : Nat} (htk : tk ≤ 2000) (i : Nat) : ∀ j, j < c.pf.length → pfOk (awF c tk i j) := fun j hj => by
  unfold awF
  by_cases e : j = i
  · rw [if_pos e]
    unfold pfOk awayT
    split <;> simp only <;> omega
  · rw [if_neg e]; exact hc.pf j hj
theorem aw_cn {c : Cas} {tk : Nat} (htk : tk ≤ 2000) (i : Nat) : ∀ j, j < c.pf.length → (decide ((awF c tk i j).1 ≤ (tk : Int)) && decide ((tk : Int) ≤ (awF c tk i j).2)) = lessF c tk i j := fun j hj => by
  unfold awF lessF
  by_cases e : j = i
  · rw [if_pos e, decide_eq_true e, Bool.not_true, Bool.and_false]
    unfold awayT
    rw [Bool.and_eq_false_iff, decide_eq_false_iff_not, decide_eq_false_iff_not]
    split <;> omega
  · rw [if_neg e, decide_eq_false e, Bool.not_false, Bool.and_true, cnt_in hj]
/-- a proof that counts for longer -/
def wid (x : Int × Int) (tk : Int) : Int × Int := (if tk < x.1 then tk else x.1, if tk > x.2 then tk else x.2)
def wiF (c : Cas) (tk : Int) (P : Nat → Bool) (j : Nat) : Int × Int := if P j = true then wid (pfAt c j) tk else pfAt c j
theorem wid_wid (x : Int × Int) (tk : Int) : wid (wid x tk) tk = wid x tk := by
  unfold wid
  refine Prod.ext ?_ ?_
  · simp only; (repeat' split) <;> omega
  · simp only; (repeat' split) <;> omega
theorem wi_ok {c : Cas} (hc : CasOk c) {tk : Nat} (htk : tk ≤ 2000) (P : Nat → Bool) : ∀ j, j < c.pf.length → pfOk (wiF c tk P j) := fun j hj => by
  have := hc.pf j hj
  unfold wiF
  split
  · unfold pfOk wid at *
    simp only
    refine ⟨?_, ?_, ?_⟩ <;> (repeat' split) <;> omega
  · exact this
theorem wi_cn {c : Cas} {tk : Nat} (P : Nat → Bool) : ∀ j, j < c.pf.length → (decide ((wiF c tk P j).1 ≤ (tk : Int)) && decide ((tk : Int) ≤ (wiF c tk P j).2)) = (cntT c tk j || P j) := fun j hj => by
  unfold wiF
  cases hp : P j with
  | true =>
    rw [if_pos rfl, Bool.or_true, Bool.and_eq_true, decide_eq_true_eq, decide_eq_true_eq]
    unfold wid
    refine ⟨?_, ?_⟩ <;> simp only <;> split <;> omega
  | false => rw [if_neg (by simp), Bool.or_false, cnt_in hj]
theorem wi_none (c : Cas) (tk : Int) : rpL c (wiF c tk fun _ => false) = c.pf := by
  refine Eq.trans ?_ (rpL_same c)
  exact rpL_congr c _ _ fun j _ => by unfold wiF; rw [if_neg (by simp)]
theorem wi_step (c : Cas) (tk : Int) (P Q : Nat → Bool) (k : Nat) (hQ : Q k = true) (h : ∀ j, j ≠ k → Q j = P j) : (rpL c (wiF c tk P)).set k (wid (wiF c tk P k) tk) = rpL c (wiF c tk Q) := by
  rw [← rpL_set c (wiF c tk P) (wiF c tk Q) k fun j hj => by unfold wiF; rw [h j hj]]
  congr 1
  unfold wiF
  rw [if_pos hQ]
  split
  · exact wid_wid _ _
  · rfl
def lgF (c : Cas) (i j : Nat) : Int × Int := if j = i then (0, 2000) else pfAt c j
theorem lg_ok {c : Cas} (hc : CasOk c) (i : Nat) : ∀ j, j < c.pf.length → pfOk (lgF c i j) := fun j hj => by
  unfold lgF
  split
  · unfold pfOk; omega
  · exact hc.pf j hj
theorem lg_cn {c : Cas} {tk : Nat} (htk : tk ≤ 2000) (i : Nat) : ∀ j, j < c.pf.length → (decide ((lgF c i j).1 ≤ (tk : Int)) && decide ((tk : Int) ≤ (lgF c i j).2)) = (cntT c tk j || decide (j = i)) := fun j hj => by
  unfold lgF
  by_cases e : j = i
  · rw [if_pos e, decide_eq_true e, Bool.or_true, Bool.and_eq_true, decide_eq_true_eq, decide_eq_true_eq]
    exact ⟨by simp only; omega, by simp only; omega⟩
  · rw [if_neg e, decide_eq_false e, Bool.or_false, cnt_in hj]
/-- cells of spans -/
theorem sc_gd0 : ∀ (b : List (Int × Int)) (k : Nat), k < b.length → (scells b)[k * 2]? = some (.val (.int .i64 (b[k]?.getD (0, 0)).1))
  | x :: b, 0, _ => by simp [scells]
  | x :: b, k + 1, h => by
    have := sc_gd0 b k (by simpa using h)
    rw [show (k + 1) * 2 = k * 2 + 1 + 1 by omega]
    simpa [scells] using this
theorem sc_gd1 : ∀ (b : List (Int × Int)) (k : Nat), k < b.length → (scells b)[k * 2 + 1]? = some (.val (.int .i64 (b[k]?.getD (0, 0)).2))
  | x :: b, 0, _ => by simp [scells]
  | x :: b, k + 1, h => by
    have := sc_gd1 b k (by simpa using h)
    rw [show (k + 1) * 2 + 1 = k * 2 + 1 + 1 + 1 by omega]
    simpa [scells] using this
theorem sc_t : ∀ (b : List (Int × Int)) (k : Nat) (u v : Int), k < b.length → (scells b).take (k * 2) ++ [.val (.int .i64 u), .val (.int .i64 v)] ++ (scells b).drop (k * 2 + 2) = scells (b.set k (u, v))
  | x :: b, 0, u, v, _ => by simp [scells]
  | x :: b, k + 1, u, v, h => by
    have := sc_t b k u v (by simpa using h)
    rw [show (k + 1) * 2 = k * 2 + 1 + 1 by omega, show k * 2 + 1 + 1 + 2 = k * 2 + 2 + 1 + 1 by omega]
    simpa [scells] using this
/-- how many are in a set -/
def cntS (s : Nat) : Nat → Nat
  | 0 => 0
  | k + 1 => if s.testBit k = true then cntS s k + 1 else cntS s k
theorem mo_cnt (now s : Nat) : ∀ k, (moK now s k).length ≤ cntS s k
  | 0 => by simp [moK]
  | k + 1 => by
    have ih := mo_cnt now s k
    rw [cntS]
    cases h : s.testBit k && !now.testBit k with
    | true =>
      rw [moK_t h, List.length_append, List.length_singleton, if_pos (by simp at h; exact h.1)]
      omega
    | false =>
      rw [moK_f h]
      split <;> omega
theorem cntS_le (s : Nat) : ∀ k, cntS s k ≤ k
  | 0 => Nat.le_refl _
  | k + 1 => by have := cntS_le s k; rw [cntS]; split <;> omega
/-- fewer than the fewest do not do -/
theorem few_no {c : Cas} (hc : CasOk c) {cl : Nat} (hcl : cl < c.cl.length) (tk : Int) {l : List Nat} (hl : renF (hlB c cl) (cntN c tk) c.pf.length = some l) (s : Nat) (h : cntS s c.pf.length < l.length) : holdC c cl (fun j => cntT c tk j || (decide (j < c.pf.length) && s.testBit j)) = false := by
  have L := ren_some hl
  have e : holdC c cl (fun j => cntT c tk j || (decide (j < c.pf.length) && s.testBit j)) = hlB c cl (maskN (cntN c tk) (moreL (cntN c tk) c.pf.length s)) := by
    rw [← mo_holds hc hcl tk s]
    exact holdC_same hc (fun j hj => (cnS_at c tk s _ j hj).symm) hcl
  rw [e]
  cases hh : hlB c cl (maskN (cntN c tk) (moreL (cntN c tk) c.pf.length s)) with
  | false => rfl
  | true =>
    have := L.least _ (more_seq (cntN c tk) c.pf.length s) hh
    unfold befB at this
    rw [Bool.or_eq_false_iff, decide_eq_false_iff_not] at this
    have h2 : (moreL (cntN c tk) c.pf.length s).length ≤ cntS s c.pf.length := mo_cnt (cntN c tk) s c.pf.length
    omega
theorem ren_yes {c : Cas} (hc : CasOk c) {cl : Nat} (hcl : cl < c.cl.length) (tk : Int) {l : List Nat} (hl : renF (hlB c cl) (cntN c tk) c.pf.length = some l) : holdC c cl (fun j => cntT c tk j || l.contains j) = true := by
  have L := (ren_some hl).yes
  unfold hlB at L
  rw [← L]
  exact holdC_same hc (fun j hj => by rw [maskN_test, cntN_test]) hcl
theorem ren_zero {c : Cas} {cl : Nat} {tk : Int} (h : holdC c cl (cntT c tk) = true) : renF (hlB c cl) (cntN c tk) c.pf.length = some [] := by
  refine first_some (i := 0) (by omega) (fun j hj => by omega) ?_
  unfold lookF hlB
  rw [cntN_fun, if_pos h]
theorem wk_named (c : Cas) (cl : Nat) (tk : Int) (i : Nat) (hi : i < c.pf.length) : (wkL c cl tk c.pf.length).any (fun x => x == (i : Int)) = weakB c cl tk i := by
  unfold wkL
  rw [Bool.eq_iff_iff, List.any_eq_true]
  constructor
  · rintro ⟨x, hx, hxi⟩
    obtain ⟨k, hk, rfl⟩ := List.mem_map.1 hx
    have : k = i := by simp at hxi; omega
    subst this
    exact (List.mem_filter.1 hk).2
  · intro h
    exact ⟨(i : Int), List.mem_map.2 ⟨i, List.mem_filter.2 ⟨by simpa using hi, h⟩, rfl⟩, by simp⟩
end Go.Proofs.Ytdcodicoclecnaa
