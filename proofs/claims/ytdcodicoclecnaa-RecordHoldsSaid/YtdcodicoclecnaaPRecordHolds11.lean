/- Texts of the law RecordHolds, part 11. No conditions. -/
import Derived.Test.YtdcodicoclecnaaPRecordHolds10
/- record: a round of the search for proofs to renew, walked. No conditions. -/
set_option linter.unusedSimpArgs false
set_option linter.unusedVariables false
namespace Go.Proofs.Ytdcodicoclecnaa
open Go Go.RowKit Lift

set_option maxRecDepth 100000 in
set_option maxHeartbeats 8000000 in
theorem lookC_succ (c : Cas) (hc : CasOk c) (cl : Nat) (hcl : cl < c.cl.length) (now : Nat) (hnow : now < 4096) (m : Nat) (ih : ∀ (p f : Nat) (L J : List Int), p < 4096 → L.length + m ≤ 1000 → L ++ J ≠ [] → AC Try.prog 88 [dI p, dI f, dI m, .ptr 0 0, .ptr 8 0, .ptr 16 0, .ptr 24 0, .ptr 32 0] (hpB c cl now 40 L J) (upB c cl now 40 L J (lkE (hlB c cl) now c.pf.length m p f) (lkN (hlB c cl) now c.pf.length m p f)) (dB (lookF (hlB c cl) now c.pf.length m p f).isSome)) (p f : Nat) (L J : List Int) (hp : p < 4096) (hLm : L.length + (m + 1) ≤ 1000) (hne : L ++ J ≠ []) : AC Try.prog 88 [dI p, dI f, dI ((m + 1 : Nat) : Int), .ptr 0 0, .ptr 8 0, .ptr 16 0, .ptr 24 0, .ptr 32 0] (hpB c cl now 48 L J) (upB c cl now 48 L J (lkE (hlB c cl) now c.pf.length (m + 1) p f) (lkN (hlB c cl) now c.pf.length (m + 1) p f)) (dB (lookF (hlB c cl) now c.pf.length (m + 1) p f).isSome) := by
  have n2 := hc.n2
  have pfl := sps_len c.pf
  have hlk := look_succ (hlB c cl) now c.pf.length m p f
  generalize hG : (fun i : Nat => if f ≤ i ∧ now.testBit i = false then (lookF (hlB c cl) now c.pf.length m (p ||| 2 ^ i) (i + 1)).map (i :: ·) else none) = G at hlk
  have hGi : ∀ i : Nat, G i = if f ≤ i ∧ now.testBit i = false then (lookF (hlB c cl) now c.pf.length m (p ||| 2 ^ i) (i + 1)).map (i :: ·) else none := fun i => by rw [← hG]
  clear hG
  have hG0 : ∀ j, j < f → G j = none := fun j hj => by rw [hGi, if_neg (by omega)]
  have hokU : ∀ E e, okUp (hpB c cl now 48 L J) (upB c cl now 48 L J E e) = true := by
    intro E e
    have hie := ic_ne hne
    cases E <;> simp [okUp, hpB, upB, hie]
  have hup : ∀ r, lookF (hlB c cl) now c.pf.length (m + 1) p f = some r → lkE (hlB c cl) now c.pf.length (m + 1) p f = r ∧ lkN (hlB c cl) now c.pf.length (m + 1) p f = r.length := fun r hr => by unfold lkE lkN; rw [hr]; exact ⟨rfl, rfl⟩
  have hun : lookF (hlB c cl) now c.pf.length (m + 1) p f = none → lkE (hlB c cl) now c.pf.length (m + 1) p f = stl now c.pf.length (m + 1) f ∧ lkN (hlB c cl) now c.pf.length (m + 1) p f = 0 := fun hr => by unfold lkE lkN; rw [hr]; exact ⟨rfl, rfl⟩
  generalize hEE : lkE (hlB c cl) now c.pf.length (m + 1) p f = EE at *
  generalize hNN : lkN (hlB c cl) now c.pf.length (m + 1) p f = NN at *
  generalize hLL : lookF (hlB c cl) now c.pf.length (m + 1) p f = LL at *
  have em : ((m + 1 : Nat) : Int) - 1 = (m : Int) := by omega
  have hm0 : (((m + 1 : Nat) : Int) == 0) = false := by simp only [beq_eq_false_iff_ne]; omega
  refine krecord_Renew_S1.ac (n0 := 200) (by simp) ⟨.val _, .val _, .val _, .ptr _ _ (by omega), .ptr _ _ (by omega), .ptr _ _ (by omega), .ptr _ _ (by omega), .ptr _ _ (by omega), trivial⟩ ⟨⟨by omega, ca_in c⟩, ⟨by omega, one_in _⟩, ⟨by omega, one_in _⟩, ⟨by omega, by intro d hd; simp at hd; subst hd; exact .vec _ _ _ (by omega)⟩, ⟨by omega, fn_in⟩, ⟨by omega, fun d h => (icells_in _ d h).mono fun _ h => h.elim⟩, trivial⟩ (hokU EE NN) ?_
  clear hokU
  unfold crecord_Renew_S1 hpB
  have hcin0 := icells_in (L ++ J)
  (have hg : (987654321 : Nat) - 987654321 = 0 := rfl; have hr := hg; repeat' (first | refine aw_seq ?_ | (refine aw_skip ?_; repeat' (first | with_reducible refine thenQ_n ?_ | with_reducible refine blockQ_n ?_ | with_reducible refine thenQ_e ?_ | with_reducible refine blockQ_t ?_ | with_reducible refine blockQ_f (by decide) ?_)) | (refine aw_exit ?_; repeat' (first | with_reducible refine thenQ_n ?_ | with_reducible refine blockQ_n ?_ | with_reducible refine thenQ_e ?_ | with_reducible refine blockQ_t ?_ | with_reducible refine blockQ_f (by decide) ?_)) | refine aw_ret ?_ | refine aw_block ?_ | refine aw_condT rfl ?_ | refine aw_condF rfl ?_ | ((first | refine aw_hide fun K hK => aw_region ?_ | refine ago_if (by omega) ?_ | skip); simp (config := {maxSteps := 10000000}) (disch := first | exact okYes (by kernel_rfl) | omega) only [List.length, Nat.zero_add, Nat.reduceMul, Nat.reduceAdd, envOf, dI, ARun_none, AOpRun, aexec, FSt.ev, AGo_ok, St.app, putO, eput_c, Nat.reduceBEq, eput_n, cond_false, hups, List.map, ARun_nil, dropE_c, inL_n, dropE_n, St.F, eget_c, ↓eget_h, isSh, Bool.false_eq_true, ↓reduceIte, Option.map, abin, hm0, inL_c, beq_self_eq_true, cond_true, dB, Option.isSome]) | (subst hK; repeat' (first | with_reducible refine thenQ_n ?_ | with_reducible refine blockQ_n ?_ | with_reducible refine thenQ_e ?_ | with_reducible refine blockQ_t ?_ | with_reducible refine blockQ_f (by decide) ?_))))
  refine aw_loop (fun i : Nat => match lastK now f i with
    | none => ⟨[(0, dI p), (2, dI ((m + 1 : Nat) : Int)), (3, .ptr 0 0), (4, .ptr 8 0), (5, .ptr 16 0), (6, .ptr 24 0), (7, .ptr 32 0), (12, dI i)], [(0, [.list (cls c.cl), .list (sps c.pf)]), (8, [dI cl]), (16, [dI now]), (24, [.vec 48 L.length 1]), (32, [.fn 88 [] [.ptr 0 0, .ptr 8 0, .ptr 16 0, .ptr 24 0, .ptr 32 0]]), (48, icells (L ++ J))], 600⟩
    | some j => ⟨[(0, dI p), (2, dI ((m + 1 : Nat) : Int)), (3, .ptr 0 0), (4, .ptr 8 0), (5, .ptr 16 0), (6, .ptr 24 0), (7, .ptr 32 0), (12, dI i)], [(0, [.list (cls c.cl), .list (sps c.pf)]), (8, [dI cl]), (16, [dI now]), (24, [.vec 500 L.length 1]), (32, [.fn 88 [] [.ptr 0 0, .ptr 8 0, .ptr 16 0, .ptr 24 0, .ptr 32 0]]), (500, icells (L ++ ci (j :: stl now c.pf.length m (j + 1))))], 600⟩) (fun i => f ≤ i ∧ (i ≤ c.pf.length ∨ i = f) ∧ ∀ j, j < i → G j = none) (fun i => c.pf.length - i) ⟨f, ⟨Nat.le_refl _, .inr rfl, hG0⟩, ?_⟩ ?_
  · show Wk _ _ (match lastK now f f with
    | none => _
    | some j => _)
    rw [last_none (Nat.le_refl f)]
    unfold dI
    refine wk_to [] [(0, 0), (8, 8), (16, 16), (24, 24), (32, 32), (48, 48)] (by kernel_rfl) (by kernel_rfl) (by kernel_rfl) (by kernel_rfl) (by kernel_rfl) ?_ ?_ <;> repeat' (first | exact trivial | exact vr_val _ | exact vr_list _ | exact vr_vec _ _ _ _ rfl | exact vr_ptr _ _ _ rfl | apply vr_fn | refine And.intro ⟨_, rfl, .inl ⟨_, rfl, by decide, ?_⟩⟩ ?_ | apply And.intro | exact vrl_flat _ (by first | exact icells_in _ | exact rcells_in _ | exact scells_in _ | exact bcells_in _ | assumption))
  rintro i ⟨hfi, hif, hin⟩
  by_cases hi2 : i < c.pf.length
  case neg =>
    have hl : lastK now f i = lastK now f c.pf.length := by
      rcases (by omega : i = c.pf.length ∨ (i = f ∧ c.pf.length ≤ f)) with rfl | ⟨rfl, h⟩
      · rfl
      · rw [last_none (Nat.le_refl _), last_none h]
    rw [hl]
    have hgn : LL = none := by rw [hlk]; exact first_none fun j hj => hin j (by omega)
    obtain ⟨e1, e2⟩ := hun hgn
    rw [e1, e2, hgn]
    clear e1 e2 hgn hEE hNN hLL hup hun hlk hGi hG0 hin ih
    have ki : decide ((i : Int) < (c.pf.length : Int)) = false := decide_eq_false (by omega)
    cases hk : lastK now f c.pf.length with
    | none =>
      have hs : stl now c.pf.length (m + 1) f = [] := by rw [stl, hk]
      rw [hs]
      dsimp only [upB, Option.isSome_none]
      (have hg : (987654321 : Nat) - 987654321 = 0 := rfl; have hr := hg; repeat' (first | refine aw_seq ?_ | (refine aw_skip ?_; repeat' (first | with_reducible refine thenQ_n ?_ | with_reducible refine blockQ_n ?_ | with_reducible refine thenQ_e ?_ | with_reducible refine blockQ_t ?_ | with_reducible refine blockQ_f (by decide) ?_)) | (refine aw_exit ?_; repeat' (first | with_reducible refine thenQ_n ?_ | with_reducible refine blockQ_n ?_ | with_reducible refine thenQ_e ?_ | with_reducible refine blockQ_t ?_ | with_reducible refine blockQ_f (by decide) ?_)) | refine aw_ret ?_ | refine aw_block ?_ | refine aw_condT rfl ?_ | refine aw_condF rfl ?_ | ((first | refine aw_hide fun K hK => aw_region ?_ | refine ago_if (by omega) ?_ | skip); simp (config := {maxSteps := 10000000}) (disch := first | exact okYes (by kernel_rfl) | omega) only [List.length, Nat.zero_add, Nat.reduceAdd, Nat.reduceMul, dI, ARun_none, AOpRun, aexec, FSt.ev, St.F, eget_c, Nat.reduceBEq, ↓eget_h, cond_false, AGo_ok, St.app, putO, eput_c, eput_n, hups, List.map, Option.map, run1, hget_c, beq_self_eq_true, hget_n, cond_true, List.getElem?_cons_succ, List.getElem?_cons_zero, pfl, isSh, Bool.false_eq_true, ↓reduceIte, abin, ki, ARun_nil, dropE_c, inL_c, inL_n, dropE_n]) | (subst hK; repeat' (first | with_reducible refine thenQ_n ?_ | with_reducible refine blockQ_n ?_ | with_reducible refine thenQ_e ?_ | with_reducible refine blockQ_t ?_ | with_reducible refine blockQ_f (by decide) ?_))))
      refine end_to [] [(0, 0), (8, 8), (16, 16), (24, 24), (32, 32), (48, 48)] (by first | exact .inl rfl | exact .inr rfl) rfl (by kernel_rfl) (by kernel_rfl) (by kernel_rfl) ?_ ?_ <;> repeat' (first | exact trivial | exact vr_val _ | exact vr_list _ | exact vr_vec _ _ _ _ rfl | exact vr_ptr _ _ _ rfl | apply vr_fn | refine And.intro ⟨_, rfl, _, rfl, by decide, ?_⟩ ?_ | apply And.intro | exact vrl_flat _ (by first | exact icells_in _ | exact rcells_in _ | exact scells_in _ | exact bcells_in _ | assumption))
    | some j =>
      have hs : stl now c.pf.length (m + 1) f = j :: stl now c.pf.length m (j + 1) := by rw [stl, hk]
      rw [hs]
      dsimp only [upB, Option.isSome_none]
      rw [Nat.add_zero]
      generalize stl now c.pf.length m (j + 1) = Z at *
      have hcin := icells_in (L ++ ci (j :: Z))
      (have hg : (987654321 : Nat) - 987654321 = 0 := rfl; have hr := hg; repeat' (first | refine aw_seq ?_ | (refine aw_skip ?_; repeat' (first | with_reducible refine thenQ_n ?_ | with_reducible refine blockQ_n ?_ | with_reducible refine thenQ_e ?_ | with_reducible refine blockQ_t ?_ | with_reducible refine blockQ_f (by decide) ?_)) | (refine aw_exit ?_; repeat' (first | with_reducible refine thenQ_n ?_ | with_reducible refine blockQ_n ?_ | with_reducible refine thenQ_e ?_ | with_reducible refine blockQ_t ?_ | with_reducible refine blockQ_f (by decide) ?_)) | refine aw_ret ?_ | refine aw_block ?_ | refine aw_condT rfl ?_ | refine aw_condF rfl ?_ | ((first | refine aw_hide fun K hK => aw_region ?_ | refine ago_if (by omega) ?_ | skip); simp (config := {maxSteps := 10000000}) (disch := first | exact okYes (by kernel_rfl) | omega) only [List.length, Nat.zero_add, Nat.reduceAdd, Nat.reduceMul, dI, ARun_none, AOpRun, aexec, FSt.ev, St.F, eget_c, Nat.reduceBEq, ↓eget_h, cond_false, AGo_ok, St.app, putO, eput_c, eput_n, hups, List.map, Option.map, run1, hget_c, beq_self_eq_true, hget_n, cond_true, List.getElem?_cons_succ, List.getElem?_cons_zero, pfl, isSh, Bool.false_eq_true, ↓reduceIte, abin, ki, ARun_nil, dropE_c, inL_c, inL_n, dropE_n]) | (subst hK; repeat' (first | with_reducible refine thenQ_n ?_ | with_reducible refine blockQ_n ?_ | with_reducible refine thenQ_e ?_ | with_reducible refine blockQ_t ?_ | with_reducible refine blockQ_f (by decide) ?_))))
      refine end_to [] [(0, 0), (8, 8), (16, 16), (24, 24), (32, 32), (48, 48), (296, 500)] (by first | exact .inl rfl | exact .inr rfl) rfl (by kernel_rfl) (by kernel_rfl) (by kernel_rfl) ?_ ?_ <;> repeat' (first | exact trivial | exact vr_val _ | exact vr_list _ | exact vr_vec _ _ _ _ rfl | exact vr_ptr _ _ _ rfl | apply vr_fn | refine And.intro ⟨_, rfl, _, rfl, by decide, ?_⟩ ?_ | apply And.intro | exact vrl_flat _ (by first | exact icells_in _ | exact rcells_in _ | exact scells_in _ | exact bcells_in _ | assumption))
  have hno : now.testBit i = true → G i = none := fun h => by rw [hGi, if_neg (by simp [h])]
  have hin1 : G i = none → ∀ j, j < i + 1 → G j = none := fun h j hj => by
    rcases (by omega : j < i ∨ j = i) with h1 | rfl
    · exact hin j h1
    · exact h
  have ki : (i : Int) < (c.pf.length : Int) := by omega
  have w := phas_ac now i hnow (by omega)
  have w2 := pwith_ac p i hp (by omega)
  cases hb : now.testBit i with
  | true =>
    rw [hb] at w
    have hl1 : lastK now f (i + 1) = lastK now f i := by
      show (if _ then _ else _) = _
      rw [if_neg (by simp [hb])]
    have hnx := hin1 (hno hb)
    clear hEE hNN hLL hup hun hlk hGi hG0 hin ih
    cases hk : lastK now f i with
    | none =>
      dsimp only
      (have hg : (987654321 : Nat) - 987654321 = 0 := rfl; have hr := hg; repeat' (first | refine aw_seq ?_ | (refine aw_skip ?_; repeat' (first | with_reducible refine thenQ_n ?_ | with_reducible refine blockQ_n ?_ | with_reducible refine thenQ_e ?_ | with_reducible refine blockQ_t ?_ | with_reducible refine blockQ_f (by decide) ?_)) | (refine aw_exit ?_; repeat' (first | with_reducible refine thenQ_n ?_ | with_reducible refine blockQ_n ?_ | with_reducible refine thenQ_e ?_ | with_reducible refine blockQ_t ?_ | with_reducible refine blockQ_f (by decide) ?_)) | refine aw_ret ?_ | refine aw_block ?_ | refine aw_condT rfl ?_ | refine aw_condF rfl ?_ | ((first | refine aw_hide fun K hK => aw_region ?_ | refine acall0 (w) ?_ | refine ago_if (by omega) ?_ | skip); simp (config := {maxSteps := 10000000}) (disch := first | exact okYes (by kernel_rfl) | omega) only [List.length, Nat.zero_add, Nat.reduceAdd, Nat.reduceMul, dI, ARun_none, AOpRun, aexec, FSt.ev, St.F, eget_c, Nat.reduceBEq, ↓eget_h, cond_false, AGo_ok, St.app, putO, eput_c, eput_n, hups, List.map, Option.map, run1, hget_c, beq_self_eq_true, hget_n, cond_true, List.getElem?_cons_succ, List.getElem?_cons_zero, pfl, isSh, Bool.false_eq_true, ↓reduceIte, abin, ki, decide_true, ARun_nil, dropE_c, inL_c, inL_n, dropE_n, ↓hget_h, dB, fits]) | (subst hK; repeat' (first | with_reducible refine thenQ_n ?_ | with_reducible refine blockQ_n ?_ | with_reducible refine thenQ_e ?_ | with_reducible refine blockQ_t ?_ | with_reducible refine blockQ_f (by decide) ?_))))
      refine ⟨i + 1, ⟨by omega, .inl (by omega), hnx⟩, by omega, ?_⟩
      rw [hl1, hk]
      refine wk_to [] [(0, 0), (8, 8), (16, 16), (24, 24), (32, 32), (48, 48)] (by kernel_rfl) (by kernel_rfl) (by kernel_rfl) (by kernel_rfl) (by kernel_rfl) ?_ ?_ <;> repeat' (first | exact trivial | exact vr_val _ | exact vr_list _ | exact vr_vec _ _ _ _ rfl | exact vr_ptr _ _ _ rfl | apply vr_fn | refine And.intro ⟨_, rfl, .inl ⟨_, rfl, by decide, ?_⟩⟩ ?_ | apply And.intro | exact vrl_flat _ (by first | exact icells_in _ | exact rcells_in _ | exact scells_in _ | exact bcells_in _ | assumption))
    | some j =>
      dsimp only
      generalize hC : L ++ ci (j :: stl now c.pf.length m (j + 1)) = C at *
      have hcin := icells_in C
      (have hg : (987654321 : Nat) - 987654321 = 0 := rfl; have hr := hg; repeat' (first | refine aw_seq ?_ | (refine aw_skip ?_; repeat' (first | with_reducible refine thenQ_n ?_ | with_reducible refine blockQ_n ?_ | with_reducible refine thenQ_e ?_ | with_reducible refine blockQ_t ?_ | with_reducible refine blockQ_f (by decide) ?_)) | (refine aw_exit ?_; repeat' (first | with_reducible refine thenQ_n ?_ | with_reducible refine blockQ_n ?_ | with_reducible refine thenQ_e ?_ | with_reducible refine blockQ_t ?_ | with_reducible refine blockQ_f (by decide) ?_)) | refine aw_ret ?_ | refine aw_block ?_ | refine aw_condT rfl ?_ | refine aw_condF rfl ?_ | ((first | refine aw_hide fun K hK => aw_region ?_ | refine acall0 (w) ?_ | refine ago_if (by omega) ?_ | skip); simp (config := {maxSteps := 10000000}) (disch := first | exact okYes (by kernel_rfl) | omega) only [List.length, Nat.zero_add, Nat.reduceAdd, Nat.reduceMul, dI, ARun_none, AOpRun, aexec, FSt.ev, St.F, eget_c, Nat.reduceBEq, ↓eget_h, cond_false, AGo_ok, St.app, putO, eput_c, eput_n, hups, List.map, Option.map, run1, hget_c, beq_self_eq_true, hget_n, cond_true, List.getElem?_cons_succ, List.getElem?_cons_zero, pfl, isSh, Bool.false_eq_true, ↓reduceIte, abin, ki, decide_true, ARun_nil, dropE_c, inL_c, inL_n, dropE_n, ↓hget_h, dB, fits]) | (subst hK; repeat' (first | with_reducible refine thenQ_n ?_ | with_reducible refine blockQ_n ?_ | with_reducible refine thenQ_e ?_ | with_reducible refine blockQ_t ?_ | with_reducible refine blockQ_f (by decide) ?_))))
      refine ⟨i + 1, ⟨by omega, .inl (by omega), hnx⟩, by omega, ?_⟩
      rw [hl1, hk]
      dsimp only
      rw [hC]
      refine wk_to [] [(0, 0), (8, 8), (16, 16), (24, 24), (32, 32), (48, 48), (500, 500)] (by kernel_rfl) (by kernel_rfl) (by kernel_rfl) (by kernel_rfl) (by kernel_rfl) ?_ ?_ <;> repeat' (first | exact trivial | exact vr_val _ | exact vr_list _ | exact vr_vec _ _ _ _ rfl | exact vr_ptr _ _ _ rfl | apply vr_fn | refine And.intro ⟨_, rfl, .inl ⟨_, rfl, by decide, ?_⟩⟩ ?_ | apply And.intro | exact vrl_flat _ (by first | exact icells_in _ | exact rcells_in _ | exact scells_in _ | exact bcells_in _ | assumption))
  | false =>
  rw [hb] at w
  have hl1 : lastK now f (i + 1) = some i := by
    show (if _ then _ else _) = _
    rw [if_pos ⟨hfi, hb⟩]
  have hGp : G i = (lookF (hlB c cl) now c.pf.length m (p ||| 2 ^ i) (i + 1)).map (i :: ·) := by rw [hGi, if_pos ⟨hfi, hb⟩]
  have ihx := ih (p ||| 2 ^ i) (i + 1) (L ++ [(i : Int)]) [] (or_lt hp (by omega)) (by rw [List.length_append, List.length_singleton]; omega) (by simp)
  unfold hpB at ihx
  rw [List.append_nil, ← ic_app, show ((i + 1 : Nat) : Int) = (i : Int) + 1 by omega] at ihx
  rw [show (L ++ [(i : Int)]).length = L.length + 1 by simp] at ihx
  have hct : ∀ K : List Int, (icells (L ++ K)).take L.length = icells L := fun K => by
    unfold icells
    rw [List.map_append, List.take_append_of_le_length (by simp), List.take_of_length_le (by simp)]
  have hle : ∀ K : List Int, L.length ≤ (icells (L ++ K)).length := fun K => by rw [icells_len, List.length_append]; omega
  have hlf : (icells L).all D.leaf = true := icells_leaf L
  have hin2 : ∀ y ∈ icells L ++ [.val (.int .i64 (i : Int))], In (fun _ => False) y := by rw [ic_app]; exact icells_in _
  clear hGi hG0 hno ih
  cases hk : lastK now f i
  all_goals dsimp only
  case' none =>
    have hct := hct J
    have hle := hle J
    have hcin := icells_in (L ++ J)
    generalize icells (L ++ J) = CK at *
  case' some j =>
    have hct := hct (ci (j :: stl now c.pf.length m (j + 1)))
    have hle := hle (ci (j :: stl now c.pf.length m (j + 1)))
    have hcin := icells_in (L ++ ci (j :: stl now c.pf.length m (j + 1)))
    generalize icells (L ++ ci (j :: stl now c.pf.length m (j + 1))) = CK at *
  all_goals
    clear hk
    refine aw_seq (aw_seq (aw_region ?_))
    simp (config := {maxSteps := 10000000}) (disch := first | exact okYes (by kernel_rfl) | omega) only [thenQ, dI, List.length, Nat.zero_add, Nat.reduceAdd, Nat.reduceMul, ARun_none, AOpRun, aexec, FSt.ev, St.F, eget_c, Nat.reduceBEq, ↓eget_h, cond_false, AGo_ok, St.app, putO, eput_c, eput_n, hups, List.map, Option.map, run1, hget_c, beq_self_eq_true, hget_n, cond_true, List.getElem?_cons_succ, List.getElem?_cons_zero, pfl, isSh, Bool.false_eq_true, ↓reduceIte, abin, ki, decide_true, ARun_nil, dropE_c, inL_c, inL_n, dropE_n]
    refine aw_condT rfl (aw_skip ?_)
    refine aw_seq (aw_block (aw_seq (aw_seq (aw_region ?_))))
    simp (config := {maxSteps := 10000000}) (disch := first | exact okYes (by kernel_rfl) | omega) only [thenQ, List.length, Nat.zero_add, Nat.reduceAdd, Nat.reduceMul, ARun_none, AOpRun, aexec, Option.map, run1, FSt.ev, St.F, eget_c, Nat.reduceBEq, ↓eget_h, cond_false, hget_c, ↓hget_h, List.getElem?_cons_zero, AGo_ok, St.app, putO, eput_c, eput_n, hups, List.map]
    refine acall0 w ?_
    simp (config := {maxSteps := 10000000}) (disch := first | exact okYes (by kernel_rfl) | omega) only [Nat.reduceAdd, St.app, putO, dB, eput_c, Nat.reduceBEq, eput_n, cond_false, hups, ARun_nil, dropE_c, inL_c, inL_n, beq_self_eq_true, cond_true, dropE_n]
    refine aw_condF rfl (aw_skip ?_)
    refine aw_seq (aw_region ?_)
    simp (config := {maxSteps := 10000000}) (disch := first | exact okYes (by kernel_rfl) | omega) only [thenQ, List.length, Nat.zero_add, Nat.reduceAdd, Nat.reduceMul, ARun_none, AOpRun, aexec, Option.map, run1, FSt.ev, St.F, eget_c, Nat.reduceBEq, ↓eget_h, cond_false, hget_c, ↓hget_h, List.getElem?_cons_zero, AGo_ok, St.app, putO, eput_c, eput_n, hups, List.map, Option.isSome, hget_n, Bool.false_eq_true, ↓reduceIte, fillD, D.isBot, D.cells, ne_eq, not_true_eq_false, Nat.reduceGT, or_self, splice, List.take, List.nil_append, List.drop, List.append_nil, hput_c, hput_n, base, Nat.mul_one, hle, and_self, hct, elems, Nat.reduceLeDiff, List.all, D.leaf, Bool.and_true, and_true, ups, List.cons_append]
    refine ago_if (by omega) ?_
    simp (config := {maxSteps := 10000000}) (disch := first | exact okYes (by kernel_rfl) | omega) only [AGo_ok, Nat.reduceAdd, St.app, putO, eput_c, Nat.reduceBEq, eput_n, cond_false, hups, hput_c, hput_n, hdel_c, beq_self_eq_true, hdel_n, cond_true, List.map, ARun_none, AOpRun, aexec, FSt.ev, St.F, eget_c, ↓eget_h, hget_c, ↓hget_h, D.isBot, D.cells, List.length, Nat.zero_add, Nat.reduceLeDiff, List.all, D.leaf, Bool.and_true, and_self, ↓reduceIte, splice, List.take, List.nil_append, List.drop, List.append_nil, ARun_nil, dropE_c, inL_c, inL_n, dropE_n]
  all_goals
    refine aw_wk (s' := ⟨[(0, dI p), (2, dI ((m + 1 : Nat) : Int)), (3, .ptr 0 0), (4, .ptr 8 0), (5, .ptr 16 0), (6, .ptr 24 0), (7, .ptr 32 0), (12, dI i)], [(0, [.list (cls c.cl), .list (sps c.pf)]), (8, [dI cl]), (16, [dI now]), (24, [.vec 40 (L.length + 1) 1]), (32, [.fn 88 [] [.ptr 0 0, .ptr 8 0, .ptr 16 0, .ptr 24 0, .ptr 32 0]]), (40, icells L ++ [.val (.int .i64 (i : Int))])], 232⟩) ?_ ?_
    · unfold dI
      refine wk_to [] [(0, 0), (8, 8), (16, 16), (24, 24), (32, 32), (48, 48), (40, 688)] (by kernel_rfl) (by kernel_rfl) (by kernel_rfl) (by kernel_rfl) (by kernel_rfl) ?_ ?_ <;> repeat' (first | exact trivial | exact vr_val _ | exact vr_list _ | exact vr_vec _ _ _ _ rfl | exact vr_ptr _ _ _ rfl | apply vr_fn | refine And.intro ⟨_, rfl, .inl ⟨_, rfl, by decide, ?_⟩⟩ ?_ | apply And.intro | exact vrl_flat _ (by first | exact icells_in _ | exact rcells_in _ | exact scells_in _ | exact bcells_in _ | assumption))
  all_goals
    have hlen : (L ++ [(i : Int)]).length = L.length + 1 := by simp
    clear hif
    cases hr : lookF (hlB c cl) now c.pf.length m (p ||| 2 ^ i) (i + 1) with
    | some r =>
      have hLs : LL = some (i :: r) := by rw [hlk]; exact first_some hi2 hin (by rw [hGp, hr]; rfl)
      obtain ⟨e1, e2⟩ := hup _ hLs
      have x1 : lkE (hlB c cl) now c.pf.length m (p ||| 2 ^ i) (i + 1) = r := by unfold lkE; rw [hr]
      have x2 : lkN (hlB c cl) now c.pf.length m (p ||| 2 ^ i) (i + 1) = r.length := by unfold lkN; rw [hr]
      rw [hr, x1, x2] at ihx
      rw [e1, e2, hLs]
      clear e1 e2 hLs x1 x2 hr hup hun hlk hEE hNN hLL hGp hin1 hin w
      cases r with
      | nil =>
        dsimp only [upB, Option.isSome_some] at ihx ⊢
        rw [hlen, List.append_nil, ← ic_app] at ihx
        have hc1 : icells (L ++ ci [i]) = icells L ++ [.val (.int .i64 (i : Int))] := by rw [ic_app]; rfl
        rw [hc1]
        (have hg : (987654321 : Nat) - 987654321 = 0 := rfl; have hr := hg; repeat' (first | refine aw_seq ?_ | (refine aw_skip ?_; repeat' (first | with_reducible refine thenQ_n ?_ | with_reducible refine blockQ_n ?_ | with_reducible refine thenQ_e ?_ | with_reducible refine blockQ_t ?_ | with_reducible refine blockQ_f (by decide) ?_)) | (refine aw_exit ?_; repeat' (first | with_reducible refine thenQ_n ?_ | with_reducible refine blockQ_n ?_ | with_reducible refine thenQ_e ?_ | with_reducible refine blockQ_t ?_ | with_reducible refine blockQ_f (by decide) ?_)) | refine aw_ret ?_ | refine aw_block ?_ | refine aw_condT rfl ?_ | refine aw_condF rfl ?_ | ((first | refine aw_hide fun K hK => aw_region ?_ | refine acall0 (w2) ?_ | refine acallB (ihx) (by repeat' (first | exact trivial | exact rfl | refine And.intro ?_ ?_)) (by kernel_rfl) (by kernel_rfl) (by kernel_rfl) ?_ | refine ago_if (by omega) ?_ | skip); simp (config := {maxSteps := 10000000}) (disch := first | exact okYes (by kernel_rfl) | omega) only [List.length, Nat.zero_add, Nat.reduceAdd, Nat.reduceMul, dI, ARun_none, AOpRun, aexec, Option.map, run1, FSt.ev, St.F, eget_c, Nat.reduceBEq, ↓eget_h, cond_false, hget_c, ↓hget_h, List.getElem?_cons_zero, AGo_ok, St.app, putO, eput_c, eput_n, hups, List.map, isSh, Bool.false_eq_true, ↓reduceIte, abin, fits, em, dB, hput_c, beq_self_eq_true, hput_n, cond_true, List.append_nil, ARun_nil, dropE_c, inL_c, inL_n, dropE_n, thenQ, blockQ]) | (subst hK; repeat' (first | with_reducible refine thenQ_n ?_ | with_reducible refine blockQ_n ?_ | with_reducible refine thenQ_e ?_ | with_reducible refine blockQ_t ?_ | with_reducible refine blockQ_f (by decide) ?_))))
        refine end_to [] [(0, 0), (8, 8), (16, 16), (24, 24), (32, 32), (48, 48), (296, 40)] (by first | exact .inl rfl | exact .inr rfl) rfl (by kernel_rfl) (by kernel_rfl) (by kernel_rfl) ?_ ?_ <;> repeat' (first | exact trivial | exact vr_val _ | exact vr_list _ | exact vr_vec _ _ _ _ rfl | exact vr_ptr _ _ _ rfl | apply vr_fn | refine And.intro ⟨_, rfl, _, rfl, by decide, ?_⟩ ?_ | apply And.intro | exact vrl_flat _ (by first | exact icells_in _ | exact rcells_in _ | exact scells_in _ | exact bcells_in _ | assumption))
      | cons x xs =>
        dsimp only [upB, Option.isSome_some] at ihx ⊢
        rw [hlen] at ihx
        have hc1 : icells (L ++ ci (i :: x :: xs)) = icells (L ++ [(i : Int)] ++ ci (x :: xs)) := by rw [ci_cons i, List.append_assoc]
        have hc2 : L.length + (i :: x :: xs).length = L.length + 1 + (x :: xs).length := by simp only [List.length_cons]; omega
        rw [hc1, hc2]
        have hcin3 := icells_in (L ++ [(i : Int)] ++ ci (x :: xs))
        generalize icells (L ++ [(i : Int)] ++ ci (x :: xs)) = CX at *
        generalize (x :: xs).length = N at *
        (have hg : (987654321 : Nat) - 987654321 = 0 := rfl; have hr := hg; repeat' (first | refine aw_seq ?_ | (refine aw_skip ?_; repeat' (first | with_reducible refine thenQ_n ?_ | with_reducible refine blockQ_n ?_ | with_reducible refine thenQ_e ?_ | with_reducible refine blockQ_t ?_ | with_reducible refine blockQ_f (by decide) ?_)) | (refine aw_exit ?_; repeat' (first | with_reducible refine thenQ_n ?_ | with_reducible refine blockQ_n ?_ | with_reducible refine thenQ_e ?_ | with_reducible refine blockQ_t ?_ | with_reducible refine blockQ_f (by decide) ?_)) | refine aw_ret ?_ | refine aw_block ?_ | refine aw_condT rfl ?_ | refine aw_condF rfl ?_ | ((first | refine aw_hide fun K hK => aw_region ?_ | refine acall0 (w2) ?_ | refine acallB (ihx) (by repeat' (first | exact trivial | exact rfl | refine And.intro ?_ ?_)) (by kernel_rfl) (by kernel_rfl) (by kernel_rfl) ?_ | refine ago_if (by omega) ?_ | skip); simp (config := {maxSteps := 10000000}) (disch := first | exact okYes (by kernel_rfl) | omega) only [List.length, Nat.zero_add, Nat.reduceAdd, Nat.reduceMul, dI, ARun_none, AOpRun, aexec, Option.map, run1, FSt.ev, St.F, eget_c, Nat.reduceBEq, ↓eget_h, cond_false, hget_c, ↓hget_h, List.getElem?_cons_zero, AGo_ok, St.app, putO, eput_c, eput_n, hups, List.map, isSh, Bool.false_eq_true, ↓reduceIte, abin, fits, em, dB, hput_c, hput_n, hdel_c, beq_self_eq_true, hdel_n, cond_true, List.append_nil, ARun_nil, dropE_c, inL_c, inL_n, dropE_n, thenQ, blockQ]) | (subst hK; repeat' (first | with_reducible refine thenQ_n ?_ | with_reducible refine blockQ_n ?_ | with_reducible refine thenQ_e ?_ | with_reducible refine blockQ_t ?_ | with_reducible refine blockQ_f (by decide) ?_))))
        refine end_to [] [(0, 0), (8, 8), (16, 16), (24, 24), (32, 32), (48, 48), (296, 296)] (by first | exact .inl rfl | exact .inr rfl) rfl (by kernel_rfl) (by kernel_rfl) (by kernel_rfl) ?_ ?_ <;> repeat' (first | exact trivial | exact vr_val _ | exact vr_list _ | exact vr_vec _ _ _ _ rfl | exact vr_ptr _ _ _ rfl | apply vr_fn | refine And.intro ⟨_, rfl, _, rfl, by decide, ?_⟩ ?_ | apply And.intro | exact vrl_flat _ (by first | exact icells_in _ | exact rcells_in _ | exact scells_in _ | exact bcells_in _ | assumption))
    | none =>
      have hnx := hin1 (by rw [hGp, hr]; rfl)
      have x1 : lkE (hlB c cl) now c.pf.length m (p ||| 2 ^ i) (i + 1) = stl now c.pf.length m (i + 1) := by unfold lkE; rw [hr]
      have x2 : lkN (hlB c cl) now c.pf.length m (p ||| 2 ^ i) (i + 1) = 0 := by unfold lkN; rw [hr]
      rw [hr, x1, x2] at ihx
      clear x1 x2 hr hup hun hlk hEE hNN hLL hGp hin1 hin w
      have s1 : (((L.length + 1 : Nat) : Int) - 1).toNat = L.length := by omega
      have s2 : (0 : Int) ≤ ((L.length + 1 : Nat) : Int) - 1 := by omega
      have s3 : ((L.length + 1 : Nat) : Int) - 1 ≤ ((L.length + 1 : Nat) : Int) := by omega
      cases hs : stl now c.pf.length m (i + 1) with
      | nil =>
        rw [hs] at ihx
        dsimp only [upB, Option.isSome_none] at ihx
        rw [hlen, List.append_nil, ← ic_app] at ihx
        have hc1 : icells (L ++ ci [i]) = icells L ++ [.val (.int .i64 (i : Int))] := by rw [ic_app]; rfl
        (have hg : (987654321 : Nat) - 987654321 = 0 := rfl; have hr := hg; repeat' (first | refine aw_seq ?_ | (refine aw_skip ?_; repeat' (first | with_reducible refine thenQ_n ?_ | with_reducible refine blockQ_n ?_ | with_reducible refine thenQ_e ?_ | with_reducible refine blockQ_t ?_ | with_reducible refine blockQ_f (by decide) ?_)) | (refine aw_exit ?_; repeat' (first | with_reducible refine thenQ_n ?_ | with_reducible refine blockQ_n ?_ | with_reducible refine thenQ_e ?_ | with_reducible refine blockQ_t ?_ | with_reducible refine blockQ_f (by decide) ?_)) | refine aw_ret ?_ | refine aw_block ?_ | refine aw_condT rfl ?_ | refine aw_condF rfl ?_ | ((first | refine aw_hide fun K hK => aw_region ?_ | refine acall0 (w2) ?_ | refine acallB (ihx) (by repeat' (first | exact trivial | exact rfl | refine And.intro ?_ ?_)) (by kernel_rfl) (by kernel_rfl) (by kernel_rfl) ?_ | refine ago_if (by omega) ?_ | skip); simp (config := {maxSteps := 10000000}) (disch := first | exact okYes (by kernel_rfl) | omega) only [List.length, Nat.zero_add, Nat.reduceAdd, Nat.reduceMul, dI, ARun_none, AOpRun, aexec, Option.map, run1, FSt.ev, St.F, eget_c, Nat.reduceBEq, ↓eget_h, cond_false, hget_c, ↓hget_h, List.getElem?_cons_zero, AGo_ok, St.app, putO, eput_c, eput_n, hups, List.map, isSh, Bool.false_eq_true, ↓reduceIte, abin, fits, em, dB, hput_c, beq_self_eq_true, hput_n, cond_true, List.append_nil, ARun_nil, dropE_c, inL_c, inL_n, dropE_n, asI, Int.le_refl, s2, s3, true_or, and_self, s1, D.isBot, D.cells, Nat.reduceLeDiff, List.all, D.leaf, Bool.and_true, splice, List.take, List.nil_append, List.drop]) | (subst hK; repeat' (first | with_reducible refine thenQ_n ?_ | with_reducible refine blockQ_n ?_ | with_reducible refine thenQ_e ?_ | with_reducible refine blockQ_t ?_ | with_reducible refine blockQ_f (by decide) ?_))))
        refine ⟨i + 1, ⟨by omega, .inl (by omega), hnx⟩, by omega, ?_⟩
        rw [hl1]
        dsimp only
        rw [hs, hc1]
        refine wk_to [] [(0, 0), (8, 8), (16, 16), (24, 24), (32, 32), (48, 48), (500, 40)] (by kernel_rfl) (by kernel_rfl) (by kernel_rfl) (by kernel_rfl) (by kernel_rfl) ?_ ?_ <;> repeat' (first | exact trivial | exact vr_val _ | exact vr_list _ | exact vr_vec _ _ _ _ rfl | exact vr_ptr _ _ _ rfl | apply vr_fn | refine And.intro ⟨_, rfl, .inl ⟨_, rfl, by decide, ?_⟩⟩ ?_ | apply And.intro | exact vrl_flat _ (by first | exact icells_in _ | exact rcells_in _ | exact scells_in _ | exact bcells_in _ | assumption))
      | cons x xs =>
        rw [hs] at ihx
        dsimp only [upB, Option.isSome_none] at ihx
        rw [Nat.add_zero, hlen] at ihx
        have hc1 : icells (L ++ ci (i :: x :: xs)) = icells (L ++ [(i : Int)] ++ ci (x :: xs)) := by rw [ci_cons i, List.append_assoc]
        have hcin3 := icells_in (L ++ [(i : Int)] ++ ci (x :: xs))
        generalize icells (L ++ [(i : Int)] ++ ci (x :: xs)) = CX at *
        (have hg : (987654321 : Nat) - 987654321 = 0 := rfl; have hr := hg; repeat' (first | refine aw_seq ?_ | (refine aw_skip ?_; repeat' (first | with_reducible refine thenQ_n ?_ | with_reducible refine blockQ_n ?_ | with_reducible refine thenQ_e ?_ | with_reducible refine blockQ_t ?_ | with_reducible refine blockQ_f (by decide) ?_)) | (refine aw_exit ?_; repeat' (first | with_reducible refine thenQ_n ?_ | with_reducible refine blockQ_n ?_ | with_reducible refine thenQ_e ?_ | with_reducible refine blockQ_t ?_ | with_reducible refine blockQ_f (by decide) ?_)) | refine aw_ret ?_ | refine aw_block ?_ | refine aw_condT rfl ?_ | refine aw_condF rfl ?_ | ((first | refine aw_hide fun K hK => aw_region ?_ | refine acall0 (w2) ?_ | refine acallB (ihx) (by repeat' (first | exact trivial | exact rfl | refine And.intro ?_ ?_)) (by kernel_rfl) (by kernel_rfl) (by kernel_rfl) ?_ | refine ago_if (by omega) ?_ | skip); simp (config := {maxSteps := 10000000}) (disch := first | exact okYes (by kernel_rfl) | omega) only [List.length, Nat.zero_add, Nat.reduceAdd, Nat.reduceMul, dI, ARun_none, AOpRun, aexec, Option.map, run1, FSt.ev, St.F, eget_c, Nat.reduceBEq, ↓eget_h, cond_false, hget_c, ↓hget_h, List.getElem?_cons_zero, AGo_ok, St.app, putO, eput_c, eput_n, hups, List.map, isSh, Bool.false_eq_true, ↓reduceIte, abin, fits, em, dB, hput_c, hput_n, hdel_c, beq_self_eq_true, hdel_n, cond_true, List.append_nil, ARun_nil, dropE_c, inL_c, inL_n, dropE_n, asI, Int.le_refl, s2, s3, true_or, and_self, s1, D.isBot, D.cells, Nat.reduceLeDiff, List.all, D.leaf, Bool.and_true, splice, List.take, List.nil_append, List.drop]) | (subst hK; repeat' (first | with_reducible refine thenQ_n ?_ | with_reducible refine blockQ_n ?_ | with_reducible refine thenQ_e ?_ | with_reducible refine blockQ_t ?_ | with_reducible refine blockQ_f (by decide) ?_))))
        refine ⟨i + 1, ⟨by omega, .inl (by omega), hnx⟩, by omega, ?_⟩
        rw [hl1]
        dsimp only
        rw [hs, hc1]
        refine wk_to [] [(0, 0), (8, 8), (16, 16), (24, 24), (32, 32), (48, 48), (500, 296)] (by kernel_rfl) (by kernel_rfl) (by kernel_rfl) (by kernel_rfl) (by kernel_rfl) ?_ ?_ <;> repeat' (first | exact trivial | exact vr_val _ | exact vr_list _ | exact vr_vec _ _ _ _ rfl | exact vr_ptr _ _ _ rfl | apply vr_fn | refine And.intro ⟨_, rfl, .inl ⟨_, rfl, by decide, ?_⟩⟩ ?_ | apply And.intro | exact vrl_flat _ (by first | exact icells_in _ | exact rcells_in _ | exact scells_in _ | exact bcells_in _ | assumption))
end Go.Proofs.Ytdcodicoclecnaa
/- record.Renew. No conditions. -/
set_option linter.unusedSimpArgs false
set_option linter.unusedVariables false
namespace Go.Proofs.Ytdcodicoclecnaa
open Go Go.RowKit Lift

theorem look_bc (c : Cas) (hc : CasOk c) (cl : Nat) (hcl : cl < c.cl.length) (now : Nat) (hnow : now < 4096) : ∀ m : Nat, (∀ (p f : Nat) (L J : List Int), p < 4096 → L.length + m ≤ 1000 → L ++ J ≠ [] → AC Try.prog 88 [dI p, dI f, dI m, .ptr 0 0, .ptr 8 0, .ptr 16 0, .ptr 24 0, .ptr 32 0] (hpB c cl now 40 L J) (upB c cl now 40 L J (lkE (hlB c cl) now c.pf.length m p f) (lkN (hlB c cl) now c.pf.length m p f)) (dB (lookF (hlB c cl) now c.pf.length m p f).isSome)) ∧ (∀ (p f : Nat) (L J : List Int), p < 4096 → L.length + m ≤ 1000 → L ++ J ≠ [] → AC Try.prog 88 [dI p, dI f, dI m, .ptr 0 0, .ptr 8 0, .ptr 16 0, .ptr 24 0, .ptr 32 0] (hpB c cl now 48 L J) (upB c cl now 48 L J (lkE (hlB c cl) now c.pf.length m p f) (lkN (hlB c cl) now c.pf.length m p f)) (dB (lookF (hlB c cl) now c.pf.length m p f).isSome))
  | 0 => ⟨fun p f L J => lookB_zero c hc cl hcl now hnow p f L J, fun p f L J => lookC_zero c hc cl hcl now hnow p f L J⟩
  | m + 1 => ⟨fun p f L J => lookB_succ c hc cl hcl now hnow m (look_bc c hc cl hcl now hnow m).2 p f L J, fun p f L J => lookC_succ c hc cl hcl now hnow m (look_bc c hc cl hcl now hnow m).1 p f L J⟩
theorem look_a (c : Cas) (hc : CasOk c) (cl : Nat) (hcl : cl < c.cl.length) (now : Nat) (hnow : now < 4096) (m p f : Nat) (hp : p < 4096) (hm : m ≤ 1000) : AC Try.prog 88 [dI p, dI f, dI m, .ptr 0 0, .ptr 8 0, .ptr 16 0, .ptr 24 0, .ptr 32 0] (hpA c cl now) (upA c cl now [] (lkE (hlB c cl) now c.pf.length m p f) (lkN (hlB c cl) now c.pf.length m p f)) (dB (lookF (hlB c cl) now c.pf.length m p f).isSome) := by
  cases m with
  | zero => exact lookA_zero c hc cl hcl now hnow p f [] rfl hp (by simp)
  | succ m => exact lookA_succ c hc cl hcl now hnow m (look_bc c hc cl hcl now hnow m).1 p f [] rfl hp (by simp; omega)
/-- what lies behind the chosen ones before a round -/
def stK (now n : Nat) : Nat → List Nat
  | 0 => []
  | k + 1 => stl now n k 0
theorem stl_ne {now n m : Nat} (h : stl now n m 0 ≠ []) : stl now n (m + 1) 0 ≠ [] := by
  cases m with
  | zero => exact absurd rfl h
  | succ m =>
    rw [stl] at h ⊢
    cases hk : lastK now 0 n with
    | none => rw [hk] at h; exact absurd rfl h
    | some j => simp
theorem stK_ne {now n k : Nat} (h : stK now n k ≠ []) : stl now n k 0 ≠ [] ∧ 0 < k := by
  cases k with
  | zero => exact absurd rfl h
  | succ k => exact ⟨stl_ne h, by omega⟩
def renD (c : Cas) (cl : Nat) (tick : Int) : D := match renF (hlB c cl) (cntN c tick) c.pf.length with
  | none => .tup [.list [], dI 3]
  | some l => .tup [.list (ints (ci l)), dI 0]
set_option maxRecDepth 100000 in
set_option maxHeartbeats 8000000 in
theorem renewP_ok (c : Cas) (hi : CasIn c) (cl tk : Nat) (h0 : clmE c cl tk 122 1 = 0) : AC Try.prog 41 [casD c, dI cl, dI tk] [] [] (renD c cl tk) := by
  refine krecord_Renew.ac (n0 := 0) (by simp) ⟨in_cas _ _, .val _, .val _, trivial⟩ trivial rfl ?_
  obtain ⟨hc, cl', tk', e1, e2, hcl, htk⟩ := clmE_ok h0
  obtain rfl : cl = cl' := by omega
  obtain rfl : tk = tk' := by omega
  clear e1 e2
  have ck := ccheck_ac c hi cl tk
  rw [h0] at ck
  have n2 := hc.n2
  have cc := counting_ac c hc.n2 (tk : Int)
  have hnow := cntN_lt hc (tk : Int)
  unfold crecord_Renew
  unfold casD at *
  unfold renD
  have pfl := sps_len c.pf
  generalize cntN c tk = now at *
  have ha := fun m hm => look_a c hc cl hcl now hnow m now 0 hnow hm
  have hB := fun m => (look_bc c hc cl hcl now hnow m).1 now 0 []
  unfold hpA at ha
  unfold hpB at hB
  (have hg : (987654321 : Nat) - 987654321 = 0 := rfl; have hr := hg; repeat' (first | refine aw_seq ?_ | (refine aw_skip ?_; repeat' (first | with_reducible refine thenQ_n ?_ | with_reducible refine blockQ_n ?_ | with_reducible refine thenQ_e ?_ | with_reducible refine blockQ_t ?_ | with_reducible refine blockQ_f (by decide) ?_)) | (refine aw_exit ?_; repeat' (first | with_reducible refine thenQ_n ?_ | with_reducible refine blockQ_n ?_ | with_reducible refine thenQ_e ?_ | with_reducible refine blockQ_t ?_ | with_reducible refine blockQ_f (by decide) ?_)) | refine aw_ret ?_ | refine aw_block ?_ | refine aw_condT rfl ?_ | refine aw_condF rfl ?_ | ((first | refine aw_hide fun K hK => aw_region ?_ | refine acall0 (ck) ?_ | refine acall0 (cc) ?_ | refine ago_if (by omega) ?_ | skip); simp (config := {maxSteps := 10000000}) (disch := first | exact okYes (by kernel_rfl) | omega) only [List.length, Nat.zero_add, Nat.reduceAdd, Nat.reduceMul, envOf, dI, ARun_none, AOpRun, aexec, D.isBot, FSt.ev, St.F, ↓eget_h, Bool.false_eq_true, Option.isSome, hget_n, or_self, ↓reduceIte, D.cells, AGo_ok, St.app, putO, eput_c, Nat.reduceBEq, eput_n, cond_false, hups, hput_n, List.map, eget_c, hget_c, hput_c, ARun_nil, dropE_c, inL_n, dropE_n, beq_self_eq_true, cond_true, Nat.reduceLeDiff, List.drop, List.take, Option.map, run1, ↓hget_h, List.getElem?_cons_zero, inL_c, isSh, abin, bne_self_eq_false, List.all, D.leaf, Bool.and_true, and_self, splice, List.nil_append, List.append_nil, List.getElem?_cons_succ, pfl, fits]) | (subst hK; repeat' (first | with_reducible refine thenQ_n ?_ | with_reducible refine blockQ_n ?_ | with_reducible refine thenQ_e ?_ | with_reducible refine blockQ_t ?_ | with_reducible refine blockQ_f (by decide) ?_))))
  clear ck cc
  refine aw_loop (fun k : Nat => match stK now c.pf.length k with
    | [] => ⟨[(3, .ptr 0 0), (4, .ptr 8 0), (9, .ptr 16 0), (10, .ptr 24 0), (11, .ptr 32 0), (27, dI ((c.pf.length : Int) + 1)), (28, dI k)], [(0, [.list (cls c.cl), .list (sps c.pf)]), (8, [dI cl]), (16, [dI now]), (24, [.val (.slice none 0 0)]), (32, [.fn 88 [] [.ptr 0 0, .ptr 8 0, .ptr 16 0, .ptr 24 0, .ptr 32 0]])], 248⟩
    | x :: xs => ⟨[(3, .ptr 0 0), (4, .ptr 8 0), (9, .ptr 16 0), (10, .ptr 24 0), (11, .ptr 32 0), (27, dI ((c.pf.length : Int) + 1)), (28, dI k)], [(0, [.list (cls c.cl), .list (sps c.pf)]), (8, [dI cl]), (16, [dI now]), (24, [.vec 40 0 1]), (32, [.fn 88 [] [.ptr 0 0, .ptr 8 0, .ptr 16 0, .ptr 24 0, .ptr 32 0]]), (40, icells (ci (x :: xs)))], 248⟩) (fun k => k ≤ c.pf.length + 1 ∧ ∀ j, j < k → lookF (hlB c cl) now c.pf.length j now 0 = none) (fun k => c.pf.length + 1 - k) ⟨0, ⟨by omega, fun j hj => by omega⟩, ?_⟩ ?_
  · show Wk _ _ ⟨_, _, _⟩
    unfold dI
    refine wk_to [] [(0, 0), (8, 8), (16, 112), (24, 128), (32, 136)] (by kernel_rfl) (by kernel_rfl) (by kernel_rfl) (by kernel_rfl) (by kernel_rfl) ?_ ?_ <;> repeat' (first | exact trivial | exact vr_val _ | exact vr_list _ | exact vr_ptr _ _ _ rfl | apply vr_fn | refine And.intro ⟨_, rfl, .inl ⟨_, rfl, by decide, ?_⟩⟩ ?_ | apply And.intro)
  rintro k ⟨hk, hin⟩
  by_cases hk2 : k < c.pf.length + 1
  case neg =>
    obtain rfl : k = c.pf.length + 1 := by omega
    have hr : renF (hlB c cl) now c.pf.length = none := first_none hin
    rw [hr]
    dsimp only
    have ki : decide (((c.pf.length + 1 : Nat) : Int) < (c.pf.length : Int) + 1) = false := decide_eq_false (by omega)
    cases hs : stK now c.pf.length (c.pf.length + 1) with
    | nil =>
      dsimp only
      (have hg : (987654321 : Nat) - 987654321 = 0 := rfl; have hr := hg; repeat' (first | refine aw_seq ?_ | (refine aw_skip ?_; repeat' (first | with_reducible refine thenQ_n ?_ | with_reducible refine blockQ_n ?_ | with_reducible refine thenQ_e ?_ | with_reducible refine blockQ_t ?_ | with_reducible refine blockQ_f (by decide) ?_)) | (refine aw_exit ?_; repeat' (first | with_reducible refine thenQ_n ?_ | with_reducible refine blockQ_n ?_ | with_reducible refine thenQ_e ?_ | with_reducible refine blockQ_t ?_ | with_reducible refine blockQ_f (by decide) ?_)) | refine aw_ret ?_ | refine aw_block ?_ | refine aw_condT rfl ?_ | refine aw_condF rfl ?_ | ((first | refine aw_hide fun K hK => aw_region ?_ | refine ago_if (by omega) ?_ | skip); simp (config := {maxSteps := 10000000}) (disch := first | exact okYes (by kernel_rfl) | omega) only [List.length, Nat.zero_add, Nat.reduceMul, Nat.reduceAdd, dI, ARun_none, AOpRun, aexec, FSt.ev, St.F, eget_c, Nat.reduceBEq, ↓eget_h, cond_false, isSh, Bool.false_eq_true, ↓reduceIte, Option.map, abin, ki, AGo_ok, St.app, putO, eput_c, eput_n, hups, List.map, ARun_nil, dropE_c, inL_n, dropE_n]) | (subst hK; repeat' (first | with_reducible refine thenQ_n ?_ | with_reducible refine blockQ_n ?_ | with_reducible refine thenQ_e ?_ | with_reducible refine blockQ_t ?_ | with_reducible refine blockQ_f (by decide) ?_))))
      refine end_to [] [] (by first | exact .inl rfl | exact .inr rfl) rfl (by kernel_rfl) (by kernel_rfl) (by kernel_rfl) ?_ ?_ <;> repeat' (first | exact trivial | exact vr_val _ | exact vr_nil | apply vr_tup | apply And.intro)
    | cons x xs =>
      dsimp only
      (have hg : (987654321 : Nat) - 987654321 = 0 := rfl; have hr := hg; repeat' (first | refine aw_seq ?_ | (refine aw_skip ?_; repeat' (first | with_reducible refine thenQ_n ?_ | with_reducible refine blockQ_n ?_ | with_reducible refine thenQ_e ?_ | with_reducible refine blockQ_t ?_ | with_reducible refine blockQ_f (by decide) ?_)) | (refine aw_exit ?_; repeat' (first | with_reducible refine thenQ_n ?_ | with_reducible refine blockQ_n ?_ | with_reducible refine thenQ_e ?_ | with_reducible refine blockQ_t ?_ | with_reducible refine blockQ_f (by decide) ?_)) | refine aw_ret ?_ | refine aw_block ?_ | refine aw_condT rfl ?_ | refine aw_condF rfl ?_ | ((first | refine aw_hide fun K hK => aw_region ?_ | refine ago_if (by omega) ?_ | skip); simp (config := {maxSteps := 10000000}) (disch := first | exact okYes (by kernel_rfl) | omega) only [List.length, Nat.zero_add, Nat.reduceMul, Nat.reduceAdd, dI, ARun_none, AOpRun, aexec, FSt.ev, St.F, eget_c, Nat.reduceBEq, ↓eget_h, cond_false, isSh, Bool.false_eq_true, ↓reduceIte, Option.map, abin, ki, AGo_ok, St.app, putO, eput_c, eput_n, hups, List.map, ARun_nil, dropE_c, inL_n, dropE_n]) | (subst hK; repeat' (first | with_reducible refine thenQ_n ?_ | with_reducible refine blockQ_n ?_ | with_reducible refine thenQ_e ?_ | with_reducible refine blockQ_t ?_ | with_reducible refine blockQ_f (by decide) ?_))))
      refine end_to [] [] (by first | exact .inl rfl | exact .inr rfl) rfl (by kernel_rfl) (by kernel_rfl) (by kernel_rfl) ?_ ?_ <;> repeat' (first | exact trivial | exact vr_val _ | exact vr_nil | apply vr_tup | apply And.intro)
  have ki : decide ((k : Int) < (c.pf.length : Int) + 1) = true := decide_eq_true (by omega)
  cases hs : stK now c.pf.length k with
  | nil =>
    dsimp only
    have ih := ha k (by omega)
    rw [show ((0 : Nat) : Int) = 0 from rfl] at ih
    cases hl : lookF (hlB c cl) now c.pf.length k now 0 with
    | some r =>
      have hr : renF (hlB c cl) now c.pf.length = some r := first_some hk2 hin hl
      have x1 : lkE (hlB c cl) now c.pf.length k now 0 = r := by unfold lkE; rw [hl]
      have x2 : lkN (hlB c cl) now c.pf.length k now 0 = r.length := by unfold lkN; rw [hl]
      rw [hl, x1, x2] at ih
      rw [hr]
      clear ha hB x1 x2 hr
      cases r with
      | nil =>
        dsimp only [upA, Option.isSome_some] at ih ⊢
        rw [show ints (ci []) = [] from rfl]
        (have hg : (987654321 : Nat) - 987654321 = 0 := rfl; have hr := hg; repeat' (first | refine aw_seq ?_ | (refine aw_skip ?_; repeat' (first | with_reducible refine thenQ_n ?_ | with_reducible refine blockQ_n ?_ | with_reducible refine thenQ_e ?_ | with_reducible refine blockQ_t ?_ | with_reducible refine blockQ_f (by decide) ?_)) | (refine aw_exit ?_; repeat' (first | with_reducible refine thenQ_n ?_ | with_reducible refine blockQ_n ?_ | with_reducible refine thenQ_e ?_ | with_reducible refine blockQ_t ?_ | with_reducible refine blockQ_f (by decide) ?_)) | refine aw_ret ?_ | refine aw_block ?_ | refine aw_condT rfl ?_ | refine aw_condF rfl ?_ | ((first | refine aw_hide fun K hK => aw_region ?_ | refine acallB (ih) (by repeat' (first | exact trivial | exact rfl | refine And.intro ?_ ?_)) (by kernel_rfl) (by kernel_rfl) (by kernel_rfl) ?_ | refine ago_if (by omega) ?_ | skip); simp (config := {maxSteps := 10000000}) (disch := first | exact okYes (by kernel_rfl) | omega) only [List.length, Nat.zero_add, Nat.reduceMul, Nat.reduceAdd, dI, ARun_none, AOpRun, aexec, FSt.ev, St.F, eget_c, Nat.reduceBEq, ↓eget_h, cond_false, isSh, Bool.false_eq_true, ↓reduceIte, Option.map, abin, ki, AGo_ok, St.app, putO, eput_c, eput_n, hups, List.map, ARun_nil, dropE_c, inL_n, dropE_n, inL_c, beq_self_eq_true, cond_true, run1, hget_c, ↓hget_h, List.getElem?_cons_zero, dB, hput_c, hput_n, List.append_nil, blockQ, thenQ]) | (subst hK; repeat' (first | with_reducible refine thenQ_n ?_ | with_reducible refine blockQ_n ?_ | with_reducible refine thenQ_e ?_ | with_reducible refine blockQ_t ?_ | with_reducible refine blockQ_f (by decide) ?_))))
        refine end_to [] [] (by first | exact .inl rfl | exact .inr rfl) rfl (by kernel_rfl) (by kernel_rfl) (by kernel_rfl) ?_ ?_ <;> repeat' (first | exact trivial | exact vr_val _ | exact vr_nil | apply vr_tup | apply And.intro)
      | cons x xs =>
        dsimp only [upA, Option.isSome_some] at ih ⊢
        simp only [List.length_nil, List.nil_append, Nat.zero_add] at ih
        have hCl : (ci (x :: xs)).length = (x :: xs).length := by unfold ci; rw [List.length_map]
        generalize ci (x :: xs) = C at *
        generalize (x :: xs).length = N at *
        have hcin := icells_in C
        (have hg : (987654321 : Nat) - 987654321 = 0 := rfl; have hr := hg; repeat' (first | refine aw_seq ?_ | (refine aw_skip ?_; repeat' (first | with_reducible refine thenQ_n ?_ | with_reducible refine blockQ_n ?_ | with_reducible refine thenQ_e ?_ | with_reducible refine blockQ_t ?_ | with_reducible refine blockQ_f (by decide) ?_)) | (refine aw_exit ?_; repeat' (first | with_reducible refine thenQ_n ?_ | with_reducible refine blockQ_n ?_ | with_reducible refine thenQ_e ?_ | with_reducible refine blockQ_t ?_ | with_reducible refine blockQ_f (by decide) ?_)) | refine aw_ret ?_ | refine aw_block ?_ | refine aw_condT rfl ?_ | refine aw_condF rfl ?_ | ((first | refine aw_hide fun K hK => aw_region ?_ | refine acallB (ih) (by repeat' (first | exact trivial | exact rfl | refine And.intro ?_ ?_)) (by kernel_rfl) (by kernel_rfl) (by kernel_rfl) ?_ | refine ago_if (by omega) ?_ | skip); simp (config := {maxSteps := 10000000}) (disch := first | exact okYes (by kernel_rfl) | omega) only [List.length, Nat.zero_add, Nat.reduceMul, Nat.reduceAdd, dI, ARun_none, AOpRun, aexec, FSt.ev, St.F, eget_c, Nat.reduceBEq, ↓eget_h, cond_false, isSh, Bool.false_eq_true, ↓reduceIte, Option.map, abin, ki, AGo_ok, St.app, putO, eput_c, eput_n, hups, List.map, ARun_nil, dropE_c, inL_n, dropE_n, inL_c, beq_self_eq_true, cond_true, run1, hget_c, ↓hget_h, List.getElem?_cons_zero, dB, hput_c, hput_n, List.append_nil, blockQ, thenQ]) | (subst hK; repeat' (first | with_reducible refine thenQ_n ?_ | with_reducible refine blockQ_n ?_ | with_reducible refine thenQ_e ?_ | with_reducible refine blockQ_t ?_ | with_reducible refine blockQ_f (by decide) ?_))))
        refine end_to [296] [] (by first | exact .inl rfl | exact .inr rfl) rfl (by kernel_rfl) (by kernel_rfl) (by kernel_rfl) ?_ ?_ <;> repeat' (first | exact trivial | exact vr_val _ | apply vr_tup | refine vr_fl _ _ _ _ _ (by decide) rfl ?_ ?_ ?_ ?_ | apply And.intro)
        all_goals first | exact ints_one _ | exact (ints_len _).trans hCl | exact ints_flat _ | exact icells_in _
    | none =>
      have hnx : ∀ j, j < k + 1 → lookF (hlB c cl) now c.pf.length j now 0 = none := fun j hj => by
        rcases (by omega : j < k ∨ j = k) with h1 | rfl
        · exact hin j h1
        · exact hl
      have x1 : lkE (hlB c cl) now c.pf.length k now 0 = stl now c.pf.length k 0 := by unfold lkE; rw [hl]
      have x2 : lkN (hlB c cl) now c.pf.length k now 0 = 0 := by unfold lkN; rw [hl]
      rw [hl, x1, x2] at ih
      clear ha hB x1 x2
      cases hE : stl now c.pf.length k 0 with
      | nil =>
        rw [hE] at ih
        dsimp only [upA, Option.isSome_none] at ih
        (have hg : (987654321 : Nat) - 987654321 = 0 := rfl; have hr := hg; repeat' (first | refine aw_seq ?_ | (refine aw_skip ?_; repeat' (first | with_reducible refine thenQ_n ?_ | with_reducible refine blockQ_n ?_ | with_reducible refine thenQ_e ?_ | with_reducible refine blockQ_t ?_ | with_reducible refine blockQ_f (by decide) ?_)) | (refine aw_exit ?_; repeat' (first | with_reducible refine thenQ_n ?_ | with_reducible refine blockQ_n ?_ | with_reducible refine thenQ_e ?_ | with_reducible refine blockQ_t ?_ | with_reducible refine blockQ_f (by decide) ?_)) | refine aw_ret ?_ | refine aw_block ?_ | refine aw_condT rfl ?_ | refine aw_condF rfl ?_ | ((first | refine aw_hide fun K hK => aw_region ?_ | refine acallB (ih) (by repeat' (first | exact trivial | exact rfl | refine And.intro ?_ ?_)) (by kernel_rfl) (by kernel_rfl) (by kernel_rfl) ?_ | refine ago_if (by omega) ?_ | skip); simp (config := {maxSteps := 10000000}) (disch := first | exact okYes (by kernel_rfl) | omega) only [List.length, Nat.zero_add, Nat.reduceMul, Nat.reduceAdd, dI, ARun_none, AOpRun, aexec, FSt.ev, St.F, eget_c, Nat.reduceBEq, ↓eget_h, cond_false, isSh, Bool.false_eq_true, ↓reduceIte, Option.map, abin, ki, AGo_ok, St.app, putO, eput_c, eput_n, hups, List.map, ARun_nil, dropE_c, inL_n, dropE_n, inL_c, beq_self_eq_true, cond_true, run1, hget_c, ↓hget_h, List.getElem?_cons_zero, dB, hput_c, hput_n, List.append_nil, fits]) | (subst hK; repeat' (first | with_reducible refine thenQ_n ?_ | with_reducible refine blockQ_n ?_ | with_reducible refine thenQ_e ?_ | with_reducible refine blockQ_t ?_ | with_reducible refine blockQ_f (by decide) ?_))))
        refine ⟨k + 1, ⟨by omega, hnx⟩, by omega, ?_⟩
        rw [show stK now c.pf.length (k + 1) = [] from hE]
        dsimp only
        refine wk_to [] [(0, 0), (8, 8), (16, 16), (24, 24), (32, 32)] (by kernel_rfl) (by kernel_rfl) (by kernel_rfl) (by kernel_rfl) (by kernel_rfl) ?_ ?_ <;> repeat' (first | exact trivial | exact vr_val _ | exact vr_list _ | exact vr_ptr _ _ _ rfl | apply vr_fn | refine And.intro ⟨_, rfl, .inl ⟨_, rfl, by decide, ?_⟩⟩ ?_ | apply And.intro)
      | cons x xs =>
        rw [hE] at ih
        dsimp only [upA, Option.isSome_none] at ih
        simp only [List.length_nil, List.nil_append, Nat.zero_add] at ih
        have hcin := icells_in (ci (x :: xs))
        (have hg : (987654321 : Nat) - 987654321 = 0 := rfl; have hr := hg; repeat' (first | refine aw_seq ?_ | (refine aw_skip ?_; repeat' (first | with_reducible refine thenQ_n ?_ | with_reducible refine blockQ_n ?_ | with_reducible refine thenQ_e ?_ | with_reducible refine blockQ_t ?_ | with_reducible refine blockQ_f (by decide) ?_)) | (refine aw_exit ?_; repeat' (first | with_reducible refine thenQ_n ?_ | with_reducible refine blockQ_n ?_ | with_reducible refine thenQ_e ?_ | with_reducible refine blockQ_t ?_ | with_reducible refine blockQ_f (by decide) ?_)) | refine aw_ret ?_ | refine aw_block ?_ | refine aw_condT rfl ?_ | refine aw_condF rfl ?_ | ((first | refine aw_hide fun K hK => aw_region ?_ | refine acallB (ih) (by repeat' (first | exact trivial | exact rfl | refine And.intro ?_ ?_)) (by kernel_rfl) (by kernel_rfl) (by kernel_rfl) ?_ | refine ago_if (by omega) ?_ | skip); simp (config := {maxSteps := 10000000}) (disch := first | exact okYes (by kernel_rfl) | omega) only [List.length, Nat.zero_add, Nat.reduceMul, Nat.reduceAdd, dI, ARun_none, AOpRun, aexec, FSt.ev, St.F, eget_c, Nat.reduceBEq, ↓eget_h, cond_false, isSh, Bool.false_eq_true, ↓reduceIte, Option.map, abin, ki, AGo_ok, St.app, putO, eput_c, eput_n, hups, List.map, ARun_nil, dropE_c, inL_n, dropE_n, inL_c, beq_self_eq_true, cond_true, run1, hget_c, ↓hget_h, List.getElem?_cons_zero, dB, hput_c, hput_n, List.append_nil, fits]) | (subst hK; repeat' (first | with_reducible refine thenQ_n ?_ | with_reducible refine blockQ_n ?_ | with_reducible refine thenQ_e ?_ | with_reducible refine blockQ_t ?_ | with_reducible refine blockQ_f (by decide) ?_))))
        refine ⟨k + 1, ⟨by omega, hnx⟩, by omega, ?_⟩
        rw [show stK now c.pf.length (k + 1) = x :: xs from hE]
        dsimp only
        refine wk_to [] [(0, 0), (8, 8), (16, 16), (24, 24), (32, 32), (40, 296)] (by kernel_rfl) (by kernel_rfl) (by kernel_rfl) (by kernel_rfl) (by kernel_rfl) ?_ ?_ <;> repeat' (first | exact trivial | exact vr_val _ | exact vr_list _ | exact vr_vec _ _ _ _ rfl | exact vr_ptr _ _ _ rfl | apply vr_fn | refine And.intro ⟨_, rfl, .inl ⟨_, rfl, by decide, ?_⟩⟩ ?_ | apply And.intro | exact vrl_flat _ (by first | exact icells_in _ | exact rcells_in _ | exact scells_in _ | exact bcells_in _ | assumption))
  | cons x0 xs0 =>
    have hne := stK_ne (now := now) (n := c.pf.length) (k := k) (by rw [hs]; simp)
    have hcin0 := icells_in (ci (x0 :: xs0))
    dsimp only
    have ih := hB k (ci (x0 :: xs0)) hnow (by simp; omega) (by simp [ci])
    rw [show ((0 : Nat) : Int) = 0 from rfl] at ih
    cases hl : lookF (hlB c cl) now c.pf.length k now 0 with
    | some r =>
      have hr : renF (hlB c cl) now c.pf.length = some r := first_some hk2 hin hl
      have x1 : lkE (hlB c cl) now c.pf.length k now 0 = r := by unfold lkE; rw [hl]
      have x2 : lkN (hlB c cl) now c.pf.length k now 0 = r.length := by unfold lkN; rw [hl]
      rw [hl, x1, x2] at ih
      rw [hr]
      clear ha hB x1 x2 hr
      have hlen := (look_some hl).1
      cases r with
      | nil => exact absurd hlen (by simp; omega)
      | cons x xs =>
        dsimp only [upB, Option.isSome_some] at ih ⊢
        simp only [List.length_nil, List.nil_append, Nat.zero_add] at ih
        have hCl : (ci (x :: xs)).length = (x :: xs).length := by unfold ci; rw [List.length_map]
        generalize ci (x :: xs) = C at *
        generalize (x :: xs).length = N at *
        have hcin := icells_in C
        (have hg : (987654321 : Nat) - 987654321 = 0 := rfl; have hr := hg; repeat' (first | refine aw_seq ?_ | (refine aw_skip ?_; repeat' (first | with_reducible refine thenQ_n ?_ | with_reducible refine blockQ_n ?_ | with_reducible refine thenQ_e ?_ | with_reducible refine blockQ_t ?_ | with_reducible refine blockQ_f (by decide) ?_)) | (refine aw_exit ?_; repeat' (first | with_reducible refine thenQ_n ?_ | with_reducible refine blockQ_n ?_ | with_reducible refine thenQ_e ?_ | with_reducible refine blockQ_t ?_ | with_reducible refine blockQ_f (by decide) ?_)) | refine aw_ret ?_ | refine aw_block ?_ | refine aw_condT rfl ?_ | refine aw_condF rfl ?_ | ((first | refine aw_hide fun K hK => aw_region ?_ | refine acallB (ih) (by repeat' (first | exact trivial | exact rfl | refine And.intro ?_ ?_)) (by kernel_rfl) (by kernel_rfl) (by kernel_rfl) ?_ | refine ago_if (by omega) ?_ | skip); simp (config := {maxSteps := 10000000}) (disch := first | exact okYes (by kernel_rfl) | omega) only [List.length, Nat.zero_add, Nat.reduceMul, Nat.reduceAdd, dI, ARun_none, AOpRun, aexec, FSt.ev, St.F, eget_c, Nat.reduceBEq, ↓eget_h, cond_false, isSh, Bool.false_eq_true, ↓reduceIte, Option.map, abin, ki, AGo_ok, St.app, putO, eput_c, eput_n, hups, List.map, ARun_nil, dropE_c, inL_n, dropE_n, inL_c, beq_self_eq_true, cond_true, run1, hget_c, ↓hget_h, List.getElem?_cons_zero, dB, hput_c, hput_n, hdel_c, hdel_n, List.append_nil, blockQ, thenQ]) | (subst hK; repeat' (first | with_reducible refine thenQ_n ?_ | with_reducible refine blockQ_n ?_ | with_reducible refine thenQ_e ?_ | with_reducible refine blockQ_t ?_ | with_reducible refine blockQ_f (by decide) ?_))))
        refine end_to [296] [] (by first | exact .inl rfl | exact .inr rfl) rfl (by kernel_rfl) (by kernel_rfl) (by kernel_rfl) ?_ ?_ <;> repeat' (first | exact trivial | exact vr_val _ | apply vr_tup | refine vr_fl _ _ _ _ _ (by decide) rfl ?_ ?_ ?_ ?_ | apply And.intro)
        all_goals first | exact ints_one _ | exact (ints_len _).trans hCl | exact ints_flat _ | exact icells_in _
    | none =>
      have hnx : ∀ j, j < k + 1 → lookF (hlB c cl) now c.pf.length j now 0 = none := fun j hj => by
        rcases (by omega : j < k ∨ j = k) with h1 | rfl
        · exact hin j h1
        · exact hl
      have x1 : lkE (hlB c cl) now c.pf.length k now 0 = stl now c.pf.length k 0 := by unfold lkE; rw [hl]
      have x2 : lkN (hlB c cl) now c.pf.length k now 0 = 0 := by unfold lkN; rw [hl]
      rw [hl, x1, x2] at ih
      clear ha hB x1 x2
      cases hE : stl now c.pf.length k 0 with
      | nil => exact absurd hE hne.1
      | cons x xs =>
        rw [hE] at ih
        dsimp only [upB, Option.isSome_none] at ih
        simp only [List.length_nil, List.nil_append, Nat.zero_add] at ih
        have hcin := icells_in (ci (x :: xs))
        (have hg : (987654321 : Nat) - 987654321 = 0 := rfl; have hr := hg; repeat' (first | refine aw_seq ?_ | (refine aw_skip ?_; repeat' (first | with_reducible refine thenQ_n ?_ | with_reducible refine blockQ_n ?_ | with_reducible refine thenQ_e ?_ | with_reducible refine blockQ_t ?_ | with_reducible refine blockQ_f (by decide) ?_)) | (refine aw_exit ?_; repeat' (first | with_reducible refine thenQ_n ?_ | with_reducible refine blockQ_n ?_ | with_reducible refine thenQ_e ?_ | with_reducible refine blockQ_t ?_ | with_reducible refine blockQ_f (by decide) ?_)) | refine aw_ret ?_ | refine aw_block ?_ | refine aw_condT rfl ?_ | refine aw_condF rfl ?_ | ((first | refine aw_hide fun K hK => aw_region ?_ | refine acallB (ih) (by repeat' (first | exact trivial | exact rfl | refine And.intro ?_ ?_)) (by kernel_rfl) (by kernel_rfl) (by kernel_rfl) ?_ | refine ago_if (by omega) ?_ | skip); simp (config := {maxSteps := 10000000}) (disch := first | exact okYes (by kernel_rfl) | omega) only [List.length, Nat.zero_add, Nat.reduceMul, Nat.reduceAdd, dI, ARun_none, AOpRun, aexec, FSt.ev, St.F, eget_c, Nat.reduceBEq, ↓eget_h, cond_false, isSh, Bool.false_eq_true, ↓reduceIte, Option.map, abin, ki, AGo_ok, St.app, putO, eput_c, eput_n, hups, List.map, ARun_nil, dropE_c, inL_n, dropE_n, inL_c, beq_self_eq_true, cond_true, run1, hget_c, ↓hget_h, List.getElem?_cons_zero, dB, hput_c, hput_n, hdel_c, hdel_n, List.append_nil, fits]) | (subst hK; repeat' (first | with_reducible refine thenQ_n ?_ | with_reducible refine blockQ_n ?_ | with_reducible refine thenQ_e ?_ | with_reducible refine blockQ_t ?_ | with_reducible refine blockQ_f (by decide) ?_))))
        refine ⟨k + 1, ⟨by omega, hnx⟩, by omega, ?_⟩
        rw [show stK now c.pf.length (k + 1) = x :: xs from hE]
        dsimp only
        refine wk_to [] [(0, 0), (8, 8), (16, 16), (24, 24), (32, 32), (40, 296)] (by kernel_rfl) (by kernel_rfl) (by kernel_rfl) (by kernel_rfl) (by kernel_rfl) ?_ ?_ <;> repeat' (first | exact trivial | exact vr_val _ | exact vr_list _ | exact vr_vec _ _ _ _ rfl | exact vr_ptr _ _ _ rfl | apply vr_fn | refine And.intro ⟨_, rfl, .inl ⟨_, rfl, by decide, ?_⟩⟩ ?_ | apply And.intro | exact vrl_flat _ (by first | exact icells_in _ | exact rcells_in _ | exact scells_in _ | exact bcells_in _ | assumption))
end Go.Proofs.Ytdcodicoclecnaa
/- The document's Renew. No conditions. -/
set_option linter.unusedSimpArgs false
set_option linter.unusedVariables false
namespace Go.Proofs.Ytdcodicoclecnaa
open Go Go.RowKit Lift

theorem bestK_succ (H : Nat → Bool) (now n k : Nat) : bestK H now n (k + 1) = if (H (maskN now (moreL now n k)) && (match bestK H now n k with
      | none => true
      | some b => befB (moreL now n k) b)) = true then some (moreL now n k) else bestK H now n k := rfl
theorem best_len (H : Nat → Bool) (now n : Nat) : ∀ k b, bestK H now n k = some b → b.length ≤ n
  | 0, b, h => by simp [bestK] at h
  | k + 1, b, h => by
    rw [bestK_succ] at h
    by_cases hq : (H (maskN now (moreL now n k)) && (match bestK H now n k with
      | none => true
      | some b => befB (moreL now n k) b)) = true
    · rw [if_pos hq] at h
      cases h; exact moK_len now k n
    · rw [if_neg hq] at h
      exact best_len H now n k b h
theorem nuw_in {x : Int} (h1 : 0 ≤ x) (h2 : x < 18446744073709551616) : IntKind.u64.wrap x = x := by
  have h3 : x % 18446744073709551616 = x := Int.emod_eq_of_lt h1 h2
  unfold IntKind.wrap
  show (if (false && _) = true then _ else x % (2 ^ 64 : Int)) = x
  rw [Bool.false_and, if_neg (by simp)]
  exact h3
set_option maxRecDepth 100000 in
set_option maxHeartbeats 8000000 in
theorem renewR_ok (c : Cas) (hi : CasIn c) (cl tk : Nat) (h0 : clmE c cl tk 122 1 = 0) : AC Try.prog 42 [casD c, dI cl, dI tk] [] [] (renD c cl tk) := by
  refine kref12_Renew.ac (n0 := 0) (by simp) ⟨in_cas _ _, .val _, .val _, trivial⟩ trivial rfl ?_
  obtain ⟨hc, cl', tk', e1, e2, hcl, htk⟩ := clmE_ok h0
  obtain rfl : cl = cl' := by omega
  obtain rfl : tk = tk' := by omega
  clear e1 e2
  have ck := rclaim_ac c hi cl tk
  rw [h0] at ck
  have n2 := hc.n2
  have cc := counts_ac c hc (tk : Int)
  have hw := fun s : Nat => rholds_ac c hc cl hcl (cnS c tk s c.pf.length) (cnS_len c tk s _)
  have hm := fun s : Nat => mo_holds hc hcl (tk : Int) s
  have hnt := fun j : Nat => cntN_test c (tk : Int) j
  unfold cref12_Renew
  unfold casD at *
  unfold renD
  rw [← ren_best]
  have pfl := sps_len c.pf
  have e0 : IntKind.i64.bits = 64 := rfl
  have e1 : min c.pf.length IntKind.i64.bits = c.pf.length := by rw [e0]; omega
  have hP : 2 ^ c.pf.length ≤ 2 ^ 12 := Nat.pow_le_pow_right (by omega) n2
  have a1 : IntKind.i64.wrap (1 * 2 ^ c.pf.length) = ((2 ^ c.pf.length : Nat) : Int) := by
    rw [Int.one_mul, show (2 : Int) ^ c.pf.length = ((2 ^ c.pf.length : Nat) : Int) by simp]
    generalize 2 ^ c.pf.length = z at hP ⊢
    exact wrap_in (by omega) (by omega)
  have u1 : IntKind.u64.wrap (c.pf.length : Int) = (c.pf.length : Int) := by
    exact nuw_in (by omega) (by omega)
  obtain ⟨P, hPd⟩ : ∃ P, P = 2 ^ c.pf.length := ⟨_, rfl⟩
  rw [← hPd] at hP a1 ⊢
  (have hg : (987654321 : Nat) - 987654321 = 0 := rfl; have hr := hg; repeat' (first | refine aw_seq ?_ | (refine aw_skip ?_; repeat' (first | with_reducible refine thenQ_n ?_ | with_reducible refine blockQ_n ?_ | with_reducible refine thenQ_e ?_ | with_reducible refine blockQ_t ?_ | with_reducible refine blockQ_f (by decide) ?_)) | (refine aw_exit ?_; repeat' (first | with_reducible refine thenQ_n ?_ | with_reducible refine blockQ_n ?_ | with_reducible refine thenQ_e ?_ | with_reducible refine blockQ_t ?_ | with_reducible refine blockQ_f (by decide) ?_)) | refine aw_ret ?_ | refine aw_block ?_ | refine aw_condT rfl ?_ | refine aw_condF rfl ?_ | ((first | refine aw_hide fun K hK => aw_region ?_ | refine acall0 (ck) ?_ | refine ago_if (by omega) ?_ | skip); simp (config := {maxSteps := 10000000}) (disch := first | exact okYes (by kernel_rfl) | omega) only [List.length, Nat.zero_add, Nat.reduceAdd, Nat.reduceMul, envOf, dI, ARun_none, AOpRun, aexec, D.isBot, FSt.ev, St.F, ↓eget_h, Bool.false_eq_true, Option.isSome, hget_n, or_self, ↓reduceIte, D.cells, AGo_ok, St.app, putO, eput_c, Nat.reduceBEq, eput_n, cond_false, hups, hput_n, List.map, ARun_nil, dropE_c, inL_n, dropE_n, eget_c, hget_c, beq_self_eq_true, cond_true, Nat.reduceLeDiff, List.drop, List.take, inL_c, isSh, Option.map, abin, bne_self_eq_false]) | (subst hK; repeat' (first | with_reducible refine thenQ_n ?_ | with_reducible refine blockQ_n ?_ | with_reducible refine thenQ_e ?_ | with_reducible refine blockQ_t ?_ | with_reducible refine blockQ_f (by decide) ?_))))
  clear ck
  refine aw_loop (fun s : Nat => ⟨[(1, dI cl), (2, dI tk), (3, .ptr 0 0), (9, .list (ints (ci ((bestK (hlB c cl) (cntN c tk) c.pf.length s).getD [])))), (10, dB (bestK (hlB c cl) (cntN c tk) c.pf.length s).isSome), (11, dI s)], [(0, [.list (cls c.cl), .list (sps c.pf)])], 24⟩) (fun s => s ≤ P) (fun s => P - s) ⟨0, by omega, ?_⟩ ?_
  · show Wk _ _ ⟨[_, _, _, (9, .list []), (10, dB false), _], _, _⟩
    unfold dI dB
    refine wk_to [] [(0, 0)] (by kernel_rfl) (by kernel_rfl) (by kernel_rfl) (by kernel_rfl) (by kernel_rfl) ?_ ?_ <;> repeat' (first | exact trivial | exact vr_val _ | exact vr_list _ | exact vr_nil | exact vr_ptr _ _ _ rfl | refine And.intro ⟨_, rfl, .inl ⟨_, rfl, by decide, ?_⟩⟩ ?_ | apply And.intro)
  intro s hs
  have hbln := best_len (hlB c cl) (cntN c tk) c.pf.length s
  have hbl0 := hbln
  have hnext := bestK_succ (hlB c cl) (cntN c tk) c.pf.length s
  by_cases hs2 : s < P
  case neg =>
    have hsP : s = P := by omega
    rw [← hsP]
    clear hnext hsP
    have ki : decide ((s : Int) < (P : Int)) = false := decide_eq_false (by omega)
    generalize bestK (hlB c cl) (cntN c tk) c.pf.length s = bb at *
    cases bb with
    | none =>
      dsimp only [Option.getD_none, Option.isSome_none]
      rw [show ints (ci []) = [] from rfl]
      (have hg : (987654321 : Nat) - 987654321 = 0 := rfl; have hr := hg; repeat' (first | refine aw_seq ?_ | (refine aw_skip ?_; repeat' (first | with_reducible refine thenQ_n ?_ | with_reducible refine blockQ_n ?_ | with_reducible refine thenQ_e ?_ | with_reducible refine blockQ_t ?_ | with_reducible refine blockQ_f (by decide) ?_)) | (refine aw_exit ?_; repeat' (first | with_reducible refine thenQ_n ?_ | with_reducible refine blockQ_n ?_ | with_reducible refine thenQ_e ?_ | with_reducible refine blockQ_t ?_ | with_reducible refine blockQ_f (by decide) ?_)) | refine aw_ret ?_ | refine aw_block ?_ | refine aw_condT rfl ?_ | refine aw_condF rfl ?_ | ((first | refine aw_hide fun K hK => aw_region ?_ | refine ago_if (by omega) ?_ | skip); simp (config := {maxSteps := 10000000}) (disch := first | exact okYes (by kernel_rfl) | omega) only [List.length, Nat.zero_add, Nat.reduceAdd, Nat.reduceMul, dI, dB, ARun_none, AOpRun, aexec, FSt.ev, St.F, eget_c, Nat.reduceBEq, ↓eget_h, cond_false, AGo_ok, St.app, putO, eput_c, eput_n, hups, List.map, Option.map, run1, hget_c, beq_self_eq_true, hget_n, cond_true, List.getElem?_cons_succ, List.getElem?_cons_zero, pfl, u1, isSh, ↓reduceIte, ash, Int.natCast_nonneg, Int.toNat_natCast, e1, a1, Bool.false_eq_true, abin, ki, ARun_nil, dropE_c, inL_c, inL_n, dropE_n, Bool.not_false, thenQ]) | (subst hK; repeat' (first | with_reducible refine thenQ_n ?_ | with_reducible refine blockQ_n ?_ | with_reducible refine thenQ_e ?_ | with_reducible refine blockQ_t ?_ | with_reducible refine blockQ_f (by decide) ?_))))
      refine end_to [] [] (by first | exact .inl rfl | exact .inr rfl) rfl (by kernel_rfl) (by kernel_rfl) (by kernel_rfl) ?_ ?_ <;> repeat' (first | exact trivial | exact vr_val _ | exact vr_nil | apply vr_tup | apply And.intro)
    | some b =>
      dsimp only [Option.getD_some, Option.isSome_some]
      generalize ints (ci b) = B at *
      (have hg : (987654321 : Nat) - 987654321 = 0 := rfl; have hr := hg; repeat' (first | refine aw_seq ?_ | (refine aw_skip ?_; repeat' (first | with_reducible refine thenQ_n ?_ | with_reducible refine blockQ_n ?_ | with_reducible refine thenQ_e ?_ | with_reducible refine blockQ_t ?_ | with_reducible refine blockQ_f (by decide) ?_)) | (refine aw_exit ?_; repeat' (first | with_reducible refine thenQ_n ?_ | with_reducible refine blockQ_n ?_ | with_reducible refine thenQ_e ?_ | with_reducible refine blockQ_t ?_ | with_reducible refine blockQ_f (by decide) ?_)) | refine aw_ret ?_ | refine aw_block ?_ | refine aw_condT rfl ?_ | refine aw_condF rfl ?_ | ((first | refine aw_hide fun K hK => aw_region ?_ | refine ago_if (by omega) ?_ | skip); simp (config := {maxSteps := 10000000}) (disch := first | exact okYes (by kernel_rfl) | omega) only [List.length, Nat.zero_add, Nat.reduceAdd, Nat.reduceMul, dI, dB, ARun_none, AOpRun, aexec, FSt.ev, St.F, eget_c, Nat.reduceBEq, ↓eget_h, cond_false, AGo_ok, St.app, putO, eput_c, eput_n, hups, List.map, Option.map, run1, hget_c, beq_self_eq_true, hget_n, cond_true, List.getElem?_cons_succ, List.getElem?_cons_zero, pfl, u1, isSh, ↓reduceIte, ash, Int.natCast_nonneg, Int.toNat_natCast, e1, a1, Bool.false_eq_true, abin, ki, ARun_nil, dropE_c, inL_c, inL_n, dropE_n, Bool.not_true]) | (subst hK; repeat' (first | with_reducible refine thenQ_n ?_ | with_reducible refine blockQ_n ?_ | with_reducible refine thenQ_e ?_ | with_reducible refine blockQ_t ?_ | with_reducible refine blockQ_f (by decide) ?_))))
      refine end_to [] [] (by first | exact .inl rfl | exact .inr rfl) rfl (by kernel_rfl) (by kernel_rfl) (by kernel_rfl) ?_ ?_ <;> repeat' (first | exact trivial | exact vr_val _ | exact vr_list _ | apply vr_tup | apply And.intro)
  have ki : decide ((s : Int) < (P : Int)) = true := decide_eq_true (by omega)
  have hw := hw s
  rw [hm s] at hw
  have hs4 : s < 4096 := by omega
  generalize bestK (hlB c cl) (cntN c tk) c.pf.length s = bb at *
  generalize hbl : bb.getD [] = bl at *
  generalize hfd : bb.isSome = fd at *
  refine aw_seq (aw_seq (aw_region ?_))
  simp (config := {maxSteps := 10000000}) (disch := first | exact okYes (by kernel_rfl) | omega) only [thenQ, dI, dB, Option.isSome, List.length, Nat.zero_add, Nat.reduceAdd, Nat.reduceMul, ARun_none, AOpRun, aexec, FSt.ev, St.F, eget_c, Nat.reduceBEq, ↓eget_h, cond_false, AGo_ok, St.app, putO, eput_c, eput_n, hups, List.map, Option.map, run1, hget_c, beq_self_eq_true, hget_n, cond_true, List.getElem?_cons_succ, List.getElem?_cons_zero, pfl, u1, isSh, ↓reduceIte, ash, Int.natCast_nonneg, Int.toNat_natCast, e1, a1, Bool.false_eq_true, abin, ki, ARun_nil, dropE_c, inL_c, inL_n, dropE_n]
  refine aw_condT rfl (aw_skip ?_)
  refine aw_seq (aw_block (aw_seq (aw_region ?_)))
  simp (config := {maxSteps := 10000000}) (disch := first | exact okYes (by kernel_rfl) | omega) only [thenQ, List.length, Nat.zero_add, Nat.reduceAdd, Nat.reduceMul, ARun_none, AOpRun, aexec, FSt.ev, St.F, eget_c, Nat.reduceBEq, ↓eget_h, cond_false, hget_c, beq_self_eq_true, hget_n, cond_true, Nat.reduceLeDiff, ↓reduceIte, List.drop, List.take, AGo_ok, St.app, putO, eput_c, eput_n, hups, List.map]
  refine acallB cc (by repeat' (first | exact trivial | exact rfl | refine And.intro ?_ ?_)) (by kernel_rfl) (by kernel_rfl) (by kernel_rfl) ?_
  simp (config := {maxSteps := 10000000}) (disch := first | exact okYes (by kernel_rfl) | omega) only [Nat.reduceAdd, St.app, putO, eput_c, Nat.reduceBEq, eput_n, cond_false, hups, hput_c, hput_n, List.map, List.append_nil, ARun_none, AOpRun, aexec, FSt.ev, St.F, eget_c, ↓eget_h, AGo_ok, ARun_nil, dropE_c, inL_c, inL_n, beq_self_eq_true, cond_true, dropE_n]
  refine aw_seq (aw_region ?_)
  simp (config := {maxSteps := 10000000}) (disch := first | exact okYes (by kernel_rfl) | omega) only [thenQ, List.length, Nat.zero_add, Nat.reduceMul, Nat.reduceAdd, ARun_none, AOpRun, aexec, FSt.ev, AGo_ok, St.app, putO, eput_c, Nat.reduceBEq, eput_n, cond_false, hups, List.map, ARun_nil, dropE_c, inL_n, dropE_n]
  refine aw_seq (aw_seq (aw_region ?_))
  simp (config := {maxSteps := 10000000}) (disch := first | exact okYes (by kernel_rfl) | omega) only [thenQ, List.length, Nat.zero_add, Nat.reduceMul, Nat.reduceAdd, ARun_none, AOpRun, aexec, FSt.ev, AGo_ok, St.app, putO, eput_c, Nat.reduceBEq, eput_n, cond_false, hups, List.map, ARun_nil, dropE_c, inL_n, dropE_n]
  refine aw_block ?_
  refine aw_loop (fun i : Nat => ⟨[(1, dI cl), (2, dI tk), (3, .ptr 0 0), (9, .list (ints (ci bl))), (10, dB fd), (11, dI s), (12, .vec 96 c.pf.length 1), (13, .vec 24 (moK (cntN c tk) s i).length 1), (14, dI i)], [(0, [.list (cls c.cl), .list (sps c.pf)]), (96, bcl (cnS c tk s i)), (24, icells (ci (moK (cntN c tk) s i)))], 600⟩) (fun i => i ≤ c.pf.length) (fun i => c.pf.length - i) ⟨0, by omega, ?_⟩ ?_
  · show Wk _ _ ⟨[_, _, _, _, _, _, _, (13, .vec 24 0 1), _], [_, _, (24, [])], _⟩
    rw [cnS_zero]
    have hcin := bcl_in (cnL c tk)
    unfold dI dB
    refine wk_to [] [(0, 0), (96, 96), (24, 900)] (by kernel_rfl) (by kernel_rfl) (by kernel_rfl) (by kernel_rfl) (by kernel_rfl) ?_ ?_ <;> repeat' (first | exact trivial | exact vr_val _ | exact vr_list _ | exact vr_vec _ _ _ _ rfl | exact vr_ptr _ _ _ rfl | exact vr_nilv _ _ _ rfl | refine And.intro ⟨_, rfl, .inl ⟨_, rfl, by decide, ?_⟩⟩ ?_ | refine And.intro ⟨_, rfl, .inr ⟨rfl, rfl, of_decide_eq_true (by kernel_rfl)⟩⟩ ?_ | apply And.intro | exact vrl_flat _ (by first | exact icells_in _ | exact rcells_in _ | exact scells_in _ | exact bcells_in _ | assumption))
  intro i hi
  have hCl := cnS_len c (tk : Int) s i
  have hMl := moK_len (cntN c tk) s i
  by_cases hi2 : i < c.pf.length
  case pos =>
    have hCi := cnS_at c (tk : Int) s i i hi2
    rw [decide_eq_false (Nat.lt_irrefl i), Bool.false_and, Bool.or_false] at hCi
    have gC := bc_gd (cnS c tk s i) i (by omega)
    rw [hCi] at gC
    have f1 : min i IntKind.i64.bits = i := by rw [e0]; omega
    have u2 : IntKind.u64.wrap (i : Int) = (i : Int) := nuw_in (by omega) (by omega)
    have hd : s / 2 ^ i ≤ s := Nat.div_le_self _ _
    have f2 : Int.fdiv (s : Int) (2 ^ i) = ((s / 2 ^ i : Nat) : Int) := fdiv_pow _ _
    have f3 : IntKind.i64.wrap ((BitVec.ofInt IntKind.i64.bits ((s / 2 ^ i : Nat) : Int) &&& BitVec.ofInt IntKind.i64.bits 1).toNat) = ((s / 2 ^ i &&& 1 : Nat) : Int) := and_nat _ 1 (by omega) (by omega)
    have f4 : (((s / 2 ^ i &&& 1 : Nat) : Int) == 1) = s.testBit i := by
      rw [Nat.and_one_is_mod, Nat.testBit_eq_decide_div_mod_eq]
      cases h : decide (s / 2 ^ i % 2 = 1) with
      | true => have := of_decide_eq_true h; simp only [beq_iff_eq]; omega
      | false => have := of_decide_eq_false h; simp only [beq_eq_false_iff_ne]; omega
    have ii : (i : Int) < (c.pf.length : Int) := by omega
    have i0 : (0 : Int) ≤ (i : Int) := by omega
    have hcc : (bcl (cnS c tk s i)).length = c.pf.length := (bcl_len _).trans hCl
    have hmt := moK_t (now := cntN c tk) (s := s) (k := i)
    have hmf := moK_f (now := cntN c tk) (s := s) (k := i)
    have hset := cnS_set c (tk : Int) s i hi2
    have hnot := cnS_not c (tk : Int) s i
    have hhad := cnS_had c (tk : Int) s i
    have hbc := bc_t (cnS c tk s i) i true (by omega)
    have hcin := bcl_in (cnS c tk s i)
    have hcin2 := bcl_in ((cnS c tk s i).set i true)
    rw [hnt i] at hmt hmf
    clear hnt hw hm cc hbln hbl0 hnext hCi
    have hM1 : (icells (ci (moK (cntN c tk) s i))).length = (moK (cntN c tk) s i).length := by rw [icells_len, ci_len]
    have hM2 : (icells (ci (moK (cntN c tk) s i))).take (moK (cntN c tk) s i).length = icells (ci (moK (cntN c tk) s i)) := List.take_of_length_le (by omega)
    have hM3 := icells_leaf (ci (moK (cntN c tk) s i))
    have hM4 := icells_in (ci (moK (cntN c tk) s i))
    have hM5 : ∀ y ∈ icells (ci (moK (cntN c tk) s i)) ++ [.val (.int .i64 (i : Int))], In (fun _ => False) y := by rw [ic_app]; exact icells_in _
    have hik : i + 1 ≤ c.pf.length := by omega
    have hMb : (moK (cntN c tk) s i).length ≤ 12 := by omega
    generalize hM : moK (cntN c tk) s i = M at *
    generalize hC : cnS c tk s i = C at *
    generalize hsi : s.testBit i = bs at *
    cases bs with
    | false =>
      have e2 := hmf rfl
      have e3 := hnot rfl
      (have hg : (987654321 : Nat) - 987654321 = 0 := rfl; have hr := hg; repeat' (first | refine aw_seq ?_ | (refine aw_skip ?_; repeat' (first | with_reducible refine thenQ_n ?_ | with_reducible refine blockQ_n ?_ | with_reducible refine thenQ_e ?_ | with_reducible refine blockQ_t ?_ | with_reducible refine blockQ_f (by decide) ?_)) | (refine aw_exit ?_; repeat' (first | with_reducible refine thenQ_n ?_ | with_reducible refine blockQ_n ?_ | with_reducible refine thenQ_e ?_ | with_reducible refine blockQ_t ?_ | with_reducible refine blockQ_f (by decide) ?_)) | refine aw_ret ?_ | refine aw_block ?_ | refine aw_condT rfl ?_ | refine aw_condF rfl ?_ | ((first | refine aw_hide fun K hK => aw_region ?_ | refine ago_if (by omega) ?_ | skip); simp (config := {maxSteps := 10000000}) (disch := first | exact okYes (by kernel_rfl) | omega) only [List.length, Nat.zero_add, Nat.reduceAdd, Nat.reduceMul, dI, dB, ARun_none, AOpRun, aexec, FSt.ev, St.F, eget_c, Nat.reduceBEq, ↓eget_h, cond_false, AGo_ok, St.app, putO, eput_c, eput_n, hups, List.map, isSh, Bool.false_eq_true, ↓reduceIte, Option.map, abin, ii, decide_true, ARun_nil, dropE_c, inL_c, inL_n, beq_self_eq_true, cond_true, dropE_n, u2, ash, i0, Int.toNat_natCast, f1, f2, f3, f4, ARun_some, AG_ft, fits]) | (subst hK; repeat' (first | with_reducible refine thenQ_n ?_ | with_reducible refine blockQ_n ?_ | with_reducible refine thenQ_e ?_ | with_reducible refine blockQ_t ?_ | with_reducible refine blockQ_f (by decide) ?_))))
      refine ⟨i + 1, by omega, by omega, ?_⟩
      rw [e2, e3]
      refine wk_to [] [(0, 0), (96, 96), (24, 24)] (by kernel_rfl) (by kernel_rfl) (by kernel_rfl) (by kernel_rfl) (by kernel_rfl) ?_ ?_ <;> repeat' (first | exact trivial | exact vr_val _ | exact vr_list _ | exact vr_vec _ _ _ _ rfl | exact vr_ptr _ _ _ rfl | refine And.intro ⟨_, rfl, .inl ⟨_, rfl, by decide, ?_⟩⟩ ?_ | apply And.intro | exact vrl_flat _ (by first | exact icells_in _ | exact rcells_in _ | exact scells_in _ | exact bcells_in _ | assumption))
    | true =>
    cases hbn : cntT c tk i with
    | true =>
      rw [hbn] at gC hmf
      have e2 := hmf rfl
      have e3 := hhad hbn
      (have hg : (987654321 : Nat) - 987654321 = 0 := rfl; have hr := hg; repeat' (first | refine aw_seq ?_ | (refine aw_skip ?_; repeat' (first | with_reducible refine thenQ_n ?_ | with_reducible refine blockQ_n ?_ | with_reducible refine thenQ_e ?_ | with_reducible refine blockQ_t ?_ | with_reducible refine blockQ_f (by decide) ?_)) | (refine aw_exit ?_; repeat' (first | with_reducible refine thenQ_n ?_ | with_reducible refine blockQ_n ?_ | with_reducible refine thenQ_e ?_ | with_reducible refine blockQ_t ?_ | with_reducible refine blockQ_f (by decide) ?_)) | refine aw_ret ?_ | refine aw_block ?_ | refine aw_condT rfl ?_ | refine aw_condF rfl ?_ | ((first | refine aw_hide fun K hK => aw_region ?_ | refine ago_if (by omega) ?_ | skip); simp (config := {maxSteps := 10000000}) (disch := first | exact okYes (by kernel_rfl) | omega) only [List.length, Nat.zero_add, Nat.reduceAdd, Nat.reduceMul, dI, dB, ARun_none, AOpRun, aexec, FSt.ev, St.F, eget_c, Nat.reduceBEq, ↓eget_h, cond_false, AGo_ok, St.app, putO, eput_c, eput_n, hups, List.map, isSh, Bool.false_eq_true, ↓reduceIte, Option.map, abin, ii, decide_true, ARun_nil, dropE_c, inL_c, inL_n, beq_self_eq_true, cond_true, dropE_n, u2, ash, i0, Int.toNat_natCast, f1, f2, f3, f4, ARun_some, AG_tt, and_self, Nat.mul_one, run1, hget_c, ↓hget_h, Nat.add_zero, gC, Bool.not_true, fits]) | (subst hK; repeat' (first | with_reducible refine thenQ_n ?_ | with_reducible refine blockQ_n ?_ | with_reducible refine thenQ_e ?_ | with_reducible refine blockQ_t ?_ | with_reducible refine blockQ_f (by decide) ?_))))
      refine ⟨i + 1, by omega, by omega, ?_⟩
      rw [e2, e3]
      refine wk_to [] [(0, 0), (96, 96), (24, 24)] (by kernel_rfl) (by kernel_rfl) (by kernel_rfl) (by kernel_rfl) (by kernel_rfl) ?_ ?_ <;> repeat' (first | exact trivial | exact vr_val _ | exact vr_list _ | exact vr_vec _ _ _ _ rfl | exact vr_ptr _ _ _ rfl | refine And.intro ⟨_, rfl, .inl ⟨_, rfl, by decide, ?_⟩⟩ ?_ | apply And.intro | exact vrl_flat _ (by first | exact icells_in _ | exact rcells_in _ | exact scells_in _ | exact bcells_in _ | assumption))
    | false =>
      rw [hbn] at gC hmt
      have e2 := hmt rfl
      have e3 := hset rfl
      (have hg : (987654321 : Nat) - 987654321 = 0 := rfl; have hr := hg; repeat' (first | refine aw_seq ?_ | (refine aw_skip ?_; repeat' (first | with_reducible refine thenQ_n ?_ | with_reducible refine blockQ_n ?_ | with_reducible refine thenQ_e ?_ | with_reducible refine blockQ_t ?_ | with_reducible refine blockQ_f (by decide) ?_)) | (refine aw_exit ?_; repeat' (first | with_reducible refine thenQ_n ?_ | with_reducible refine blockQ_n ?_ | with_reducible refine thenQ_e ?_ | with_reducible refine blockQ_t ?_ | with_reducible refine blockQ_f (by decide) ?_)) | refine aw_ret ?_ | refine aw_block ?_ | refine aw_condT rfl ?_ | refine aw_condF rfl ?_ | ((first | refine aw_hide fun K hK => aw_region ?_ | refine ago_if (by omega) ?_ | skip); simp (config := {maxSteps := 10000000}) (disch := first | exact okYes (by kernel_rfl) | omega) only [List.length, Nat.zero_add, Nat.reduceAdd, Nat.reduceMul, dI, dB, ARun_none, AOpRun, aexec, FSt.ev, St.F, eget_c, Nat.reduceBEq, ↓eget_h, cond_false, AGo_ok, St.app, putO, eput_c, eput_n, hups, List.map, isSh, Bool.false_eq_true, ↓reduceIte, Option.map, abin, ii, decide_true, ARun_nil, dropE_c, inL_c, inL_n, beq_self_eq_true, cond_true, dropE_n, u2, ash, i0, Int.toNat_natCast, f1, f2, f3, f4, ARun_some, AG_tt, and_self, Nat.mul_one, run1, hget_c, ↓hget_h, Nat.add_zero, gC, Bool.not_false, Option.isSome, hget_n, fillD, D.isBot, D.cells, ne_eq, not_true_eq_false, Nat.reduceGT, or_self, splice, List.take, List.nil_append, List.drop, List.append_nil, hput_c, hput_n, base, hM1, Nat.le_refl, hM2, elems, List.all, D.leaf, Bool.and_true, and_true, ups, List.cons_append, hdel_c, hdel_n, hcc, hik, hbc, fits]) | (subst hK; repeat' (first | with_reducible refine thenQ_n ?_ | with_reducible refine blockQ_n ?_ | with_reducible refine thenQ_e ?_ | with_reducible refine blockQ_t ?_ | with_reducible refine blockQ_f (by decide) ?_))))
      refine ⟨i + 1, by omega, by omega, ?_⟩
      have e4 : icells (ci (M ++ [i])) = icells (ci M) ++ [.val (.int .i64 (i : Int))] := by rw [ic_app]; unfold ci; rw [List.map_append]; rfl
      rw [e2, e3, e4, List.length_append, List.length_singleton]
      refine wk_to [] [(0, 0), (96, 96), (24, 760)] (by kernel_rfl) (by kernel_rfl) (by kernel_rfl) (by kernel_rfl) (by kernel_rfl) ?_ ?_ <;> repeat' (first | exact trivial | exact vr_val _ | exact vr_list _ | exact vr_vec _ _ _ _ rfl | exact vr_ptr _ _ _ rfl | refine And.intro ⟨_, rfl, .inl ⟨_, rfl, by decide, ?_⟩⟩ ?_ | apply And.intro | exact vrl_flat _ (by first | exact icells_in _ | exact rcells_in _ | exact scells_in _ | exact bcells_in _ | assumption))
  obtain rfl : i = c.pf.length := by omega
  have hmo : moreL (cntN c tk) c.pf.length s = moK (cntN c tk) s c.pf.length := rfl
  rw [hmo] at hnext hw
  have kz : decide ((c.pf.length : Int) < (c.pf.length : Int)) = false := decide_eq_false (by omega)
  have hcb := bcl_in (cnS c tk s c.pf.length)
  clear cc hm hnt hi hi2 a1 u1 e1 ki hbln
  clear hi
  have hbf : ∀ b, bb = some b → AC Try.prog 91 [.list (ints (ci (moK (cntN c tk) s c.pf.length))), .list (ints (ci b))] [] [] (dB (befB (moK (cntN c tk) s c.pf.length) b)) := fun b hb => before_ac _ _ (by omega) (by have := hbl0 b hb; omega)
  generalize moK (cntN c tk) s c.pf.length = M at *
  generalize hlB c cl (maskN (cntN c tk) M) = V at *
  generalize cnS c tk s c.pf.length = C at *
  (have hg : (987654321 : Nat) - 987654321 = 0 := rfl; have hr := hg; repeat' (first | refine aw_seq ?_ | (refine aw_skip ?_; repeat' (first | with_reducible refine thenQ_n ?_ | with_reducible refine blockQ_n ?_ | with_reducible refine thenQ_e ?_ | with_reducible refine blockQ_t ?_ | with_reducible refine blockQ_f (by decide) ?_)) | (refine aw_exit ?_; repeat' (first | with_reducible refine thenQ_n ?_ | with_reducible refine blockQ_n ?_ | with_reducible refine thenQ_e ?_ | with_reducible refine blockQ_t ?_ | with_reducible refine blockQ_f (by decide) ?_)) | refine aw_ret ?_ | refine aw_block ?_ | refine aw_condT rfl ?_ | refine aw_condF rfl ?_ | ((first | refine aw_hide fun K hK => aw_region ?_ | refine ago_if (by omega) ?_ | skip); simp (config := {maxSteps := 10000000}) (disch := first | exact okYes (by kernel_rfl) | omega) only [List.length, Nat.zero_add, Nat.reduceAdd, Nat.reduceMul, dI, dB, ARun_none, AOpRun, aexec, FSt.ev, St.F, eget_c, Nat.reduceBEq, ↓eget_h, cond_false, AGo_ok, St.app, putO, eput_c, eput_n, hups, List.map, isSh, Bool.false_eq_true, ↓reduceIte, Option.map, abin, kz, ARun_nil, dropE_c, inL_c, inL_n, beq_self_eq_true, cond_true, dropE_n, hget_c, hget_n, Nat.reduceLeDiff, List.drop, List.take, thenQ]) | (subst hK; repeat' (first | with_reducible refine thenQ_n ?_ | with_reducible refine blockQ_n ?_ | with_reducible refine thenQ_e ?_ | with_reducible refine blockQ_t ?_ | with_reducible refine blockQ_f (by decide) ?_))))
  cases V with
  | false =>
    rw [Bool.false_and, if_neg (by simp)] at hnext
    refine acall hw [96] ⟨.refl _, .refl _, vec_bools C (by simp) rfl hCl, trivial⟩ (.inr (.val _)) (by intro g hg; simp at hg; subst hg; exact ⟨_, rfl⟩) (by kernel_rfl) ?_
    simp (config := {maxSteps := 10000000}) (disch := first | exact okYes (by kernel_rfl) | omega) only [Nat.reduceAdd, St.app, putO, dB, eput_c, Nat.reduceBEq, eput_n, cond_false, hups, ARun_none, AOpRun, aexec, FSt.ev, St.F, eget_c, ↓eget_h, AGo_ok, List.map, ARun_some, AG_ft, AG_un, Bool.false_eq_true, ↓reduceIte, ARun_nil, dropE_c, inL_c, inL_n, beq_self_eq_true, cond_true, dropE_n]
    (have hg : (987654321 : Nat) - 987654321 = 0 := rfl; have hr := hg; repeat' (first | refine aw_seq ?_ | (refine aw_skip ?_; repeat' (first | with_reducible refine thenQ_n ?_ | with_reducible refine blockQ_n ?_ | with_reducible refine thenQ_e ?_ | with_reducible refine blockQ_t ?_ | with_reducible refine blockQ_f (by decide) ?_)) | (refine aw_exit ?_; repeat' (first | with_reducible refine thenQ_n ?_ | with_reducible refine blockQ_n ?_ | with_reducible refine thenQ_e ?_ | with_reducible refine blockQ_t ?_ | with_reducible refine blockQ_f (by decide) ?_)) | refine aw_ret ?_ | refine aw_block ?_ | refine aw_condT rfl ?_ | refine aw_condF rfl ?_ | ((first | refine aw_hide fun K hK => aw_region ?_ | refine ago_if (by omega) ?_ | skip); simp (config := {maxSteps := 10000000}) (disch := first | exact okYes (by kernel_rfl) | omega) only [List.length, Nat.zero_add, Nat.reduceAdd, Nat.reduceMul, ARun_none, AOpRun, aexec, FSt.ev, St.F, eget_c, Nat.reduceBEq, ↓eget_h, cond_false, AGo_ok, St.app, putO, eput_c, eput_n, hups, List.map, isSh, Bool.false_eq_true, ↓reduceIte, Option.map, abin, fits, beq_self_eq_true, cond_true, ARun_nil, dropE_c, inL_c, inL_n, dropE_n]) | (subst hK; repeat' (first | with_reducible refine thenQ_n ?_ | with_reducible refine blockQ_n ?_ | with_reducible refine thenQ_e ?_ | with_reducible refine blockQ_t ?_ | with_reducible refine blockQ_f (by decide) ?_))))
    refine ⟨s + 1, by omega, by omega, ?_⟩
    rw [hnext]
    subst hbl hfd
    refine wk_to [] [(0, 0)] (by kernel_rfl) (by kernel_rfl) (by kernel_rfl) (by kernel_rfl) (by kernel_rfl) ?_ ?_ <;> repeat' (first | exact trivial | exact vr_val _ | exact vr_list _ | exact vr_ptr _ _ _ rfl | refine And.intro ⟨_, rfl, .inl ⟨_, rfl, by decide, ?_⟩⟩ ?_ | apply And.intro)
  | true =>
  rw [Bool.true_and] at hnext
  cases bb with
  | none =>
    dsimp only [Option.isSome_none, Option.getD_none] at hfd hbl hnext
    rw [if_pos rfl] at hnext
    subst hbl hfd
    refine acall hw [96] ⟨.refl _, .refl _, vec_bools C (by simp) rfl hCl, trivial⟩ (.inr (.val _)) (by intro g hg; simp at hg; subst hg; exact ⟨_, rfl⟩) (by kernel_rfl) ?_
    simp (config := {maxSteps := 10000000}) (disch := first | exact okYes (by kernel_rfl) | omega) only [Nat.reduceAdd, St.app, putO, dB, eput_c, Nat.reduceBEq, eput_n, cond_false, hups, ARun_none, AOpRun, aexec, FSt.ev, St.F, eget_c, ↓eget_h, AGo_ok, List.map, ARun_some, AG_tt, Bool.not_false, AG_tf, ↓reduceIte, ARun_nil, dropE_c, inL_c, inL_n, beq_self_eq_true, cond_true, dropE_n]
    (have hg : (987654321 : Nat) - 987654321 = 0 := rfl; have hr := hg; repeat' (first | refine aw_seq ?_ | (refine aw_skip ?_; repeat' (first | with_reducible refine thenQ_n ?_ | with_reducible refine blockQ_n ?_ | with_reducible refine thenQ_e ?_ | with_reducible refine blockQ_t ?_ | with_reducible refine blockQ_f (by decide) ?_)) | (refine aw_exit ?_; repeat' (first | with_reducible refine thenQ_n ?_ | with_reducible refine blockQ_n ?_ | with_reducible refine thenQ_e ?_ | with_reducible refine blockQ_t ?_ | with_reducible refine blockQ_f (by decide) ?_)) | refine aw_ret ?_ | refine aw_block ?_ | refine aw_condT rfl ?_ | refine aw_condF rfl ?_ | ((first | refine aw_hide fun K hK => aw_region ?_ | refine ago_if (by omega) ?_ | skip); simp (config := {maxSteps := 10000000}) (disch := first | exact okYes (by kernel_rfl) | omega) only [List.length, Nat.zero_add, Nat.reduceAdd, Nat.reduceMul, ARun_none, AOpRun, aexec, FSt.ev, St.F, eget_c, Nat.reduceBEq, ↓eget_h, cond_false, AGo_ok, St.app, putO, eput_c, eput_n, hups, List.map, beq_self_eq_true, cond_true, ARun_nil, dropE_c, inL_c, inL_n, dropE_n, isSh, Bool.false_eq_true, ↓reduceIte, Option.map, abin, fits]) | (subst hK; repeat' (first | with_reducible refine thenQ_n ?_ | with_reducible refine blockQ_n ?_ | with_reducible refine thenQ_e ?_ | with_reducible refine blockQ_t ?_ | with_reducible refine blockQ_f (by decide) ?_))))
    refine ⟨s + 1, by omega, by omega, ?_⟩
    rw [hnext]
    dsimp only [Option.getD_some]
    refine wk_to [24] [(0, 0)] (by kernel_rfl) (by kernel_rfl) (by kernel_rfl) (by kernel_rfl) (by kernel_rfl) ?_ ?_ <;> repeat' (first | exact trivial | exact vr_val _ | exact vr_list _ | exact vr_ptr _ _ _ rfl | refine vr_fl _ _ _ _ _ (by decide) rfl ?_ ?_ ?_ ?_ | refine And.intro ⟨_, rfl, .inl ⟨_, rfl, by decide, ?_⟩⟩ ?_ | apply And.intro)
    all_goals first | exact ints_one _ | exact (ints_len _).trans (ci_len M) | exact ints_flat _ | exact icells_in _
  | some b =>
    dsimp only [Option.isSome_some, Option.getD_some] at hfd hbl hnext
    subst hbl hfd
    have hb := hbf b rfl
    cases hbv : befB M b with
    | false =>
      rw [hbv] at hb
      rw [if_neg (by rw [hbv]; simp)] at hnext
      refine acall hw [96] ⟨.refl _, .refl _, vec_bools C (by simp) rfl hCl, trivial⟩ (.inr (.val _)) (by intro g hg; simp at hg; subst hg; exact ⟨_, rfl⟩) (by kernel_rfl) ?_
      simp (config := {maxSteps := 10000000}) (disch := first | exact okYes (by kernel_rfl) | omega) only [Nat.reduceAdd, St.app, putO, dB, eput_c, Nat.reduceBEq, eput_n, cond_false, hups, ARun_none, AOpRun, aexec, FSt.ev, St.F, eget_c, ↓eget_h, AGo_ok, List.map, ARun_some, AG_tt, Bool.not_true, AG_ff]
      refine acall hb [24] ⟨vec_ints (ci M) (by simp) rfl (ci_len M), .refl _, trivial⟩ (.inr (.val _)) (by intro g hg; simp at hg; subst hg; exact ⟨_, rfl⟩) (by kernel_rfl) ?_
      simp (config := {maxSteps := 10000000}) (disch := first | exact okYes (by kernel_rfl) | omega) only [Nat.reduceAdd, St.app, putO, dB, eput_c, Nat.reduceBEq, eput_n, cond_false, hups, ARun_some, eget_c, ↓eget_h, AG_tt, AOpRun, aexec, FSt.ev, St.F, Bool.false_eq_true, ↓reduceIte, AGo_ok, List.map, ARun_none, ARun_nil, dropE_c, inL_c, inL_n, beq_self_eq_true, cond_true, dropE_n]
      (have hg : (987654321 : Nat) - 987654321 = 0 := rfl; have hr := hg; repeat' (first | refine aw_seq ?_ | (refine aw_skip ?_; repeat' (first | with_reducible refine thenQ_n ?_ | with_reducible refine blockQ_n ?_ | with_reducible refine thenQ_e ?_ | with_reducible refine blockQ_t ?_ | with_reducible refine blockQ_f (by decide) ?_)) | (refine aw_exit ?_; repeat' (first | with_reducible refine thenQ_n ?_ | with_reducible refine blockQ_n ?_ | with_reducible refine thenQ_e ?_ | with_reducible refine blockQ_t ?_ | with_reducible refine blockQ_f (by decide) ?_)) | refine aw_ret ?_ | refine aw_block ?_ | refine aw_condT rfl ?_ | refine aw_condF rfl ?_ | ((first | refine aw_hide fun K hK => aw_region ?_ | refine ago_if (by omega) ?_ | skip); simp (config := {maxSteps := 10000000}) (disch := first | exact okYes (by kernel_rfl) | omega) only [List.length, Nat.zero_add, Nat.reduceAdd, Nat.reduceMul, ARun_none, AOpRun, aexec, FSt.ev, St.F, eget_c, Nat.reduceBEq, ↓eget_h, cond_false, AGo_ok, St.app, putO, eput_c, eput_n, hups, List.map, isSh, Bool.false_eq_true, ↓reduceIte, Option.map, abin, fits, beq_self_eq_true, cond_true, ARun_nil, dropE_c, inL_c, inL_n, dropE_n]) | (subst hK; repeat' (first | with_reducible refine thenQ_n ?_ | with_reducible refine blockQ_n ?_ | with_reducible refine thenQ_e ?_ | with_reducible refine blockQ_t ?_ | with_reducible refine blockQ_f (by decide) ?_))))
      refine ⟨s + 1, by omega, by omega, ?_⟩
      rw [hnext]
      dsimp only [Option.getD_some]
      refine wk_to [] [(0, 0)] (by kernel_rfl) (by kernel_rfl) (by kernel_rfl) (by kernel_rfl) (by kernel_rfl) ?_ ?_ <;> repeat' (first | exact trivial | exact vr_val _ | exact vr_list _ | exact vr_ptr _ _ _ rfl | refine And.intro ⟨_, rfl, .inl ⟨_, rfl, by decide, ?_⟩⟩ ?_ | apply And.intro)
    | true =>
      rw [hbv] at hb
      rw [if_pos hbv] at hnext
      refine acall hw [96] ⟨.refl _, .refl _, vec_bools C (by simp) rfl hCl, trivial⟩ (.inr (.val _)) (by intro g hg; simp at hg; subst hg; exact ⟨_, rfl⟩) (by kernel_rfl) ?_
      simp (config := {maxSteps := 10000000}) (disch := first | exact okYes (by kernel_rfl) | omega) only [Nat.reduceAdd, St.app, putO, dB, eput_c, Nat.reduceBEq, eput_n, cond_false, hups, ARun_none, AOpRun, aexec, FSt.ev, St.F, eget_c, ↓eget_h, AGo_ok, List.map, ARun_some, AG_tt, Bool.not_true, AG_ff]
      refine acall hb [24] ⟨vec_ints (ci M) (by simp) rfl (ci_len M), .refl _, trivial⟩ (.inr (.val _)) (by intro g hg; simp at hg; subst hg; exact ⟨_, rfl⟩) (by kernel_rfl) ?_
      simp (config := {maxSteps := 10000000}) (disch := first | exact okYes (by kernel_rfl) | omega) only [Nat.reduceAdd, St.app, putO, dB, eput_c, Nat.reduceBEq, eput_n, cond_false, hups, ARun_some, eget_c, ↓eget_h, AG_tt, AOpRun, aexec, FSt.ev, St.F, Bool.false_eq_true, ↓reduceIte, AGo_ok, List.map, ARun_none, ARun_nil, dropE_c, inL_c, inL_n, beq_self_eq_true, cond_true, dropE_n]
      (have hg : (987654321 : Nat) - 987654321 = 0 := rfl; have hr := hg; repeat' (first | refine aw_seq ?_ | (refine aw_skip ?_; repeat' (first | with_reducible refine thenQ_n ?_ | with_reducible refine blockQ_n ?_ | with_reducible refine thenQ_e ?_ | with_reducible refine blockQ_t ?_ | with_reducible refine blockQ_f (by decide) ?_)) | (refine aw_exit ?_; repeat' (first | with_reducible refine thenQ_n ?_ | with_reducible refine blockQ_n ?_ | with_reducible refine thenQ_e ?_ | with_reducible refine blockQ_t ?_ | with_reducible refine blockQ_f (by decide) ?_)) | refine aw_ret ?_ | refine aw_block ?_ | refine aw_condT rfl ?_ | refine aw_condF rfl ?_ | ((first | refine aw_hide fun K hK => aw_region ?_ | refine ago_if (by omega) ?_ | skip); simp (config := {maxSteps := 10000000}) (disch := first | exact okYes (by kernel_rfl) | omega) only [List.length, Nat.zero_add, Nat.reduceAdd, Nat.reduceMul, ARun_none, AOpRun, aexec, FSt.ev, St.F, eget_c, Nat.reduceBEq, ↓eget_h, cond_false, AGo_ok, St.app, putO, eput_c, eput_n, hups, List.map, beq_self_eq_true, cond_true, ARun_nil, dropE_c, inL_c, inL_n, dropE_n, isSh, Bool.false_eq_true, ↓reduceIte, Option.map, abin, fits]) | (subst hK; repeat' (first | with_reducible refine thenQ_n ?_ | with_reducible refine blockQ_n ?_ | with_reducible refine thenQ_e ?_ | with_reducible refine blockQ_t ?_ | with_reducible refine blockQ_f (by decide) ?_))))
      refine ⟨s + 1, by omega, by omega, ?_⟩
      rw [hnext]
      dsimp only [Option.getD_some]
      refine wk_to [24] [(0, 0)] (by kernel_rfl) (by kernel_rfl) (by kernel_rfl) (by kernel_rfl) (by kernel_rfl) ?_ ?_ <;> repeat' (first | exact trivial | exact vr_val _ | exact vr_list _ | exact vr_ptr _ _ _ rfl | refine vr_fl _ _ _ _ _ (by decide) rfl ?_ ?_ ?_ ?_ | refine And.intro ⟨_, rfl, .inl ⟨_, rfl, by decide, ?_⟩⟩ ?_ | apply And.intro)
      all_goals first | exact ints_one _ | exact (ints_len _).trans (ci_len M) | exact ints_flat _ | exact icells_in _
end Go.Proofs.Ytdcodicoclecnaa
/- A weaker state within a region that draws its order. No conditions. -/
namespace Go.Proofs.Ytdcodicoclecnaa.Lift
open Go Go.RowKit

theorem wpAny_cut {P : Program} {ops : Array Oper} {base : Nat} {C : Ctx} {K fuel2 : Nat} {L0 : Array Bool} {R : FSt → Prop} {Q' : Exit → Act → World → Prop} (hd : ∀ o ∈ ops, ∀ d, o.dst = some d → d < C.n) (hpl : ∀ o ∈ ops, ∀ c, o.op ≠ .defer c)
    (hR : ∀ s a w β Z, RelS C β Z s a w → FreeB base (fun j => L0.getD j false = true) β → R s → wpAnyIn (Fw C.r) 0 P .any ops Q' fuel2 L0 a w) : ∀ (m : Nat) (listed : Array Bool) (s : FSt) (log : Log) (a : Act) (w : World) (β : Bet) (Z : Blk), listed.size = ops.size →
    RelS C β Z s a w → FreeB base (fun j => listed.getD j false = true) β → aUpTo P ops base K L0 R m listed s log → wpAnyIn (Fw C.r) 0 P .any ops Q' (m + fuel2) listed a w := by
  intro m
  induction m with
  | zero =>
    intro listed s log a w β Z hl h hf ha
    obtain ⟨rfl, h1, h2, h3⟩ := ha
    rw [Nat.zero_add]
    exact hR _ _ _ _ _ h hf h3
  | succ m ih =>
    intro listed s log a w β Z hl h hf ha
    obtain ⟨h1, ⟨j0, h2⟩, h3⟩ := ha
    rw [show m + 1 + fuel2 = (m + fuel2) + 1 by omega]
    refine ⟨fun h0 => (by rw [h0] at h2; cases h2), fun i hi => ?_⟩
    obtain ⟨hun, o, ho, _⟩ := mem_ready.1 hi
    obtain ⟨s', log', hst, hK⟩ := h3 i hi o ho
    have hlt : i < listed.size := by rw [hl]; exact (Array.getElem?_eq_some_iff.1 ho).1
    refine stepA_wpOp (done' := fun j => (listed.setIfInBounds i true).getD j false = true) ho h hd hpl hf ?_ (fun j hj => getD_set_true hj) (by simp [hlt]) hst fun β' Z' a' w' hr hf' => ih _ _ _ _ _ β' Z' (by simp [hl]) hr hf' hK
    simp [hlt] at hun ⊢
    exact hun
/-- the first operations lie before a certain one in each order, the others behind it: between them the state may be made weaker -/
theorem aw_region_cutD {rd : Bool} {P : Program} {n : Nat} {pre : List Nat} {Q : AExit → St → Prop} {s : St} (ops1 : List AOper) (o2 : AOper) (ops2 : List AOper) {drop : List Nat}
    (hg1 : (List.range ops1.length).all (fun i => o2.anc.contains i) = true) (hg2 : ops2.all (fun o => o.anc.contains ops1.length) = true)
    (h : ARun P true s.nx (fun s' => ∃ s0, Wk pre ⟨s'.env, s'.hp, s.nx + 8 * ops1.length⟩ s0 ∧ 8 * ops1.length ≤ s0.nx ∧ ARun P true (s0.nx - 8 * ops1.length) (fun s2 => Q .norm ⟨dropE s2.env drop, s2.hp, s0.nx + 8 * (ops2.length + 1)⟩) (o2 :: ops2) ops1.length s0 []) ops1 0 s []) :
    AWb rd P n pre (.region true (ops1 ++ o2 :: ops2) drop) Q s := fun code keep hc C a w hn hp hd hr => by
  cases code with
  | region id oa draw =>
    simp only [compCode] at hc
    split at hc
    · rename_i al hal
      split at hc
      · rename_i hcond
        cases hc
        obtain ⟨β, Z, hR0, hβ⟩ := hr
        simp only [if_true] at hal
        obtain ⟨hm1, hlexB⟩ := hcond.resolve_left (by simp)
        obtain ⟨ans, hans0⟩ : ∃ ans, ancGo oa.toList [] = ans := ⟨_, rfl⟩
        have hans : ∀ i j, j ∈ (ans[i]?).getD [] → Anc .any oa i j := hans0 ▸ ancGo_sound oa.toList [] (by simp) (by simp)
        rw [hans0] at hal
        obtain ⟨hd', hlen⟩ := compOps_dst _ _ _ hal
        have hpl := compOps_plain _ _ _ hal
        obtain ⟨l1, l2, hl, e1, e2, e3, e4⟩ := compOps_app _ _ _ _ hal
        rw [Nat.zero_add] at e4
        have hdo : ∀ o ∈ oa, ∀ d, o.dst = some d → d < C.n := fun o ho d hdd => hn ▸ hd' o (by simpa using ho) d hdd
        have hplo : ∀ o ∈ oa, ∀ c, o.op ≠ .defer c := fun o ho => hpl o (by simpa using ho)
        have hsz : oa.size = l1.length + l2.length := by have := congrArg List.length hl; simpa using this
        have hl2 : l2.length = ops2.length + 1 := by simpa using e2
        have hget : ∀ j, oa[j]? = (l1 ++ l2)[j]? := fun j => by rw [← hl, Array.getElem?_toList]
        have hKlt : l1.length < oa.size := by omega
        have hancK : o2.anc = (ans[ops1.length]?).getD [] := by
          have := compOps_anc _ _ _ hal ops1.length (by simp)
          simpa using this
        have hanc : ∀ i, i < l1.length → Anc .any oa l1.length i := fun i hi => by
          refine hans _ _ ?_
          rw [e1, ← hancK]
          have := List.all_eq_true.1 hg1 i (by simp; omega)
          simpa using this
        have hdesc : ∀ j, l1.length < j → j < oa.size → Anc .any oa j l1.length := fun j hj hjs => by
          obtain ⟨m, rfl⟩ : ∃ m, j = l1.length + (m + 1) := ⟨j - l1.length - 1, by omega⟩
          have hm : m < ops2.length := by omega
          have h1 := compOps_anc _ _ _ hal (ops1.length + (m + 1)) (by simp; omega)
          rw [List.getElem_append_right (by omega)] at h1
          simp only [Nat.add_sub_cancel_left, List.getElem_cons_succ, Nat.zero_add] at h1
          refine hans _ _ ?_
          rw [e1, ← h1]
          have := List.all_eq_true.1 hg2 _ (List.getElem_mem hm)
          simpa using this
        have hlex : Region.lexFrom .any oa oa.size 0 (firstL oa.size 0) = true := by
          simp only [Region.lexB, Bool.and_eq_true] at hlexB
          rw [firstL_zero]; simpa using hlexB.2
        have hR : RelS C β Z s.F a { w with drawn := w.drawn + 1 } := by
          have h := hR0
          have f : Fr (fun _ => False) w { w with drawn := w.drawn + 1 } := Fr.drawn _ _ _
          exact ⟨h.size, ⟨h.defers.1, fun d hd => (h.defers.2 d hd).mono f (fun _ _ h => h.elim) (fun _ _ h => h)⟩, fun t => (h.env t).mono f (fun _ _ h => h.elim) (Ext.refl β) (fun _ _ h => h), fun g c hc => (h.objs g c hc).mono f (fun _ _ h => h.elim) (fun _ _ h => h) (Ext.refl β) (fun h => h) (fun _ _ => Iff.rfl), h.inj,
            h.fr.trans f (fun _ _ h => h.elim), h.z0, h.old, h.orig, h.ext, h.zlt⟩
        refine wpIn_region_any hm1 ?_
        have hup := wpAny_cut (P := P) (ops := oa) (base := s.nx) (C := C) (K := l1.length) (fuel2 := l2.length) (L0 := firstL oa.size l1.length) (Q' := PostQ C Q) hdo hplo ?_ l1.length (firstL oa.size 0) s.F (fun _ _ => False) a { w with drawn := w.drawn + 1 } β Z (firstL_size _ _) hR (fun g hg hn => absurd (hβ g hg) hn)
          (aUpTo_lex hanc hdesc hKlt l1 0 s.F _ (by simp) (lex_at hlex 0 (by omega)).1 (fun j hj => by rw [Nat.zero_add, hget, List.getElem?_append_left hj]) (by simpa using hlex) (arun_lex hans l1 ops1 0 s [] _ e3 (fun j ef hf => hf.elim) h))
        · rw [firstL_zero, ← hsz] at hup; exact hup
        rintro fs a1 w1 β1 Z1 hR1 hF ⟨s1, rfl, _, s0, hwk, hge, hrun⟩
        obtain ⟨β0, Z0, hR2, hβ0⟩ := hwk C a1 w1 hp ⟨β1, Z1, hR1, fun g hg => by
          cases hb : β1 g with
          | none => rfl
          | some B =>
            simp only at hg
            obtain ⟨j, hj, h1, h2⟩ := hF g (by omega) (by rw [hb]; simp)
            rw [firstL_get] at hj
            split at hj
            · have := of_decide_eq_true hj; omega
            · cases hj⟩
        refine wpAny_of_aAny (P := P) (ops := oa) (dr := true) (base := s0.nx - 8 * ops1.length) (C := C) (Q' := PostQ C Q) hdo hplo
          (Q := fun fs => ∃ s3 : St, fs = s3.F ∧ s3.nx = s0.nx ∧ Q .norm ⟨dropE s3.env _, s3.hp, s0.nx + 8 * (ops2.length + 1)⟩) ?_ l2.length (firstL oa.size l1.length) _ (fun _ _ => False) _ _ β0 Z0 (firstL_size _ _) hR2 (fun g' hg' hn0 => by
            by_cases hgn : s0.nx ≤ g'
            · exact absurd (hβ0 g' hgn) hn0
            · refine ⟨(g' - (s0.nx - 8 * ops1.length)) / 8, ?_, ?_, ?_⟩
              · show (firstL _ _).getD _ _ = true; rw [firstL_get, if_pos (by omega)]; exact decide_eq_true (by omega)
              · omega
              · omega)
          (aAny_lex rfl l2 l1.length _ _ _ (lex_at hlex l1.length (by omega)).1 (fun j => by rw [hget, List.getElem?_append_right (by omega)]; simp)
            (by have := (lex_at hlex l1.length (by omega)).2; rwa [show oa.size - l1.length = l2.length by omega] at this)
            (arun_lex hans l2 (o2 :: ops2) l1.length s0 [] _ (by rw [e1]; exact e4) (fun j ef hf => hf.elim) (by rw [e1]; exact hrun)))
        rintro fs a4 w5 β4 Z4 hR5 hF5 ⟨s3, rfl, _, hQ⟩
        refine ⟨_, hQ, β4, Z4, ⟨hR5.size, hR5.defers, fun t => ?_, hR5.objs, hR5.inj, hR5.fr, hR5.z0, hR5.old, hR5.orig, hR5.ext, hR5.zlt⟩, fun g' hg' => ?_⟩
        · show Rep w5 β4 Z4 _ (eget (dropE s3.env _) t)
          rcases get_drop s3.env _ t with h1 | h1
          · rw [h1]; exact hR5.env t
          · rw [h1]; exact .bot _
        · cases hb : β4 g' with
          | none => rfl
          | some B =>
            simp only at hg'
            obtain ⟨j, hj, h1, h2⟩ := hF5 g' (by omega) (by rw [hb]; simp)
            omega
      · cases hc
    · cases hc
  | seq a b => simp only [compCode] at hc; split at hc <;> cases hc
  | cond c a b => simp only [compCode] at hc; split at hc <;> cases hc
  | block id a => simp [compCode] at hc
  | loop a => simp [compCode] at hc
  | rangeFunc x1 x2 x3 x4 => simp only [compCode] at hc; repeat' (first | (cases hc; done) | split at hc)
  | _ => cases hc
end Go.Proofs.Ytdcodicoclecnaa.Lift
