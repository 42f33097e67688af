/- Texts of the law TopHeard, part 10. No conditions. -/
import Derived.Test.YtgibbaadjbohdaaPTopHeard09
import Derived.WalkKit
import Derived.WalkSpells
import Derived.WalkLawsBesides
import Derived.Deep.QuietTactic
import Derived.BigQuiet
import Derived.Lib.Hide
import Derived.Deep.RegionHeld3
import Derived.Laws.EntriesVeiled
import Derived.Test.YtgibbaadjbohdaaRows
import Derived.StillTailTactics
/- record: Shake, all answers; the document's Series, Shaken, Shake. No conditions. -/
set_option linter.unusedSimpArgs false
set_option linter.unusedVariables false
namespace Go.Proofs.Ytgibbaadjbohdaa
open Go Go.RowKit Lift

def shV (l : Lay) (frs : List (List Int)) (x : Int) : List Int := smV l (fAt l x.toNat) frs frs.length
def shM (l : Lay) (frs : List (List Int)) (x y : Int) : List Int := smM l (fAt l x.toNat) (fAt l y.toNat) frs frs.length
noncomputable def shL (l : Lay) (frs : List (List Int)) (x y pts : Int) : List Int := if wfE l frs [x, y] = 0 then avL (shV l frs x) (shM l frs x y) pts else []
noncomputable def shD (l : Lay) (frs : List (List Int)) (x y pts : Int) : Int := if wfE l frs [x, y] = 0 then avD (shV l frs x) (shM l frs x y) pts else 0
noncomputable def shE (l : Lay) (frs : List (List Int)) (x y pts : Int) : Int := if wfE l frs [x, y] = 0 then avE (shV l frs x) (shM l frs x y) pts else wfE l frs [x, y]
theorem wfE_two {l : Lay} {frs : List (List Int)} {x y : Int} (h : wfE l frs [x, y] = 0) : LayOk l ∧ frs.length ≤ 200 ∧ tpE l frs = 0 ∧ wI x 0 ((l.fl.length : Int) - 1) = true ∧ wI y 0 ((l.fl.length : Int) - 1) = true := by
  unfold wfE at h
  rcases tpE_cases l frs with ⟨h0, h1, h2⟩ | ⟨h0, _⟩
  · rw [if_pos h0] at h
    cases hh : hasA l [x, y] with
    | false => rw [hh] at h; cases h
    | true =>
      rw [hasA_two, Bool.and_eq_true] at hh
      exact ⟨h1, h2, h0, hh.1, hh.2⟩
  · rw [if_neg h0] at h; exact absurd h h0
set_option maxRecDepth 100000 in
set_option maxHeartbeats 4000000 in
theorem shake_err (l : Lay) (frs : List (List Int)) (x y pts : Int) (hl : LayIn l) (he : wfE l frs [x, y] ≠ 0) (hf : FrIn frs) : AC Try.prog 24 [layD l, .list (rows frs), dI x, dI y, dI pts] [] [] (.tup [.list (ints []), dI 0, dI (wfE l frs [x, y])]) := by
  refine krecord_Shake.ac (n0 := 0) (by simp) ⟨in_layD _ _, .list _, .val _, .val _, .val _, trivial⟩ trivial rfl ?_
  unfold crecord_Shake layD layC
  have nt := withField_err l frs [x, y] hl hf (Nat.le_of_ble_eq_true rfl) he
  have h1 : (wfE l frs [x, y] != 0) = true := by simpa using he
  generalize wfE l frs [x, y] = E at *
  refine aw_seq (aw_region ?_)
  simp (config := {maxSteps := 10000000}) (disch := first | exact okYes (by kernel_rfl) | omega) only [thenQ, List.map, dI, List.length, Nat.zero_add, Nat.reduceAdd, Nat.reduceMul, envOf, ARun_none, AOpRun, aexec, D.isBot, FSt.ev, St.F, ↓eget_h, Bool.false_eq_true, Option.isSome, hget_n, or_self, ↓reduceIte, D.cells, AGo_ok, St.app, putO, eput_c, Nat.reduceBEq, eput_n, cond_false, hups, hput_n, ARun_nil, dropE_c, inL_n, dropE_n]
  refine aw_seq (aw_region ?_)
  simp (config := {maxSteps := 10000000}) (disch := first | exact okYes (by kernel_rfl) | omega) only [thenQ, List.length, Nat.zero_add, Nat.reduceAdd, Nat.reduceMul, ARun_none, AOpRun, aexec, FSt.ev, St.F, eget_c, Nat.reduceBEq, ↓eget_h, cond_false, hget_c, beq_self_eq_true, hget_n, cond_true, Nat.reduceLeDiff, ↓reduceIte, List.drop, List.take, AGo_ok, St.app, putO, eput_c, eput_n, hups, List.map, Option.isSome, Bool.false_eq_true, Option.map, fillD, D.isBot, D.cells, ne_eq, not_true_eq_false, Nat.reduceGT, or_self, splice, List.nil_append, List.cons_append, List.append_nil, hput_c, hput_n]
  refine acall nt [64] ⟨.refl _, .refl _, vec_ints [x, y] (by simp) rfl rfl, trivial⟩ (.inr (.tup _ (by intro d hd; simp at hd; rcases hd with rfl | rfl <;> exact .val _))) (by intro g hg; simp at hg; subst hg; exact ⟨_, rfl⟩) (by kernel_rfl) ?_
  simp (config := {maxSteps := 10000000}) (disch := first | exact okYes (by kernel_rfl) | omega) only [Nat.reduceAdd, St.app, putO, dI, eput_c, Nat.reduceBEq, eput_n, cond_false, hups, ARun_none, AOpRun, aexec, FSt.ev, St.F, eget_c, ↓eget_h, AGo_ok, List.map, opt1, Option.map, List.getElem?_cons_zero, List.getElem?_cons_succ, beq_self_eq_true, cond_true, ARun_nil, dropE_c, inL_c, inL_n, dropE_n]
  (have hg : (987654321 : Nat) - 987654321 = 0 := rfl; have hr := hg; repeat' (first | refine aw_seq ?_ | (refine aw_skip ?_; with_reducible repeat' (first | refine thenQ_n ?_ | refine blockQ_n ?_ | refine thenQ_e ?_ | refine blockQ_t ?_ | refine blockQ_f (by decide) ?_)) | (refine aw_exit ?_; with_reducible repeat' (first | refine thenQ_n ?_ | refine blockQ_n ?_ | refine thenQ_e ?_ | refine blockQ_t ?_ | refine blockQ_f (by decide) ?_)) | refine aw_ret ?_ | refine aw_block ?_ | refine aw_condT rfl ?_ | refine aw_condF rfl ?_ | ((first | refine aw_hide fun K hK => aw_region ?_ | refine ago_if (by omega) ?_ | skip); simp (config := {maxSteps := 10000000}) (disch := first | exact okYes (by kernel_rfl) | omega) only [List.length, Nat.zero_add, Nat.reduceAdd, Nat.reduceMul, ARun_none, AOpRun, aexec, FSt.ev, St.F, eget_c, Nat.reduceBEq, ↓eget_h, cond_false, AGo_ok, St.app, putO, eput_c, eput_n, hups, List.map, isSh, Bool.false_eq_true, ↓reduceIte, Option.map, abin, h1, ARun_nil, dropE_c, inL_c, inL_n, beq_self_eq_true, cond_true, dropE_n, thenQ]) | (subst hK; with_reducible repeat' (first | refine thenQ_n ?_ | refine blockQ_n ?_ | refine thenQ_e ?_ | refine blockQ_t ?_ | refine blockQ_f (by decide) ?_))))
  (refine end_to [] [] (by first | exact .inl rfl | exact .inr rfl) rfl (by kernel_rfl) (by kernel_rfl) (by kernel_rfl) ?_ ?_ <;> repeat' (first | exact trivial | exact vr_val _ | exact vr_nil | apply vr_tup | apply And.intro))
theorem shake_ac (l : Lay) (frs : List (List Int)) (x y pts : Int) (hl : LayIn l) (hf : FrIn frs) : AC Try.prog 24 [layD l, .list (rows frs), dI x, dI y, dI pts] [] [] (.tup [.list (ints (shL l frs x y pts)), dI (shD l frs x y pts), dI (shE l frs x y pts)]) := by
  unfold shL shD shE
  by_cases h : wfE l frs [x, y] = 0
  · obtain ⟨h1, h2, _, hx, hy⟩ := wfE_two h
    have hx := wI_t hx
    have hy := wI_t hy
    obtain ⟨a, rfl⟩ : ∃ a : Nat, x = a := ⟨x.toNat, by omega⟩
    obtain ⟨b, rfl⟩ : ∃ b : Nat, y = b := ⟨y.toNat, by omega⟩
    rw [if_pos h, if_pos h, if_pos h]
    unfold shV shM
    rw [Int.toNat_natCast, Int.toNat_natCast]
    exact shake_ok l frs a b pts hl h1 h2 hf (by omega) (by omega)
  · rw [if_neg h, if_neg h, if_neg h]
    exact shake_err l frs x y pts hl h hf
/-- the marks, as the document finds them -/
def hitB (p : Int) (x : Int × Int) : Bool := x.1 == p && x.2 != 0
def mkRr (s m : List (Int × Int)) : Nat → List Int
  | 0 => []
  | i + 1 => mkRr s m i ++ (m.filter (hitB (lo s i))).map fun _ => (i : Int)
def mkI (s m : List (Int × Int)) (i k : Nat) : List Int := mkRr s m i ++ ((m.take k).filter (hitB (lo s i))).map fun _ => (i : Int)
theorem mkI_zero (s m : List (Int × Int)) (i : Nat) : mkI s m i 0 = mkRr s m i := by simp [mkI]
theorem mkI_end (s m : List (Int × Int)) (i : Nat) : mkI s m i m.length = mkRr s m (i + 1) := by simp [mkI, mkRr]
theorem mkI_succ (s m : List (Int × Int)) (i k : Nat) (hk : k < m.length) : mkI s m i (k + 1) = if hitB (lo s i) (lo m k, hi m k) = true then mkI s m i k ++ [(i : Int)] else mkI s m i k := by
  unfold mkI
  rw [List.take_add_one, List.getElem?_eq_getElem hk, Option.toList_some, List.filter_append, List.map_append, ← List.append_assoc]
  have e : m[k] = (lo m k, hi m k) := by simp [lo, hi, hk]
  rw [e]
  cases h : hitB (lo s i) (lo m k, hi m k) <;> simp [h]
theorem mkRr_len (s m : List (Int × Int)) (hm : m.length ≤ 200) : ∀ i, (mkRr s m i).length ≤ 200 * i
  | 0 => Nat.le_refl _
  | i + 1 => by
    have := mkRr_len s m hm i
    have := List.length_filter_le (hitB (lo s i)) m
    simp only [mkRr, List.length_append, List.length_map]
    omega
theorem mkI_len (s m : List (Int × Int)) (hm : m.length ≤ 200) (i k : Nat) : (mkI s m i k).length ≤ 200 * i + 200 := by
  have := mkRr_len s m hm i
  have := List.length_filter_le (hitB (lo s i)) (m.take k)
  have : (m.take k).length ≤ m.length := by rw [List.length_take]; omega
  simp only [mkI, List.length_append, List.length_map]
  omega
theorem mkRr_app (s t m : List (Int × Int)) : ∀ i, i ≤ s.length → mkRr (s ++ t) m i = mkRr s m i
  | 0, _ => rfl
  | i + 1, h => by
    have e : lo (s ++ t) i = lo s i := by simp [lo, List.getElem?_append_left (show i < s.length by omega)]
    simp only [mkRr]
    rw [mkRr_app s t m i (by omega), e]
theorem filt_map (l : Lay) (g : Fl) (frs : List (List Int)) (c : Int) (i : Nat) : ∀ n, ((smps l g frs n).filter (hitB (i : Int))).map (fun _ => c) = if i < n ∧ mkB l g (frm frs i) = true then [c] else []
  | 0 => by rw [if_neg (by omega)]; rfl
  | n + 1 => by
    rw [smps_succ, List.filter_append, List.map_append, filt_map l g frs c i n]
    cases hs : smp l g (frm frs n) with
    | none =>
      have hb : mkB l g (frm frs n) = false := by unfold mkB; rw [hs]
      simp only [List.filter_nil, List.map_nil, List.append_nil]
      by_cases h : i = n
      · subst h
        rw [if_neg (by omega), if_neg (by rw [hb]; simp)]
      · congr 1
        simp only [eq_iff_iff]
        constructor <;> rintro ⟨h1, h2⟩ <;> exact ⟨by omega, h2⟩
    | some v =>
      have hb : mkB l g (frm frs n) = (v != 0) := by unfold mkB; rw [hs]
      by_cases h : i = n
      · subst h
        rw [if_neg (by omega), hb]
        cases hv : (v != 0) with
        | true => simp [hitB, hv]
        | false => simp [hitB, hv]
      · have hh : hitB (i : Int) ((n : Int), v) = false := by
          have : ((n : Int) == (i : Int)) = false := by simp only [beq_eq_false_iff_ne]; omega
          simp [hitB, this]
        simp only [List.filter_cons, hh, List.filter_nil, List.map_nil, List.append_nil, if_false, Bool.false_eq_true]
        congr 1
        simp only [eq_iff_iff]
        constructor <;> rintro ⟨h1, h2⟩ <;> exact ⟨by omega, h2⟩
theorem mkRr_smM (l : Lay) (f g : Fl) (frs : List (List Int)) (n : Nat) : ∀ k, k ≤ n → mkRr (smps l f frs k) (smps l g frs n) (smps l f frs k).length = smM l f g frs k
  | 0, _ => rfl
  | k + 1, hk => by
    have ih := mkRr_smM l f g frs n k (by omega)
    rw [smps_succ]
    simp only [smM]
    cases hs : smp l f (frm frs k) with
    | none => simp only [List.append_nil]; exact ih
    | some v =>
      simp only [List.length_append, List.length_cons, List.length_nil, Nat.zero_add]
      have e : lo (smps l f frs k ++ [((k : Int), v)]) (smps l f frs k).length = (k : Int) := by simp [lo]
      simp only [mkRr]
      rw [mkRr_app _ _ _ _ (Nat.le_refl _), ih, e, filt_map]
      by_cases hb : mkB l g (frm frs k) = true
      · rw [if_pos ⟨by omega, hb⟩, if_pos hb]
      · rw [if_neg (fun h => hb h.2), if_neg hb, List.append_nil]
theorem ict (b : List Int) (k : Nat) (h : k < b.length) : icells (b.take (k + 1)) = icells (b.take k) ++ [.val (.int .i64 (b[k]?.getD 0))] := by
  have e : b.take (k + 1) = b.take k ++ [b[k]?.getD 0] := by rw [List.take_add_one]; simp [h]
  rw [e, ic_app]
set_option maxRecDepth 100000 in
set_option maxHeartbeats 2000000 in
theorem rseries_ac (s : List (Int × Int)) (hs : s.length ≤ 1000000) : AC Try.prog 63 [.list (sps s)] [] [] (.list (ints (s.map (·.2)))) := by
  refine kref12_Series.ac (n0 := 0) (by simp) ⟨.list _, trivial⟩ trivial rfl ?_
  unfold cref12_Series
  have hl : (s.map (·.2)).length = s.length := by simp
  refine aw_seq (aw_region ?_)
  simp (config := {maxSteps := 10000000}) (disch := first | exact okYes (by kernel_rfl) | omega) only [thenQ, List.map, List.length, Nat.zero_add, Nat.reduceMul, envOf, ARun_none, AOpRun, aexec, FSt.ev, AGo_ok, St.app, putO, eput_c, Nat.reduceBEq, eput_n, cond_false, hups, ARun_nil, dropE_c, inL_n, dropE_n]
  refine aw_seq (aw_region ?_)
  simp (config := {maxSteps := 10000000}) (disch := first | exact okYes (by kernel_rfl) | omega) only [thenQ, List.length, Nat.zero_add, Nat.reduceMul, Nat.reduceAdd, ARun_none, AOpRun, aexec, FSt.ev, AGo_ok, St.app, putO, eput_c, Nat.reduceBEq, eput_n, cond_false, hups, List.map, ARun_nil, dropE_c, inL_n, dropE_n]
  refine aw_seq (aw_seq (aw_region ?_))
  simp (config := {maxSteps := 10000000}) (disch := first | exact okYes (by kernel_rfl) | omega) only [thenQ, List.length, Nat.zero_add, Nat.reduceMul, Nat.reduceAdd, ARun_none, AOpRun, aexec, FSt.ev, AGo_ok, St.app, putO, eput_c, Nat.reduceBEq, eput_n, cond_false, hups, List.map, ARun_nil, dropE_c, inL_n, dropE_n]
  refine aw_block (aw_loop (fun k : Nat => ⟨[(0, .list (sps s)), (3, .vec 40 k 1), (4, dI k)], [(40, icells ((s.map (·.2)).take k))], 400⟩) (fun k => k ≤ s.length) (fun k => s.length - k) ⟨0, by omega, ?_⟩ ?_)
  · show Wk _ _ ⟨[_, _, _], [(40, [])], _⟩
    unfold dI
    refine wk_to [] [(40, 900)] (by kernel_rfl) (by kernel_rfl) (by kernel_rfl) (by kernel_rfl) (by kernel_rfl) ?_ ?_ <;> repeat' (first | exact trivial | exact vr_val _ | exact vr_list _ | exact vr_nilv _ _ _ rfl | refine And.intro ⟨_, rfl, .inr ⟨rfl, rfl, of_decide_eq_true (by kernel_rfl)⟩⟩ ?_ | apply And.intro)
  intro k hk
  by_cases hk2 : k < s.length
  case neg =>
    obtain rfl : k = s.length := by omega
    rw [List.take_of_length_le (Nat.le_of_eq hl)]
    generalize s.map (·.2) = V at *
    (have hg : (987654321 : Nat) - 987654321 = 0 := rfl; have hr := hg; repeat' (first | refine aw_seq ?_ | (refine aw_skip ?_; with_reducible repeat' (first | refine thenQ_n ?_ | refine blockQ_n ?_ | refine thenQ_e ?_ | refine blockQ_t ?_ | refine blockQ_f (by decide) ?_)) | (refine aw_exit ?_; with_reducible repeat' (first | refine thenQ_n ?_ | refine blockQ_n ?_ | refine thenQ_e ?_ | refine blockQ_t ?_ | refine blockQ_f (by decide) ?_)) | refine aw_ret ?_ | refine aw_block ?_ | refine aw_condT rfl ?_ | refine aw_condF rfl ?_ | (refine aw_cond rfl (fun hg => ?_) (fun hg => ?_) <;> (try (have hq := hg; simp only [Bool.not_eq_true', Bool.not_eq_false', Bool.and_eq_true, Bool.and_eq_false_iff, Bool.or_eq_true, Bool.or_eq_false_iff, decide_eq_true_eq, decide_eq_false_iff_not, bne_iff_ne, beq_iff_eq, beq_eq_false_iff_ne, bne_eq_false_iff_eq, ne_eq, Int.not_lt, Int.not_le, Decidable.not_not] at hq)) <;> (try (have hr := hg; simp only [decide_eq_true_eq, decide_eq_false_iff_not] at hr)) <;> (try (exfalso; omega))) | ((first | refine aw_hide fun K hK => aw_region ?_ | refine ago_if (by omega) ?_ | skip); simp (config := {maxSteps := 10000000}) (disch := first | exact okYes (by kernel_rfl) | omega) only [List.length, Nat.zero_add, Nat.reduceAdd, Nat.reduceMul, dI, ARun_none, AOpRun, aexec, FSt.ev, St.F, eget_c, Nat.reduceBEq, ↓eget_h, cond_false, AGo_ok, St.app, putO, eput_c, eput_n, hups, List.map, sps_len, isSh, Bool.false_eq_true, ↓reduceIte, Option.map, abin, ARun_nil, dropE_c, inL_c, inL_n, beq_self_eq_true, cond_true, dropE_n, hr, decide_false]) | (subst hK; with_reducible repeat' (first | refine thenQ_n ?_ | refine blockQ_n ?_ | refine thenQ_e ?_ | refine blockQ_t ?_ | refine blockQ_f (by decide) ?_))))
    refine end_to [40] [] (by first | exact .inl rfl | exact .inr rfl) rfl (by kernel_rfl) (by kernel_rfl) (by kernel_rfl) ?_ ?_ <;> repeat' (first | exact trivial | refine vr_fl _ _ _ _ _ (by decide) rfl ?_ ?_ ?_ ?_)
    all_goals first | exact ints_one _ | exact (ints_len _).trans hl | exact ints_flat _ | exact icells_in _
  have g1 := sps_gd s k hk2
  have ki : (k : Int) < (s.length : Int) := by omega
  have hnew := ict (s.map (·.2)) k (by omega)
  rw [show (s.map (·.2))[k]?.getD 0 = hi s k by simp [hi, hk2]] at hnew
  have hcl : (icells ((s.map (·.2)).take k)).length = k := by rw [icells_len, List.length_take]; omega
  have hct : (icells ((s.map (·.2)).take k)).take k = icells ((s.map (·.2)).take k) := List.take_of_length_le (by omega)
  have hin : ∀ y ∈ icells ((s.map (·.2)).take k) ++ [.val (.int .i64 (hi s k))], In (fun _ => False) y := by rw [← hnew]; exact icells_in _
  generalize hg0 : (s.map (·.2)).take k = V0 at *
  (have hg : (987654321 : Nat) - 987654321 = 0 := rfl; have hr := hg; repeat' (first | refine aw_seq ?_ | (refine aw_skip ?_; with_reducible repeat' (first | refine thenQ_n ?_ | refine blockQ_n ?_ | refine thenQ_e ?_ | refine blockQ_t ?_ | refine blockQ_f (by decide) ?_)) | (refine aw_exit ?_; with_reducible repeat' (first | refine thenQ_n ?_ | refine blockQ_n ?_ | refine thenQ_e ?_ | refine blockQ_t ?_ | refine blockQ_f (by decide) ?_)) | refine aw_ret ?_ | refine aw_block ?_ | refine aw_condT rfl ?_ | refine aw_condF rfl ?_ | ((first | refine aw_hide fun K hK => aw_region ?_ | refine ago_if (by omega) ?_ | skip); simp (config := {maxSteps := 10000000}) (disch := first | exact okYes (by kernel_rfl) | omega) only [List.length, Nat.zero_add, Nat.reduceAdd, Nat.reduceMul, dI, ARun_none, AOpRun, aexec, FSt.ev, St.F, eget_c, Nat.reduceBEq, ↓eget_h, cond_false, AGo_ok, St.app, putO, eput_c, eput_n, hups, List.map, sps_len, isSh, Bool.false_eq_true, ↓reduceIte, Option.map, abin, ki, decide_true, ARun_nil, dropE_c, inL_c, inL_n, beq_self_eq_true, cond_true, dropE_n, Int.natCast_nonneg, sps_all, and_self, opt1, Int.toNat_natCast, g1, Int.reduceLE, cast_lit, Int.reduceLT, Int.reduceToNat, Nat.mul_one, List.drop, run1, List.getElem?_cons_zero, Option.isSome, hget_c, hget_n, fillD, D.isBot, D.cells, ne_eq, not_true_eq_false, Nat.reduceGT, or_self, splice, List.take, List.nil_append, List.append_nil, hput_c, hput_n, base, hcl, Nat.le_refl, hct, elems, ↓hget_h, List.all, D.leaf, Bool.and_true, and_true, ups, List.cons_append, hdel_c, hdel_n, fits]) | (subst hK; with_reducible repeat' (first | refine thenQ_n ?_ | refine blockQ_n ?_ | refine thenQ_e ?_ | refine blockQ_t ?_ | refine blockQ_f (by decide) ?_))))
  refine ⟨k + 1, by omega, by omega, ?_⟩
  rw [hnew]
  refine wk_to [] [(40, 488)] (by kernel_rfl) (by kernel_rfl) (by kernel_rfl) (by kernel_rfl) (by kernel_rfl) ?_ ?_ <;> repeat' (first | exact trivial | exact vr_val _ | exact vr_list _ | exact vr_vec _ _ _ _ rfl | refine And.intro ⟨_, rfl, .inl ⟨_, rfl, by decide, ?_⟩⟩ ?_ | apply And.intro | exact vrl_flat _ (by first | exact icells_in _ | exact rcells_in _ | exact scells_in _ | exact bcells_in _ | assumption))
set_option maxRecDepth 100000 in
set_option maxHeartbeats 4000000 in
theorem rshaken_ac (l : Lay) (frs : List (List Int)) (a b : Nat) (h1 : LayOk l) (h2 : frs.length ≤ 200) (hf : FrIn frs) (ha : a < l.fl.length) (hb : b < l.fl.length) : AC Try.prog 29 [layD l, .list (rows frs), dI a, dI b] [] [] (.agg [.list (ints (shV l frs a)), .list (ints (shM l frs a b))]) := by
  refine kref12_Shaken.ac (n0 := 0) (by simp) ⟨in_layD _ _, .list _, .val _, .val _, trivial⟩ trivial rfl ?_
  unfold cref12_Shaken
  have s1 := rsamples_ac l frs a h1 h2 hf ha
  have s2 := rsamples_ac l frs b h1 h2 hf hb
  have hml := smps_len l (fAt l b) frs frs.length
  have hsl := smps_len l (fAt l a) frs frs.length
  have hm : shM l frs a b = mkRr (smps l (fAt l a) frs frs.length) (smps l (fAt l b) frs frs.length) (smps l (fAt l a) frs frs.length).length := by
    unfold shM; rw [Int.toNat_natCast, Int.toNat_natCast]; exact (mkRr_smM _ _ _ _ _ _ (Nat.le_refl _)).symm
  have hv : shV l frs a = (smps l (fAt l a) frs frs.length).map (·.2) := by unfold shV smV; rw [Int.toNat_natCast]
  rw [hm, hv]
  clear hm hv
  generalize smps l (fAt l a) frs frs.length = s at *
  generalize smps l (fAt l b) frs frs.length = m at *
  have s3 := rseries_ac s (by omega)
  have hvl : (s.map (·.2)).length = s.length := by simp
  generalize s.map (·.2) = V at *
  unfold layD layC at *
  refine aw_seq (aw_region ?_)
  simp (config := {maxSteps := 10000000}) (disch := first | exact okYes (by kernel_rfl) | omega) only [thenQ, List.map, List.length, Nat.zero_add, Nat.reduceAdd, Nat.reduceMul, envOf, dI, ARun_none, AOpRun, aexec, D.isBot, FSt.ev, St.F, ↓eget_h, Bool.false_eq_true, Option.isSome, hget_n, or_self, ↓reduceIte, D.cells, AGo_ok, St.app, putO, eput_c, Nat.reduceBEq, eput_n, cond_false, hups, hput_n, hget_c, hput_c, ARun_nil, dropE_c, inL_n, dropE_n]
  refine aw_seq (aw_region ?_)
  simp (config := {maxSteps := 10000000}) (disch := first | exact okYes (by kernel_rfl) | omega) only [thenQ, List.length, Nat.zero_add, Nat.reduceAdd, Nat.reduceMul, ARun_none, AOpRun, aexec, FSt.ev, St.F, eget_c, Nat.reduceBEq, ↓eget_h, cond_false, hget_c, beq_self_eq_true, hget_n, cond_true, Nat.reduceLeDiff, ↓reduceIte, List.drop, List.take, AGo_ok, St.app, putO, eput_c, eput_n, hups, List.map]
  refine acall0 s1 ?_
  simp (config := {maxSteps := 10000000}) (disch := first | exact okYes (by kernel_rfl) | omega) only [Nat.reduceAdd, St.app, putO, eput_c, Nat.reduceBEq, eput_n, cond_false, hups, ARun_none, AOpRun, aexec, FSt.ev, St.F, eget_c, ↓eget_h, hget_c, beq_self_eq_true, hget_n, cond_true, Nat.zero_add, List.length, Nat.reduceLeDiff, ↓reduceIte, List.drop, List.take, AGo_ok, List.map]
  refine acall0 s2 ?_
  simp (config := {maxSteps := 10000000}) (disch := first | exact okYes (by kernel_rfl) | omega) only [Nat.reduceAdd, St.app, putO, eput_c, Nat.reduceBEq, eput_n, cond_false, hups, ARun_none, AOpRun, aexec, FSt.ev, St.F, eget_c, ↓eget_h, AGo_ok, List.map, ARun_nil, dropE_c, inL_c, inL_n, beq_self_eq_true, cond_true, dropE_n]
  refine aw_seq (aw_region ?_)
  simp (config := {maxSteps := 10000000}) (disch := first | exact okYes (by kernel_rfl) | omega) only [thenQ, List.length, Nat.zero_add, Nat.reduceAdd, Nat.reduceMul, ARun_none, AOpRun, aexec, FSt.ev, St.F, eget_c, Nat.reduceBEq, ↓eget_h, cond_false, AGo_ok, St.app, putO, eput_c, eput_n, hups, List.map]
  refine acall0 s3 ?_
  simp (config := {maxSteps := 10000000}) (disch := first | exact okYes (by kernel_rfl) | omega) only [Nat.reduceAdd, St.app, putO, eput_c, Nat.reduceBEq, eput_n, cond_false, hups, ARun_none, AOpRun, aexec, Option.map, fillD, D.isBot, FSt.ev, St.F, eget_c, ↓eget_h, Bool.false_eq_true, D.cells, List.length, Nat.zero_add, ne_eq, not_true_eq_false, Nat.reduceGT, or_self, ↓reduceIte, splice, List.take, List.nil_append, List.drop, List.cons_append, AGo_ok, List.map, Option.isSome, Nat.reduceMul, hget_c, hget_n, hput_c, hput_n, ↓hget_h, Nat.reduceLeDiff, List.all, D.leaf, Bool.and_true, and_self, List.append_nil, beq_self_eq_true, cond_true, ARun_nil, dropE_c, inL_c, inL_n, dropE_n]
  refine aw_seq (aw_seq (aw_region ?_))
  simp (config := {maxSteps := 10000000}) (disch := first | exact okYes (by kernel_rfl) | omega) only [thenQ, List.length, Nat.zero_add, Nat.reduceMul, Nat.reduceAdd, ARun_none, AOpRun, aexec, FSt.ev, AGo_ok, St.app, putO, eput_c, Nat.reduceBEq, eput_n, cond_false, hups, List.map, ARun_nil, dropE_c, inL_n, dropE_n]
  refine aw_block (aw_loop (fun i : Nat => ⟨[(8, .ptr 8 0), (9, .list (sps s)), (10, .list (sps m)), (11, .ptr 16 0), (12, dI i)], [(8, [.val (.slice none 0 0), .val (.slice none 0 0)]), (16, [.list (ints V), .vec 24 (mkRr s m i).length 1]), (24, icells (mkRr s m i))], 1000⟩) (fun i => i ≤ s.length) (fun i => s.length - i) ⟨0, by omega, ?_⟩ ?_)
  · show Wk _ _ ⟨[_, _, _, _, _], [_, (16, [_, .vec 24 0 1]), (24, [])], _⟩
    unfold dI
    refine wk_to [] [(8, 8), (16, 120), (24, 900)] (by kernel_rfl) (by kernel_rfl) (by kernel_rfl) (by kernel_rfl) (by kernel_rfl) ?_ ?_ <;> repeat' (first | exact trivial | exact vr_val _ | exact vr_list _ | exact vr_ptr _ _ _ rfl | exact vr_nilv _ _ _ rfl | refine And.intro ⟨_, rfl, .inl ⟨_, rfl, by decide, ?_⟩⟩ ?_ | refine And.intro ⟨_, rfl, .inr ⟨rfl, rfl, of_decide_eq_true (by kernel_rfl)⟩⟩ ?_ | apply And.intro)
  intro i hiL
  have hrl := mkRr_len s m (by omega) i
  by_cases hi2 : i < s.length
  case neg =>
    obtain rfl : i = s.length := by omega
    generalize mkRr s m s.length = M at *
    (have hg : (987654321 : Nat) - 987654321 = 0 := rfl; have hr := hg; repeat' (first | refine aw_seq ?_ | (refine aw_skip ?_; with_reducible repeat' (first | refine thenQ_n ?_ | refine blockQ_n ?_ | refine thenQ_e ?_ | refine blockQ_t ?_ | refine blockQ_f (by decide) ?_)) | (refine aw_exit ?_; with_reducible repeat' (first | refine thenQ_n ?_ | refine blockQ_n ?_ | refine thenQ_e ?_ | refine blockQ_t ?_ | refine blockQ_f (by decide) ?_)) | refine aw_ret ?_ | refine aw_block ?_ | refine aw_condT rfl ?_ | refine aw_condF rfl ?_ | (refine aw_cond rfl (fun hg => ?_) (fun hg => ?_) <;> (try (have hq := hg; simp only [Bool.not_eq_true', Bool.not_eq_false', Bool.and_eq_true, Bool.and_eq_false_iff, Bool.or_eq_true, Bool.or_eq_false_iff, decide_eq_true_eq, decide_eq_false_iff_not, bne_iff_ne, beq_iff_eq, beq_eq_false_iff_ne, bne_eq_false_iff_eq, ne_eq, Int.not_lt, Int.not_le, Decidable.not_not] at hq)) <;> (try (have hr := hg; simp only [decide_eq_true_eq, decide_eq_false_iff_not] at hr)) <;> (try (exfalso; omega))) | ((first | refine aw_hide fun K hK => aw_region ?_ | refine ago_if (by omega) ?_ | skip); simp (config := {maxSteps := 10000000}) (disch := first | exact okYes (by kernel_rfl) | omega) only [List.length, Nat.zero_add, Nat.reduceAdd, Nat.reduceMul, dI, ARun_none, AOpRun, aexec, FSt.ev, St.F, eget_c, Nat.reduceBEq, ↓eget_h, cond_false, AGo_ok, St.app, putO, eput_c, eput_n, hups, List.map, sps_len, isSh, Bool.false_eq_true, ↓reduceIte, Option.map, abin, ARun_nil, dropE_c, inL_c, inL_n, beq_self_eq_true, cond_true, dropE_n, hr, decide_false, hget_c, ↓hget_h, Nat.reduceLeDiff, List.drop, List.take, hget_n, D.isBot, D.cells, List.all, D.leaf, Bool.and_true, and_self, splice, List.nil_append, List.append_nil, hput_c, hput_n]) | (subst hK; with_reducible repeat' (first | refine thenQ_n ?_ | refine blockQ_n ?_ | refine thenQ_e ?_ | refine blockQ_t ?_ | refine blockQ_f (by decide) ?_))))
    refine end_to [24] [] (by first | exact .inl rfl | exact .inr rfl) rfl (by kernel_rfl) (by kernel_rfl) (by kernel_rfl) ?_ ?_ <;> repeat' (first | exact trivial | exact vr_list _ | apply vr_agg | refine vr_fl _ _ _ _ _ (by decide) rfl ?_ ?_ ?_ ?_ | apply And.intro)
    all_goals first | exact ints_one _ | exact ints_len _ | exact ints_flat _ | exact icells_in _
  have ki : (i : Int) < (s.length : Int) := by omega
  have hz := mkI_zero s m i
  have hend := mkI_end s m i
  refine aw_seq (aw_seq (aw_region ?_))
  simp (config := {maxSteps := 10000000}) (disch := first | exact okYes (by kernel_rfl) | omega) only [thenQ, dI, List.length, Nat.zero_add, Nat.reduceAdd, Nat.reduceMul, ARun_none, AOpRun, aexec, FSt.ev, St.F, eget_c, Nat.reduceBEq, ↓eget_h, cond_false, AGo_ok, St.app, putO, eput_c, eput_n, hups, List.map, sps_len, isSh, Bool.false_eq_true, ↓reduceIte, Option.map, abin, ki, decide_true, ARun_nil, dropE_c, inL_c, inL_n, beq_self_eq_true, cond_true, dropE_n]
  refine aw_condT rfl (aw_skip ?_)
  refine aw_seq (aw_block (aw_seq (aw_region ?_)))
  simp (config := {maxSteps := 10000000}) (disch := first | exact okYes (by kernel_rfl) | omega) only [thenQ, List.length, Nat.zero_add, Nat.reduceMul, Nat.reduceAdd, ARun_none, AOpRun, aexec, FSt.ev, AGo_ok, St.app, putO, eput_c, Nat.reduceBEq, eput_n, cond_false, hups, List.map, ARun_nil, dropE_c, inL_n, dropE_n]
  refine aw_block (aw_loop (fun k : Nat => ⟨[(8, .ptr 8 0), (9, .list (sps s)), (10, .list (sps m)), (11, .ptr 16 0), (12, dI i), (13, dI k)], [(8, [.val (.slice none 0 0), .val (.slice none 0 0)]), (16, [.list (ints V), .vec 24 (mkI s m i k).length 1]), (24, icells (mkI s m i k))], 4000⟩) (fun k => k ≤ m.length) (fun k => m.length - k) ⟨0, by omega, ?_⟩ ?_)
  · rw [hz]
    unfold dI
    refine wk_to [] [(8, 8), (16, 16), (24, 24)] (by kernel_rfl) (by kernel_rfl) (by kernel_rfl) (by kernel_rfl) (by kernel_rfl) ?_ ?_ <;> repeat' (first | exact trivial | exact vr_val _ | exact vr_list _ | exact vr_vec _ _ _ _ rfl | exact vr_ptr _ _ _ rfl | refine And.intro ⟨_, rfl, .inl ⟨_, rfl, by decide, ?_⟩⟩ ?_ | apply And.intro | exact vrl_flat _ (by first | exact icells_in _ | exact rcells_in _ | exact scells_in _ | exact bcells_in _ | assumption))
    all_goals exact vrl_flat _ (icells_in _)
  intro k hk
  by_cases hk2 : k < m.length
  case neg =>
    obtain rfl : k = m.length := by omega
    rw [hend]
    generalize mkRr s m i = M0 at *
    generalize hg1 : mkRr s m (i + 1) = M at *
    (have hg : (987654321 : Nat) - 987654321 = 0 := rfl; have hr := hg; repeat' (first | refine aw_seq ?_ | (refine aw_skip ?_; with_reducible repeat' (first | refine thenQ_n ?_ | refine blockQ_n ?_ | refine thenQ_e ?_ | refine blockQ_t ?_ | refine blockQ_f (by decide) ?_)) | (refine aw_exit ?_; with_reducible repeat' (first | refine thenQ_n ?_ | refine blockQ_n ?_ | refine thenQ_e ?_ | refine blockQ_t ?_ | refine blockQ_f (by decide) ?_)) | refine aw_ret ?_ | refine aw_block ?_ | refine aw_condT rfl ?_ | refine aw_condF rfl ?_ | (refine aw_cond rfl (fun hg => ?_) (fun hg => ?_) <;> (try (have hq := hg; simp only [Bool.not_eq_true', Bool.not_eq_false', Bool.and_eq_true, Bool.and_eq_false_iff, Bool.or_eq_true, Bool.or_eq_false_iff, decide_eq_true_eq, decide_eq_false_iff_not, bne_iff_ne, beq_iff_eq, beq_eq_false_iff_ne, bne_eq_false_iff_eq, ne_eq, Int.not_lt, Int.not_le, Decidable.not_not] at hq)) <;> (try (have hr := hg; simp only [decide_eq_true_eq, decide_eq_false_iff_not] at hr)) <;> (try (exfalso; omega))) | ((first | refine aw_hide fun K hK => aw_region ?_ | refine ago_if (by omega) ?_ | skip); simp (config := {maxSteps := 10000000}) (disch := first | exact okYes (by kernel_rfl) | omega) only [List.length, Nat.zero_add, Nat.reduceAdd, Nat.reduceMul, dI, ARun_none, AOpRun, aexec, FSt.ev, St.F, eget_c, Nat.reduceBEq, ↓eget_h, cond_false, AGo_ok, St.app, putO, eput_c, eput_n, hups, List.map, sps_len, isSh, Bool.false_eq_true, ↓reduceIte, Option.map, abin, ARun_nil, dropE_c, inL_c, inL_n, beq_self_eq_true, cond_true, dropE_n, hr, decide_false, fits]) | (subst hK; with_reducible repeat' (first | refine thenQ_n ?_ | refine blockQ_n ?_ | refine thenQ_e ?_ | refine blockQ_t ?_ | refine blockQ_f (by decide) ?_))))
    refine ⟨i + 1, by omega, by omega, ?_⟩
    rw [hg1]
    refine wk_to [] [(8, 8), (16, 16), (24, 24)] (by kernel_rfl) (by kernel_rfl) (by kernel_rfl) (by kernel_rfl) (by kernel_rfl) ?_ ?_ <;> repeat' (first | exact trivial | exact vr_val _ | exact vr_list _ | exact vr_vec _ _ _ _ rfl | exact vr_ptr _ _ _ rfl | refine And.intro ⟨_, rfl, .inl ⟨_, rfl, by decide, ?_⟩⟩ ?_ | apply And.intro | exact vrl_flat _ (by first | exact icells_in _ | exact rcells_in _ | exact scells_in _ | exact bcells_in _ | assumption))
    all_goals exact vrl_flat _ (icells_in _)
  have hil := mkI_len s m (by omega) i k
  have hsu := mkI_succ s m i k hk2
  have kk : (k : Int) < (m.length : Int) := by omega
  have g1 := sps_gd s i hi2
  have g2 := sps_gd m k hk2
  generalize hg2 : mkI s m i (k + 1) = M1 at *
  generalize mkI s m i k = M at *
  have hmc : (icells M).length = M.length := icells_len M
  have hmt : (icells M).take M.length = icells M := ic_take M _ rfl
  have hma : (M ++ [(i : Int)]).length = M.length + 1 := by simp
  have hmcin : ∀ y ∈ icells M ++ [.val (.int .i64 (i : Int))], In (fun _ => False) y := by rw [ic_app]; exact icells_in _
  have hmin := icells_in M
  have hh : hitB (lo s i) (lo m k, hi m k) = ((lo m k == lo s i) && (hi m k != 0)) := rfl
  cases q1 : (lo m k == lo s i) <;> cases q2 : (hi m k != 0)
  case true.true =>
    rw [hh, q1, q2, if_pos (by rfl)] at hsu
    (have hg : (987654321 : Nat) - 987654321 = 0 := rfl; have hr := hg; repeat' (first | refine aw_seq ?_ | (refine aw_skip ?_; with_reducible repeat' (first | refine thenQ_n ?_ | refine blockQ_n ?_ | refine thenQ_e ?_ | refine blockQ_t ?_ | refine blockQ_f (by decide) ?_)) | (refine aw_exit ?_; with_reducible repeat' (first | refine thenQ_n ?_ | refine blockQ_n ?_ | refine thenQ_e ?_ | refine blockQ_t ?_ | refine blockQ_f (by decide) ?_)) | refine aw_ret ?_ | refine aw_block ?_ | refine aw_condT rfl ?_ | refine aw_condF rfl ?_ | ((first | refine aw_hide fun K hK => aw_region ?_ | refine ago_if (by omega) ?_ | skip); simp (config := {maxSteps := 10000000}) (disch := first | exact okYes (by kernel_rfl) | omega) only [List.length, Nat.zero_add, Nat.reduceAdd, Nat.reduceMul, dI, ARun_none, AOpRun, aexec, FSt.ev, St.F, eget_c, Nat.reduceBEq, ↓eget_h, cond_false, AGo_ok, St.app, putO, eput_c, eput_n, hups, List.map, sps_len, isSh, Bool.false_eq_true, ↓reduceIte, Option.map, abin, kk, decide_true, ARun_nil, dropE_c, inL_c, inL_n, beq_self_eq_true, cond_true, dropE_n, Int.natCast_nonneg, sps_all, and_self, opt1, Int.toNat_natCast, g2, Int.le_refl, cast_lit, Int.reduceLT, Int.toNat_zero, Nat.mul_one, List.drop, run1, List.getElem?_cons_zero, g1, q1, ARun_some, AG_tt, Int.reduceLE, Int.reduceToNat, q2, hget_c, ↓hget_h, List.getElem?_cons_succ, Option.isSome, hget_n, fillD, D.isBot, D.cells, ne_eq, not_true_eq_false, Nat.reduceGT, or_self, splice, List.take, List.nil_append, List.append_nil, hput_c, hput_n, base, hmc, Nat.le_refl, hmt, elems, List.all, D.leaf, Bool.and_true, and_true, ups, List.cons_append, hdel_c, hdel_n, fits]) | (subst hK; with_reducible repeat' (first | refine thenQ_n ?_ | refine blockQ_n ?_ | refine thenQ_e ?_ | refine blockQ_t ?_ | refine blockQ_f (by decide) ?_))))
    refine ⟨k + 1, by omega, by omega, ?_⟩
    rw [hg2, hsu, hma, ← ic_app M]
    refine wk_to [] [(8, 8), (16, 16), (24, 4216)] (by kernel_rfl) (by kernel_rfl) (by kernel_rfl) (by kernel_rfl) (by kernel_rfl) ?_ ?_ <;> repeat' (first | exact trivial | exact vr_val _ | exact vr_list _ | exact vr_vec _ _ _ _ rfl | exact vr_ptr _ _ _ rfl | refine And.intro ⟨_, rfl, .inl ⟨_, rfl, by decide, ?_⟩⟩ ?_ | apply And.intro | exact vrl_flat _ (by first | exact icells_in _ | exact rcells_in _ | exact scells_in _ | exact bcells_in _ | assumption))
  all_goals
    rw [hh, q1, q2, if_neg (by simp)] at hsu
    (have hg : (987654321 : Nat) - 987654321 = 0 := rfl; have hr := hg; repeat' (first | refine aw_seq ?_ | (refine aw_skip ?_; with_reducible repeat' (first | refine thenQ_n ?_ | refine blockQ_n ?_ | refine thenQ_e ?_ | refine blockQ_t ?_ | refine blockQ_f (by decide) ?_)) | (refine aw_exit ?_; with_reducible repeat' (first | refine thenQ_n ?_ | refine blockQ_n ?_ | refine thenQ_e ?_ | refine blockQ_t ?_ | refine blockQ_f (by decide) ?_)) | refine aw_ret ?_ | refine aw_block ?_ | refine aw_condT rfl ?_ | refine aw_condF rfl ?_ | ((first | refine aw_hide fun K hK => aw_region ?_ | refine ago_if (by omega) ?_ | skip); simp (config := {maxSteps := 10000000}) (disch := first | exact okYes (by kernel_rfl) | omega) only [List.length, Nat.zero_add, Nat.reduceAdd, Nat.reduceMul, dI, ARun_none, AOpRun, aexec, FSt.ev, St.F, eget_c, Nat.reduceBEq, ↓eget_h, cond_false, AGo_ok, St.app, putO, eput_c, eput_n, hups, List.map, sps_len, isSh, Bool.false_eq_true, ↓reduceIte, Option.map, abin, kk, decide_true, ARun_nil, dropE_c, inL_c, inL_n, beq_self_eq_true, cond_true, dropE_n, Int.natCast_nonneg, sps_all, and_self, opt1, Int.toNat_natCast, g2, Int.le_refl, cast_lit, Int.reduceLT, Int.toNat_zero, List.drop, run1, List.getElem?_cons_zero, g1, q1, ARun_some, AG_ft, fits, AG_tt, Int.reduceLE, Int.reduceToNat, q2]) | (subst hK; with_reducible repeat' (first | refine thenQ_n ?_ | refine blockQ_n ?_ | refine thenQ_e ?_ | refine blockQ_t ?_ | refine blockQ_f (by decide) ?_))))
    refine ⟨k + 1, by omega, by omega, ?_⟩
    rw [hg2, hsu]
    refine wk_to [] [(8, 8), (16, 16), (24, 24)] (by kernel_rfl) (by kernel_rfl) (by kernel_rfl) (by kernel_rfl) (by kernel_rfl) ?_ ?_ <;> repeat' (first | exact trivial | exact vr_val _ | exact vr_list _ | exact vr_vec _ _ _ _ rfl | exact vr_ptr _ _ _ rfl | refine And.intro ⟨_, rfl, .inl ⟨_, rfl, by decide, ?_⟩⟩ ?_ | apply And.intro | exact vrl_flat _ (by first | exact icells_in _ | exact rcells_in _ | exact scells_in _ | exact bcells_in _ | assumption))
    all_goals exact vrl_flat _ (icells_in _)
set_option maxRecDepth 100000 in
set_option maxHeartbeats 4000000 in
theorem rshake_ac (l : Lay) (frs : List (List Int)) (x y pts : Int) (hl : LayIn l) (hf : FrIn frs) : AC Try.prog 26 [layD l, .list (rows frs), dI x, dI y, dI pts] [] [] (.tup [.list (ints (shL l frs x y pts)), dI (shD l frs x y pts), dI (shE l frs x y pts)]) := by
  refine kref12_Shake.ac (n0 := 0) (by simp) ⟨in_layD _ _, .list _, .val _, .val _, .val _, trivial⟩ trivial rfl ?_
  unfold cref12_Shake
  have ck := checkF_ac l frs hl hf
  by_cases hw : wfE l frs [x, y] = 0
  · obtain ⟨h1, h2, h0, hx, hy⟩ := wfE_two hw
    have nf := h1.nf
    have f1 := rfield_ac l x (by omega)
    have f2 := rfield_ac l y (by omega)
    rw [hx] at f1
    rw [hy] at f2
    rw [h0] at ck
    have hx := wI_t hx
    have hy := wI_t hy
    have e1 : shL l frs x y pts = avL (shV l frs x) (shM l frs x y) pts := if_pos hw
    have e2 : shD l frs x y pts = avD (shV l frs x) (shM l frs x y) pts := if_pos hw
    have e3 : shE l frs x y pts = avE (shV l frs x) (shM l frs x y) pts := if_pos hw
    rw [e1, e2, e3]
    clear e1 e2 e3
    obtain ⟨a, rfl⟩ : ∃ a : Nat, x = a := ⟨x.toNat, by omega⟩
    obtain ⟨b, rfl⟩ : ∃ b : Nat, y = b := ⟨y.toNat, by omega⟩
    have sh := rshaken_ac l frs a b h1 h2 hf (by omega) (by omega)
    have av := gavg_ac (shV l frs a) (shM l frs a b) pts (by unfold shV; rw [smV_len]; have := smps_len l (fAt l (a : Int).toNat) frs frs.length; omega) (by unfold shM; have := smM_len l (fAt l (a : Int).toNat) (fAt l (b : Int).toNat) frs frs.length; omega)
    generalize shV l frs a = V at *
    generalize shM l frs a b = M at *
    unfold layD layC at *
    (have hg : (987654321 : Nat) - 987654321 = 0 := rfl; have hr := hg; repeat' (first | refine aw_seq ?_ | (refine aw_skip ?_; with_reducible repeat' (first | refine thenQ_n ?_ | refine blockQ_n ?_ | refine thenQ_e ?_ | refine blockQ_t ?_ | refine blockQ_f (by decide) ?_)) | (refine aw_exit ?_; with_reducible repeat' (first | refine thenQ_n ?_ | refine blockQ_n ?_ | refine thenQ_e ?_ | refine blockQ_t ?_ | refine blockQ_f (by decide) ?_)) | refine aw_ret ?_ | refine aw_block ?_ | refine aw_condT rfl ?_ | refine aw_condF rfl ?_ | ((first | refine aw_hide fun K hK => aw_region ?_ | refine acall0 (ck) ?_ | refine acall0 (f1) ?_ | refine acall0 (f2) ?_ | refine acall0 (sh) ?_ | refine acall0 (av) ?_ | refine ago_if (by omega) ?_ | skip); simp (config := {maxSteps := 10000000}) (disch := first | exact okYes (by kernel_rfl) | omega) only [List.length, Nat.zero_add, Nat.reduceAdd, Nat.reduceMul, envOf, dI, ARun_none, AOpRun, aexec, D.isBot, FSt.ev, St.F, ↓eget_h, Bool.false_eq_true, Option.isSome, hget_n, or_self, ↓reduceIte, D.cells, AGo_ok, St.app, putO, eput_c, Nat.reduceBEq, eput_n, cond_false, hups, hput_n, List.map, ARun_nil, dropE_c, inL_n, dropE_n, eget_c, hget_c, beq_self_eq_true, cond_true, Nat.reduceLeDiff, List.drop, List.take, inL_c, isSh, Option.map, abin, bne_self_eq_false, dB, Bool.not_true, ARun_some, AG_ff, opt1, List.getElem?_cons_zero, List.getElem?_cons_succ]) | (subst hK; with_reducible repeat' (first | refine thenQ_n ?_ | refine blockQ_n ?_ | refine thenQ_e ?_ | refine blockQ_t ?_ | refine blockQ_f (by decide) ?_))))
    all_goals (refine end_to [] [] (by first | exact .inl rfl | exact .inr rfl) rfl (by kernel_rfl) (by kernel_rfl) (by kernel_rfl) ?_ ?_ <;> repeat' (first | exact trivial | exact vr_val _ | exact vr_list _ | apply vr_tup | apply And.intro))
  · have e1 : shL l frs x y pts = [] := if_neg hw
    have e2 : shD l frs x y pts = 0 := if_neg hw
    have e3 : shE l frs x y pts = wfE l frs [x, y] := if_neg hw
    rw [e1, e2, e3]
    clear e1 e2 e3
    rcases tpE_cases l frs with ⟨h0, h1, h2⟩ | ⟨h0, h1⟩
    · have nf := h1.nf
      have f1 := rfield_ac l x (by omega)
      have f2 := rfield_ac l y (by omega)
      have hE : wfE l frs [x, y] = 1 := by
        have e : wfE l frs [x, y] = if hasA l [x, y] = true then 0 else 1 := if_pos h0
        by_cases hh : hasA l [x, y] = true
        · rw [if_pos hh] at e; exact absurd e hw
        · rw [e, if_neg hh]
      have hno : (wI x 0 ((l.fl.length : Int) - 1) && wI y 0 ((l.fl.length : Int) - 1)) = false := by
        rw [← hasA_two]
        cases hh : hasA l [x, y] with
        | false => rfl
        | true => exact absurd (by unfold wfE; rw [if_pos h0, if_pos hh]) hw
      rw [hE]
      rw [h0] at ck
      cases q1 : wI x 0 ((l.fl.length : Int) - 1) with
      | false =>
        rw [q1] at f1
        unfold layD layC at *
        (have hg : (987654321 : Nat) - 987654321 = 0 := rfl; have hr := hg; repeat' (first | refine aw_seq ?_ | (refine aw_skip ?_; with_reducible repeat' (first | refine thenQ_n ?_ | refine blockQ_n ?_ | refine thenQ_e ?_ | refine blockQ_t ?_ | refine blockQ_f (by decide) ?_)) | (refine aw_exit ?_; with_reducible repeat' (first | refine thenQ_n ?_ | refine blockQ_n ?_ | refine thenQ_e ?_ | refine blockQ_t ?_ | refine blockQ_f (by decide) ?_)) | refine aw_ret ?_ | refine aw_block ?_ | refine aw_condT rfl ?_ | refine aw_condF rfl ?_ | ((first | refine aw_hide fun K hK => aw_region ?_ | refine acall0 (ck) ?_ | refine acall0 (f1) ?_ | refine ago_if (by omega) ?_ | skip); simp (config := {maxSteps := 10000000}) (disch := first | exact okYes (by kernel_rfl) | omega) only [List.length, Nat.zero_add, Nat.reduceAdd, Nat.reduceMul, envOf, dI, ARun_none, AOpRun, aexec, D.isBot, FSt.ev, St.F, ↓eget_h, Bool.false_eq_true, Option.isSome, hget_n, or_self, ↓reduceIte, D.cells, AGo_ok, St.app, putO, eput_c, Nat.reduceBEq, eput_n, cond_false, hups, hput_n, List.map, ARun_nil, dropE_c, inL_n, dropE_n, eget_c, hget_c, beq_self_eq_true, cond_true, Nat.reduceLeDiff, List.drop, List.take, inL_c, isSh, Option.map, abin, bne_self_eq_false, dB, Bool.not_false, ARun_some, AG_tf, thenQ]) | (subst hK; with_reducible repeat' (first | refine thenQ_n ?_ | refine blockQ_n ?_ | refine thenQ_e ?_ | refine blockQ_t ?_ | refine blockQ_f (by decide) ?_))))
        all_goals (refine end_to [] [] (by first | exact .inl rfl | exact .inr rfl) rfl (by kernel_rfl) (by kernel_rfl) (by kernel_rfl) ?_ ?_ <;> repeat' (first | exact trivial | exact vr_val _ | exact vr_nil | apply vr_tup | apply And.intro))
      | true =>
        rw [q1, Bool.true_and] at hno
        rw [q1] at f1
        rw [hno] at f2
        unfold layD layC at *
        (have hg : (987654321 : Nat) - 987654321 = 0 := rfl; have hr := hg; repeat' (first | refine aw_seq ?_ | (refine aw_skip ?_; with_reducible repeat' (first | refine thenQ_n ?_ | refine blockQ_n ?_ | refine thenQ_e ?_ | refine blockQ_t ?_ | refine blockQ_f (by decide) ?_)) | (refine aw_exit ?_; with_reducible repeat' (first | refine thenQ_n ?_ | refine blockQ_n ?_ | refine thenQ_e ?_ | refine blockQ_t ?_ | refine blockQ_f (by decide) ?_)) | refine aw_ret ?_ | refine aw_block ?_ | refine aw_condT rfl ?_ | refine aw_condF rfl ?_ | ((first | refine aw_hide fun K hK => aw_region ?_ | refine acall0 (ck) ?_ | refine acall0 (f1) ?_ | refine acall0 (f2) ?_ | refine ago_if (by omega) ?_ | skip); simp (config := {maxSteps := 10000000}) (disch := first | exact okYes (by kernel_rfl) | omega) only [List.length, Nat.zero_add, Nat.reduceAdd, Nat.reduceMul, envOf, dI, ARun_none, AOpRun, aexec, D.isBot, FSt.ev, St.F, ↓eget_h, Bool.false_eq_true, Option.isSome, hget_n, or_self, ↓reduceIte, D.cells, AGo_ok, St.app, putO, eput_c, Nat.reduceBEq, eput_n, cond_false, hups, hput_n, List.map, ARun_nil, dropE_c, inL_n, dropE_n, eget_c, hget_c, beq_self_eq_true, cond_true, Nat.reduceLeDiff, List.drop, List.take, inL_c, isSh, Option.map, abin, bne_self_eq_false, dB, Bool.not_true, ARun_some, AG_ff, Bool.not_false, thenQ]) | (subst hK; with_reducible repeat' (first | refine thenQ_n ?_ | refine blockQ_n ?_ | refine thenQ_e ?_ | refine blockQ_t ?_ | refine blockQ_f (by decide) ?_))))
        all_goals (refine end_to [] [] (by first | exact .inl rfl | exact .inr rfl) rfl (by kernel_rfl) (by kernel_rfl) (by kernel_rfl) ?_ ?_ <;> repeat' (first | exact trivial | exact vr_val _ | exact vr_nil | apply vr_tup | apply And.intro))
    · have hE : wfE l frs [x, y] = tpE l frs := if_neg h0
      rw [hE]
      clear hE hw
      unfold layD layC at *
      generalize tpE l frs = E at *
      (have hg : (987654321 : Nat) - 987654321 = 0 := rfl; have hr := hg; repeat' (first | refine aw_seq ?_ | (refine aw_skip ?_; with_reducible repeat' (first | refine thenQ_n ?_ | refine blockQ_n ?_ | refine thenQ_e ?_ | refine blockQ_t ?_ | refine blockQ_f (by decide) ?_)) | (refine aw_exit ?_; with_reducible repeat' (first | refine thenQ_n ?_ | refine blockQ_n ?_ | refine thenQ_e ?_ | refine blockQ_t ?_ | refine blockQ_f (by decide) ?_)) | refine aw_ret ?_ | refine aw_block ?_ | refine aw_condT rfl ?_ | refine aw_condF rfl ?_ | ((first | refine aw_hide fun K hK => aw_region ?_ | refine acall0 (ck) ?_ | refine ago_if (by omega) ?_ | skip); simp (config := {maxSteps := 10000000}) (disch := first | exact okYes (by kernel_rfl) | omega) only [List.length, Nat.zero_add, Nat.reduceAdd, Nat.reduceMul, envOf, dI, ARun_none, AOpRun, aexec, D.isBot, FSt.ev, St.F, ↓eget_h, Bool.false_eq_true, Option.isSome, hget_n, or_self, ↓reduceIte, D.cells, AGo_ok, St.app, putO, eput_c, Nat.reduceBEq, eput_n, cond_false, hups, hput_n, List.map, ARun_nil, dropE_c, inL_n, dropE_n, eget_c, hget_c, beq_self_eq_true, cond_true, Nat.reduceLeDiff, List.drop, List.take, inL_c, isSh, Option.map, abin, h1, thenQ]) | (subst hK; with_reducible repeat' (first | refine thenQ_n ?_ | refine blockQ_n ?_ | refine thenQ_e ?_ | refine blockQ_t ?_ | refine blockQ_f (by decide) ?_))))
      all_goals (refine end_to [] [] (by first | exact .inl rfl | exact .inr rfl) rfl (by kernel_rfl) (by kernel_rfl) (by kernel_rfl) ?_ ?_ <;> repeat' (first | exact trivial | exact vr_val _ | exact vr_nil | apply vr_tup | apply And.intro))
end Go.Proofs.Ytgibbaadjbohdaa
/- A tape with frames between that are not good. No conditions. -/
namespace Go.Proofs.Ytgibbaadjbohdaa
open Go.RowKit Lift

def torn (frs : List (List Int)) : Nat → List (List Int)
  | 0 => []
  | k + 1 => torn frs k ++ [frm frs k, []]
theorem torn_len (frs : List (List Int)) : ∀ k, (torn frs k).length = 2 * k
  | 0 => rfl
  | k + 1 => by have := torn_len frs k; simp only [torn, List.length_append, List.length_cons, List.length_nil]; omega
theorem torn_frm (frs : List (List Int)) : ∀ n k, k < n → frm (torn frs n) (2 * k) = frm frs k ∧ frm (torn frs n) (2 * k + 1) = []
  | 0, k, h => by omega
  | n + 1, k, h => by
    have hl := torn_len frs n
    rcases (by omega : k < n ∨ k = n) with h1 | rfl
    · have ih := torn_frm frs n k h1
      unfold frm at ih ⊢
      simp only [torn]
      rw [List.getElem?_append_left (by omega), List.getElem?_append_left (by omega)]
      exact ih
    · unfold frm
      simp only [torn]
      rw [List.getElem?_append_right (by omega), List.getElem?_append_right (by omega)]
      rw [show 2 * k - (torn frs k).length = 0 by omega, show 2 * k + 1 - (torn frs k).length = 1 by omega]
      exact ⟨rfl, rfl⟩
theorem torn_out (frs : List (List Int)) (n k : Nat) (h : 2 * n ≤ k) : frm (torn frs n) k = [] := by
  unfold frm
  rw [List.getElem?_eq_none (by rw [torn_len]; omega)]; rfl
theorem torn_m (frs : List (List Int)) (n : Nat) (B : Nat) (h : ∀ k, (frm frs k).length ≤ B) (k : Nat) : (frm (torn frs n) k).length ≤ B := by
  by_cases hk : 2 * n ≤ k
  · rw [torn_out frs n k hk]; simp
  · have := torn_frm frs n (k / 2) (by omega)
    rcases (by omega : k = 2 * (k / 2) ∨ k = 2 * (k / 2) + 1) with e | e
    · rw [e, this.1]; exact h _
    · rw [e, this.2]; simp
theorem smp_nil {l : Lay} (f : Fl) (hw : 2 ≤ l.words) : smp l f [] = none := by
  have h : ¬ frOk l [] := fun h => by have := h.1; simp at this; omega
  unfold smp subF
  rw [if_neg h]
  exact if_neg (fun h => by have := h.1; omega)
theorem smV_succ (l : Lay) (f : Fl) (frs : List (List Int)) (k : Nat) : smV l f frs (k + 1) = smV l f frs k ++ (match smp l f (frm frs k) with | some v => [v] | none => []) := by
  unfold smV
  rw [smps_succ]
  cases smp l f (frm frs k) <;> simp
theorem smV_torn {l : Lay} (f : Fl) (frs : List (List Int)) (hw : 2 ≤ l.words) (n : Nat) : ∀ k, k ≤ n → smV l f (torn frs n) (2 * k) = smV l f frs k
  | 0, _ => rfl
  | k + 1, hk => by
    have ih := smV_torn f frs hw n k (by omega)
    have ht := torn_frm frs n k (by omega)
    rw [show 2 * (k + 1) = 2 * k + 1 + 1 by omega, smV_succ, smV_succ, ht.1, ht.2, smp_nil f hw, ih, smV_succ, List.append_nil]
theorem smM_torn {l : Lay} (f g : Fl) (frs : List (List Int)) (hw : 2 ≤ l.words) (n : Nat) : ∀ k, k ≤ n → smM l f g (torn frs n) (2 * k) = smM l f g frs k
  | 0, _ => rfl
  | k + 1, hk => by
    have ih := smM_torn f g frs hw n k (by omega)
    have ht := torn_frm frs n k (by omega)
    have hv := smV_torn f frs hw n k (by omega)
    have hl : (smps l f (torn frs n) (2 * k)).length = (smps l f frs k).length := by rw [← smV_len, ← smV_len, hv]
    rw [show 2 * (k + 1) = 2 * k + 1 + 1 by omega]
    simp only [smM]
    rw [ht.1, ht.2, smp_nil f hw]
    simp only
    rw [ih, hl]
theorem shE_torn {l : Lay} {frs : List (List Int)} {x y pts : Int} (h : wfE l frs [x, y] = 0) (hn : frs.length ≤ 90) : wfE l (torn frs frs.length) [x, y] = 0 ∧ shL l (torn frs frs.length) x y pts = shL l frs x y pts ∧ shD l (torn frs frs.length) x y pts = shD l frs x y pts ∧ shE l (torn frs frs.length) x y pts = shE l frs x y pts := by
  obtain ⟨h1, h2, h0, hx, hy⟩ := wfE_two h
  have hl := torn_len frs frs.length
  have e0 : wfE l (torn frs frs.length) [x, y] = 0 := by
    unfold wfE
    rw [if_pos (tpE_ok h1 (by omega)), hasA_two, hx, hy]
    rfl
  have e1 : shV l (torn frs frs.length) x = shV l frs x := by
    unfold shV; rw [hl]; exact smV_torn _ _ h1.w1 _ _ (Nat.le_refl _)
  have e2 : shM l (torn frs frs.length) x y = shM l frs x y := by
    unfold shM; rw [hl]; exact smM_torn _ _ _ h1.w1 _ _ (Nat.le_refl _)
  refine ⟨e0, ?_, ?_, ?_⟩
  · unfold shL; rw [if_pos e0, if_pos h, e1, e2]
  · unfold shD; rw [if_pos e0, if_pos h, e1, e2]
  · unfold shE; rw [if_pos e0, if_pos h, e1, e2]
end Go.Proofs.Ytgibbaadjbohdaa
/- Plain arithmetic: floor division by Go's '/' and '%'. -/
namespace Go.Proofs.Ytgibbaadjbohdaa

theorem floor_eq (a b : Int) (hb : 1 ≤ b) : a / b = if a.tmod b < 0 then a.tdiv b - 1 else a.tdiv b := by
  have e1 := Int.mul_tdiv_add_tmod a b
  have e5 := Int.tmod_lt_of_pos a (show 0 < b by omega)
  have e6 := Int.lt_tmod_of_pos a (show 0 < b by omega)
  split
  · rename_i h
    exact ((Int.ediv_emod_unique (a := a) (b := b) (r := a.tmod b + b) (q := a.tdiv b - 1) (by omega)).2 ⟨by rw [Int.mul_sub]; omega, by omega, by omega⟩).1
  · rename_i h
    exact ((Int.ediv_emod_unique (a := a) (b := b) (r := a.tmod b) (q := a.tdiv b) (by omega)).2 ⟨by omega, by omega, by omega⟩).1
theorem tdiv_bd (a b M : Int) (h1 : -M ≤ a) (h2 : a ≤ M) : -M ≤ a.tdiv b ∧ a.tdiv b ≤ M := by
  have := Int.natAbs_tdiv_le_natAbs a b
  omega
theorem ediv_bd (a b M : Int) (hM : 0 ≤ M) (hb : 1 ≤ b) (h1 : -M ≤ a) (h2 : a ≤ M) : -M ≤ a / b ∧ a / b ≤ M := by
  have e2 := Int.mul_ediv_add_emod a b
  have e3 := Int.emod_nonneg a (show b ≠ 0 by omega)
  constructor
  · refine (Int.le_ediv_iff_mul_le (by omega)).2 ?_
    have : -M * b ≤ -M * 1 := Int.mul_le_mul_of_nonpos_left (by omega) hb
    omega
  · refine Int.le_trans (Int.ediv_le_ediv (by omega) h2) ?_
    exact Int.ediv_le_self _ hM
end Go.Proofs.Ytgibbaadjbohdaa
/- What slices hold, said of lists: plain predicates on a world, kept by whatever leaves old blocks alone. -/
namespace Go.Proofs.Ytgibbaadjbohdaa
open Go.RowKit

def Ints (w : World) (A : Option Addr) (l : List Int) : Prop :=
  0 < l.length → ∃ b off, A = some ⟨b, off, none⟩ ∧ b < w.heap.size ∧ ∀ k, k < l.length → w.cell? ⟨b, off + k, none⟩ = some (.int .i64 (l[k]?.getD 0))
def Sps (w : World) (A : Option Addr) (l : List (Int × Int)) : Prop :=
  0 < l.length → ∃ b off, A = some ⟨b, off, none⟩ ∧ b < w.heap.size ∧ ∀ k, k < l.length →
    w.cell? ⟨b, off + k * 2, none⟩ = some (.int .i64 (l[k]?.getD (0, 0)).1) ∧ w.cell? ⟨b, off + k * 2 + 1, none⟩ = some (.int .i64 (l[k]?.getD (0, 0)).2)
def Mat (w : World) (A : Option Addr) (l : List (List Int)) : Prop :=
  0 < l.length → ∃ b off, A = some ⟨b, off, none⟩ ∧ b < w.heap.size ∧ ∀ k, k < l.length → ∃ B c, w.cell? ⟨b, off + k, none⟩ = some (.slice B (l[k]?.getD []).length c) ∧ Ints w B (l[k]?.getD [])
def Bxs (w : World) (A : Option Addr) (l : List (List (Int × Int))) : Prop :=
  0 < l.length → ∃ b off, A = some ⟨b, off, none⟩ ∧ b < w.heap.size ∧ ∀ k, k < l.length → ∃ B c, w.cell? ⟨b, off + k, none⟩ = some (.slice B (l[k]?.getD []).length c) ∧ Sps w B (l[k]?.getD [])

section
variable {w w' : World} {A : Option Addr}
theorem Ints.below {l : List Int} (h : Ints w A l) (hb : Below w.heap.size w w') : Ints w' A l := fun hl => by
  obtain ⟨b, off, e, hlt, hc⟩ := h hl
  exact ⟨b, off, e, Nat.lt_of_lt_of_le hlt hb.size, fun k hk => (hb.cell (p := ⟨b, off + k, none⟩) hlt).trans (hc k hk)⟩
theorem Sps.below {l : List (Int × Int)} (h : Sps w A l) (hb : Below w.heap.size w w') : Sps w' A l := fun hl => by
  obtain ⟨b, off, e, hlt, hc⟩ := h hl
  exact ⟨b, off, e, Nat.lt_of_lt_of_le hlt hb.size, fun k hk => ⟨(hb.cell (p := ⟨b, off + k * 2, none⟩) hlt).trans (hc k hk).1, (hb.cell (p := ⟨b, off + k * 2 + 1, none⟩) hlt).trans (hc k hk).2⟩⟩
theorem Mat.below {l : List (List Int)} (h : Mat w A l) (hb : Below w.heap.size w w') : Mat w' A l := fun hl => by
  obtain ⟨b, off, e, hlt, hc⟩ := h hl
  refine ⟨b, off, e, Nat.lt_of_lt_of_le hlt hb.size, fun k hk => ?_⟩
  obtain ⟨B, c, h1, h2⟩ := hc k hk
  exact ⟨B, c, (hb.cell (p := ⟨b, off + k, none⟩) hlt).trans h1, h2.below hb⟩
theorem Bxs.below {l : List (List (Int × Int))} (h : Bxs w A l) (hb : Below w.heap.size w w') : Bxs w' A l := fun hl => by
  obtain ⟨b, off, e, hlt, hc⟩ := h hl
  refine ⟨b, off, e, Nat.lt_of_lt_of_le hlt hb.size, fun k hk => ?_⟩
  obtain ⟨B, c, h1, h2⟩ := hc k hk
  exact ⟨B, c, (hb.cell (p := ⟨b, off + k, none⟩) hlt).trans h1, h2.below hb⟩
end
theorem Below.drewN' {B : Nat} {a w : World} (h : Below B a w) (n : Nat) : Below B a (w.drewN n) := ⟨h.os, h.tape, h.output, h.size, h.block⟩
end Go.Proofs.Ytgibbaadjbohdaa
/- The contracts of the small functions of package spans (floor, within, valid, spanned, Check ..): what each returns; old memory stays. -/
namespace Go.Proofs.Ytgibbaadjbohdaa
open Go.RowKit

def wB (a b c : Int) : Bool := decide (b ≤ a) && decide (a ≤ c)
theorem within_any (a b c : Int) (w : World) :
    Calls Try.prog 74 #[.int .i64 a, .int .i64 b, .int .i64 c] w fun e w' => e = .returned (.bool (wB a b c)) ∧ w' = w := by
  by_cases h1 : b ≤ a <;> by_cases h2 : a ≤ c
  all_goals
    go_enter Try.func74, Try.ntmps74
    go_wp2
    go_ret
    simp [wB, h1, h2]
def vB (x : Int × Int) : Bool := wB x.1 (-1000000) x.2 && decide (x.2 ≤ 1000000)
set_option maxHeartbeats 400000 in
theorem valid_any (x : Int × Int) (w : World) :
    Calls Try.prog 82 #[.agg #[.int .i64 x.1, .int .i64 x.2]] w fun e w' => e = .returned (.bool (vB x)) ∧ Below w.heap.size w w' := by
  obtain ⟨lo, hi⟩ := x
  show Calls Try.prog 82 #[.agg #[.int .i64 lo, .int .i64 hi]] w _
  have key : ∀ b : Bool, wB lo (-1000000) hi = b → Calls Try.prog 82 #[.agg #[.int .i64 lo, .int .i64 hi]] w fun e w' => e = .returned (.bool (b && decide (hi ≤ 1000000))) ∧ Below w.heap.size w w' := by
    intro b hb
    have H := Lib.hid hb
    clear hb
    cases b
    all_goals
      go_enter Try.func82, Try.ntmps82
      go_wp2_with (go_at_call 74; refine (within_any _ _ _ _).mono ?_; rintro e w' ⟨rfl, rfl⟩; rw [H.out])
      go_ret
      exact ⟨by simp, (Below.refl _ _).alloc (Nat.le_refl _) _⟩
  exact key _ rfl
set_option maxHeartbeats 400000 in
theorem spanned1_any (x : Int × Int) (w : World) :
    Calls Try.prog 81 #[.agg #[.int .i64 x.1, .int .i64 x.2]] w fun e w' => e = .returned (.bool (!vB x)) ∧ Below w.heap.size w w' := by
  obtain ⟨lo, hi⟩ := x
  show Calls Try.prog 81 #[.agg #[.int .i64 lo, .int .i64 hi]] w _
  go_enter Try.func81, Try.ntmps81
  go_wp2_with (go_at_call 82; refine (valid_any (_, _) _).mono ?_; rintro e w' ⟨rfl, hb⟩)
  go_ret
  exact ⟨rfl, ((Below.refl _ _).alloc (Nat.le_refl _) _).trans (hb.mono (by simp))⟩

def Enters (P : Program) (g : Nat) : Prop := ∀ (args : Array Value) (w : World), (callFunc g args).run P w = .ok (.enter g args) w
/-- the first index at which p holds, from k on -/
def idxP {α : Type} (p : α → Bool) : List α → Nat → Int
  | [], _ => -1
  | x :: xs, k => if p x then (k : Int) else idxP p xs (k + 1)
theorem idxP_ge {α : Type} (p : α → Bool) (l : List α) (k : Nat) : decide (0 ≤ idxP p l k) = l.any p := by
  induction l generalizing k with
  | nil => simp [idxP]
  | cons x xs ih => unfold idxP; by_cases h : p x = true <;> simp [h, ih]
theorem idxP_drop {α : Type} (p : α → Bool) (l : List α) (d : α) (k : Nat) (h : k < l.length) : idxP p (l.drop k) k = if p (l[k]?.getD d) then (k : Int) else idxP p (l.drop (k + 1)) (k + 1) := by
  rw [List.drop_eq_getElem_cons h]
  simp [idxP, h]
set_option maxHeartbeats 400000 in
theorem indexFuncSpan (g : Nat) (p : Int × Int → Bool) (A : Option Addr) (l : List (Int × Int)) (c : Nat) (w : World) (hl : l.length ≤ 4611686018427387904) (hA : Sps w A l) (he : Enters Try.prog g)
   (hg : ∀ (x : Int × Int) (w' : World), Calls Try.prog g #[.agg #[.int .i64 x.1, .int .i64 x.2]] w' fun e w'' => e = .returned (.bool (p x)) ∧ Below w'.heap.size w' w'') :
   Calls Try.prog 118 #[.slice A l.length c, .func (.func g) #[] #[]] w fun e w' => e = .returned (.int .i64 (idxP p l 0)) ∧ Below w.heap.size w w' := by
  have HG := Lib.hid hg
  have HA := Lib.hid hA
  clear hg hA
  unfold Enters at he
  go_enter Try.func118, Try.ntmps118
  go_wp2
  go_loopw [5, 8] (fun _ i wr => ∃ k : Nat, k ≤ l.length ∧ i = .int .i64 k ∧ idxP p (l.drop k) k = idxP p l 0 ∧ Below w.heap.size w wr) (fun _ i _ => l.length - (intOf i).toNat)
  case atStart => exact ⟨0, by omega, rfl, by simp, Below.refl _ _⟩
  case round =>
    obtain ⟨k, hk, rfl, hp, hb⟩ := hrel
    have HP := Lib.hid hp
    clear hp
    by_cases hlt : k < l.length
    · obtain ⟨b, off, rfl, hbl, hc⟩ := HA.out (by omega)
      have h1 := (hb.cell (p := ⟨b, off + k * 2, none⟩) hbl).trans (hc k hlt).1
      have h2 := (hb.cell (p := ⟨b, off + k * 2 + 1, none⟩) hbl).trans (hc k hlt).2
      have hd := Lib.hid (idxP_drop p l (0, 0) k hlt)
      clear hc
      generalize hx : l[k]?.getD (0, 0) = x at h1 h2
      have HX := Lib.hid hx
      clear hx
      go_wp2_with fail
      refine (HG.out x _).mono ?_
      rintro e w1 ⟨rfl, hb1⟩
      have hb2 := hb.trans (hb1.mono hb.size)
      clear hb1
      by_cases hpx : p x = true
      · rw [hpx]
        go_wp2
        go_ret
        refine ⟨?_, hb2⟩
        rw [← HP.out, hd.out, HX.out, if_pos hpx]; rfl
      · have hpx' : p x = false := by simpa using hpx
        rw [hpx']
        go_wp2
        go_roundw
        case rel => exact ⟨k + 1, by omega, by go_num, by rw [← HP.out, hd.out, HX.out, if_neg hpx], hb2⟩
        case measure => simp [intOf]; omega
    · go_wp2
      go_ret
      refine ⟨?_, hb⟩
      rw [← HP.out, List.drop_eq_nil_of_le (by omega)]; rfl
set_option maxHeartbeats 400000 in
theorem containsFuncSpan (g : Nat) (p : Int × Int → Bool) (A : Option Addr) (l : List (Int × Int)) (c : Nat) (w : World) (hl : l.length ≤ 4611686018427387904) (hA : Sps w A l) (he : Enters Try.prog g)
   (hg : ∀ (x : Int × Int) (w' : World), Calls Try.prog g #[.agg #[.int .i64 x.1, .int .i64 x.2]] w' fun e w'' => e = .returned (.bool (p x)) ∧ Below w'.heap.size w' w'') :
   Calls Try.prog 80 #[.slice A l.length c, .func (.func g) #[] #[]] w fun e w' => e = .returned (.bool (l.any p)) ∧ Below w.heap.size w w' := by
  have H := Lib.hid (indexFuncSpan g p A l c w hl hA he hg)
  clear hg hA he
  go_enter Try.func80, Try.ntmps80
  go_wp2_with fail
  refine H.out.mono ?_
  rintro e w1 ⟨rfl, hb1⟩
  go_wp2
  go_ret
  exact ⟨by rw [← idxP_ge p l 0]; rfl, hb1⟩

theorem enters_spanned1 : Enters Try.prog 81 := fun _ _ => by kernel_rfl
def spErr (l : List (Int × Int)) : Int := if l.any (fun x => !vB x) then 10 else 0
set_option maxHeartbeats 400000 in
theorem spanned_any (A : Option Addr) (l : List (Int × Int)) (c : Nat) (w : World) (hl : l.length ≤ 4611686018427387904) (hA : Sps w A l) :
   Calls Try.prog 44 #[.slice A l.length c] w fun e w' => e = .returned (.int .i64 (spErr l)) ∧ Below w.heap.size w w' := by
  have H := Lib.hid (containsFuncSpan 81 (fun x => !vB x) A l c w hl hA enters_spanned1 (fun x w' => spanned1_any x w'))
  clear hA
  by_cases h : l.any (fun x => !vB x) = true
  · have E := Lib.hid h
    have R : Hid (spErr l = 10) := by unfold Hid spErr; rw [if_pos h]
    clear h
    go_enter Try.func44, Try.ntmps44
    go_wp2_with fail
    refine H.out.mono ?_
    rintro e w1 ⟨rfl, hb1⟩
    rw [E.out]
    go_wp2
    go_ret
    exact ⟨by rw [R.out]; rfl, hb1⟩
  · have R : Hid (spErr l = 0) := by unfold Hid spErr; rw [if_neg h]
    have h' : l.any (fun x => !vB x) = false := by simpa using h
    have E := Lib.hid h'
    clear h h'
    go_enter Try.func44, Try.ntmps44
    go_wp2_with fail
    refine H.out.mono ?_
    rintro e w1 ⟨rfl, hb1⟩
    rw [E.out]
    go_wp2
    go_ret
    exact ⟨by rw [R.out]; rfl, hb1⟩
end Go.Proofs.Ytgibbaadjbohdaa
/- The contracts of axis, CheckTable and what it hands to slices.ContainsFunc, floor, ceil: what each returns; old memory stays. -/
namespace Go.Proofs.Ytgibbaadjbohdaa
open Go.RowKit

set_option maxHeartbeats 400000 in
theorem floor_any (a b : Int) (w : World) (hb : 1 ≤ b) (hb' : b ≤ 4000000000000000000) (ha : -4000000000000000000 ≤ a) (ha' : a ≤ 4000000000000000000):
    Calls Try.prog 69 #[.int .i64 a, .int .i64 b] w fun e w' => e = .returned (.int .i64 (a / b)) ∧ w' = w := by
  have F := Lib.hid (floor_eq a b hb)
  obtain ⟨hq1, hq2⟩ := tdiv_bd a b _ ha ha'
  go_enter Try.func69, Try.ntmps69
  go_wp2
  all_goals
    go_ret
    refine ⟨?_, rfl⟩
  · rw [F.out, if_pos (by assumption)]; rfl
  · rw [F.out, if_neg (by omega)]; rfl
set_option maxHeartbeats 400000 in
theorem ceil_any (a b : Int) (w : World) (hb : 1 ≤ b) (hb' : b ≤ 4000000000000000000) (ha : -4000000000000000000 ≤ a) (ha' : a ≤ 4000000000000000000):
    Calls Try.prog 75 #[.int .i64 a, .int .i64 b] w fun e w' => e = .returned (.int .i64 (-(-a / b))) ∧ w' = w := by
  obtain ⟨hq1, hq2⟩ := ediv_bd (-a) b 4000000000000000000 (by omega) hb (by omega) (by omega)
  go_enter Try.func75, Try.ntmps75
  go_wp2_with (go_at_call 69; refine (floor_any _ _ _ (by omega) (by omega) (by omega) (by omega)).mono ?_; rintro e w' ⟨rfl, rfl⟩)
  go_ret
  exact ⟨rfl, rfl⟩
set_option maxHeartbeats 400000 in
theorem up_any (a b : Int) (w : World) (hb : 1 ≤ b) (hb' : b ≤ 4000000000000000000) (ha : -4000000000000000000 ≤ a) (ha' : a ≤ 4000000000000000000):
    Calls Try.prog 70 #[.agg #[.int .i64 a, .int .i64 b]] w fun e w' => e = .returned (.int .i64 (-(-a / b))) ∧ Below w.heap.size w w' := by
  go_enter Try.func70, Try.ntmps70
  go_wp2_with (go_at_call 75; refine (ceil_any _ _ _ (by omega) (by omega) (by omega) (by omega)).mono ?_; rintro e w' ⟨rfl, rfl⟩)
  go_ret
  exact ⟨rfl, (Below.refl _ _).alloc (Nat.le_refl _) _⟩

/-- knots, the one before the first at hand -/
def axFrom : Option Int → List Int → Bool
  | _, [] => true
  | p, x :: xs => wB x (-1000000) 1000000 && (match p with | none => true | some y => wB (x - y) 1 10000) && axFrom (some x) xs
def axB (l : List Int) : Bool := wB l.length 2 12 && axFrom none l
def prev (l : List Int) (k : Nat) : Option Int := if k = 0 then none else some (l[k - 1]?.getD 0)
theorem axFrom_drop (l : List Int) (k : Nat) (h : k < l.length) : axFrom (prev l k) (l.drop k) = (wB (l[k]?.getD 0) (-1000000) 1000000 && (if k = 0 then true else wB (l[k]?.getD 0 - l[k-1]?.getD 0) 1 10000) && axFrom (prev l (k + 1)) (l.drop (k + 1))) := by
  rw [List.drop_eq_getElem_cons h]
  have e : l[k]?.getD 0 = l[k] := by simp [h]
  by_cases hk : k = 0
  · subst hk; simp [prev, e, axFrom]
  · simp [prev, hk, e, axFrom]
theorem wB_iff {a b c : Int} : wB a b c = true ↔ b ≤ a ∧ a ≤ c := by simp [wB]
set_option maxHeartbeats 1000000 in
theorem axis_any (A : Option Addr) (l : List Int) (c : Nat) (w : World) (hl : l.length ≤ 4611686018427387904) (hA : Ints w A l) :
    Calls Try.prog 137 #[.slice A l.length c] w fun e w' => e = .returned (.bool (axB l)) ∧ w' = w := by
  by_cases hw : wB l.length 2 12 = true
  · have E := Lib.hid hw
    obtain ⟨h2, h12⟩ := wB_iff.1 hw
    have R : Hid (axB l = axFrom none l) := by unfold Hid axB; rw [hw]; rfl
    obtain ⟨b, off, rfl, hbl, hc⟩ := hA (by omega)
    have HC := Lib.hid hc
    clear hw hc hA
    go_enter Try.func137, Try.ntmps137
    go_wp2_with (go_at_call 74; refine (within_any _ _ _ _).mono ?_; rintro e w' ⟨rfl, rfl⟩; rw [E.out])
    go_loop [3, 4, 11] (fun _ _ i => ∃ k : Nat, k ≤ l.length ∧ i = .int .i64 k ∧ axFrom (prev l k) (l.drop k) = axFrom none l ∧ (0 < k → -1000000 ≤ l[k-1]?.getD 0 ∧ l[k-1]?.getD 0 ≤ 1000000)) (fun _ _ i => l.length - (intOf i).toNat)
    case atStart => exact ⟨0, by omega, rfl, by simp [prev], by omega⟩
    case round =>
      obtain ⟨k, hk, rfl, hp, hbd⟩ := hrel
      have HP := Lib.hid hp
      have HB := Lib.hid hbd
      clear hp hbd
      by_cases hlt : k < l.length
      · have hd := Lib.hid (axFrom_drop l k hlt)
        have h1 := HC.out k hlt
        generalize hx : l[k]?.getD 0 = x at h1
        have HX := Lib.hid hx
        clear hx
        by_cases hv : wB x (-1000000) 1000000 = true
        · have hvb := wB_iff.1 hv
          have HV := Lib.hid hv
          clear hv
          by_cases hk0 : k = 0
          · subst hk0
            simp only [Nat.add_zero] at h1
            go_wp2_with (go_at_call 74; refine (within_any _ _ _ _).mono ?_; rintro e w' ⟨rfl, rfl⟩; rw [HV.out])
            go_round
            case rel => exact ⟨1, by omega, by go_num, by rw [← HP.out, hd.out, HX.out, HV.out]; simp, fun _ => by simpa [HX.out] using hvb⟩
            case measure => simp [intOf]; omega
          · obtain ⟨j, rfl⟩ : ∃ j, k = j + 1 := ⟨k - 1, by omega⟩
            have h3 := HC.out j (by omega)
            have hyb := HB.out (by omega)
            simp only [Nat.add_sub_cancel] at hyb
            generalize hy : l[j]?.getD 0 = y at h3 hyb
            have HY := Lib.hid hy
            clear hy hk0
            have hj0 : (0 : Int) < (j : Int) + 1 := by omega
            by_cases hv2 : wB (x - y) 1 10000 = true
            · have HV2 := Lib.hid hv2
              clear hv2
              go_wp2_with (go_at_call 74; refine (within_any _ _ _ _).mono ?_; rintro e w' ⟨rfl, rfl⟩; first | rw [HV.out] | rw [HV2.out])
              go_round
              case rel => exact ⟨j + 1 + 1, by omega, by go_num, by rw [← HP.out, hd.out, HX.out, HV.out]; simp [HY.out, HV2.out], fun _ => by simpa [HX.out] using hvb⟩
              case measure => simp [intOf]; omega
            · have hv3 : wB (x - y) 1 10000 = false := by simpa using hv2
              have HV2 := Lib.hid hv3
              clear hv2 hv3
              go_wp2_with (go_at_call 74; refine (within_any _ _ _ _).mono ?_; rintro e w' ⟨rfl, rfl⟩; first | rw [HV.out] | rw [HV2.out])
              go_ret
              exact ⟨by rw [R.out, ← HP.out, hd.out, HX.out, HV.out]; simp [HY.out, HV2.out], rfl⟩
        · have hv3 : wB x (-1000000) 1000000 = false := by simpa using hv
          have HV := Lib.hid hv3
          clear hv hv3
          go_wp2_with (go_at_call 74; refine (within_any _ _ _ _).mono ?_; rintro e w' ⟨rfl, rfl⟩; rw [HV.out])
          go_ret
          exact ⟨by rw [R.out, ← HP.out, hd.out, HX.out, HV.out]; simp, rfl⟩
      · go_wp2
        go_ret
        exact ⟨by rw [R.out, ← HP.out, List.drop_eq_nil_of_le (by omega)]; simp [axFrom], rfl⟩
  · have hw' : wB l.length 2 12 = false := by simpa using hw
    have E := Lib.hid hw'
    have R : Hid (axB l = false) := by unfold Hid axB; rw [hw']; rfl
    clear hw hw' hA
    go_enter Try.func137, Try.ntmps137
    go_wp2_with (go_at_call 74; refine (within_any _ _ _ _).mono ?_; rintro e w' ⟨rfl, rfl⟩; rw [E.out])
    go_ret
    exact ⟨by rw [R.out]; rfl, rfl⟩
end Go.Proofs.Ytgibbaadjbohdaa
/- The contract of spans.CheckTable: 0 or ErrTable; old memory stays. -/
namespace Go.Proofs.Ytgibbaadjbohdaa
open Go.RowKit

theorem ct1_any (n : Int) (w : World) :
    Calls Try.prog 135 #[.int .i64 n] w fun e w' => e = .returned (.bool (!wB n (-1000000) 1000000)) ∧ w' = w := by
  go_enter Try.func135, Try.ntmps135
  go_wp2_with (go_at_call 74; refine (within_any _ _ _ _).mono ?_; rintro e w' ⟨rfl, rfl⟩)
  go_ret
  exact ⟨rfl, rfl⟩
set_option maxHeartbeats 400000 in
theorem indexFuncInt (g : Nat) (p : Int → Bool) (A : Option Addr) (l : List Int) (c : Nat) (w : World) (hl : l.length ≤ 4611686018427387904) (hA : Ints w A l) (he : Enters Try.prog g)
   (hg : ∀ (x : Int) (w' : World), Calls Try.prog g #[.int .i64 x] w' fun e w'' => e = .returned (.bool (p x)) ∧ Below w'.heap.size w' w'') :
   Calls Try.prog 129 #[.slice A l.length c, .func (.func g) #[] #[]] w fun e w' => e = .returned (.int .i64 (idxP p l 0)) ∧ Below w.heap.size w w' := by
  have HG := Lib.hid hg
  have HA := Lib.hid hA
  clear hg hA
  unfold Enters at he
  go_enter Try.func129, Try.ntmps129
  go_wp2
  go_loopw [5, 8] (fun _ i wr => ∃ k : Nat, k ≤ l.length ∧ i = .int .i64 k ∧ idxP p (l.drop k) k = idxP p l 0 ∧ Below w.heap.size w wr) (fun _ i _ => l.length - (intOf i).toNat)
  case atStart => exact ⟨0, by omega, rfl, by simp, Below.refl _ _⟩
  case round =>
    obtain ⟨k, hk, rfl, hp, hb⟩ := hrel
    have HP := Lib.hid hp
    clear hp
    by_cases hlt : k < l.length
    · obtain ⟨b, off, rfl, hbl, hc⟩ := HA.out (by omega)
      have h1 := (hb.cell (p := ⟨b, off + k, none⟩) hbl).trans (hc k hlt)
      have hd := Lib.hid (idxP_drop p l 0 k hlt)
      clear hc
      generalize hx : l[k]?.getD 0 = x at h1
      have HX := Lib.hid hx
      clear hx
      go_wp2_with fail
      refine (HG.out x _).mono ?_
      rintro e w1 ⟨rfl, hb1⟩
      have hb2 := hb.trans (hb1.mono hb.size)
      clear hb1
      by_cases hpx : p x = true
      · rw [hpx]
        go_wp2
        go_ret
        refine ⟨?_, hb2⟩
        rw [← HP.out, hd.out, HX.out, if_pos hpx]; rfl
      · have hpx' : p x = false := by simpa using hpx
        rw [hpx']
        go_wp2
        go_roundw
        case rel => exact ⟨k + 1, by omega, by go_num, by rw [← HP.out, hd.out, HX.out, if_neg hpx], hb2⟩
        case measure => simp [intOf]; omega
    · go_wp2
      go_ret
      refine ⟨?_, hb⟩
      rw [← HP.out, List.drop_eq_nil_of_le (by omega)]; rfl
set_option maxHeartbeats 400000 in
theorem containsFuncInt (g : Nat) (p : Int → Bool) (A : Option Addr) (l : List Int) (c : Nat) (w : World) (hl : l.length ≤ 4611686018427387904) (hA : Ints w A l) (he : Enters Try.prog g)
   (hg : ∀ (x : Int) (w' : World), Calls Try.prog g #[.int .i64 x] w' fun e w'' => e = .returned (.bool (p x)) ∧ Below w'.heap.size w' w'') :
   Calls Try.prog 94 #[.slice A l.length c, .func (.func g) #[] #[]] w fun e w' => e = .returned (.bool (l.any p)) ∧ Below w.heap.size w w' := by
  have H := Lib.hid (indexFuncInt g p A l c w hl hA he hg)
  clear hg hA he
  go_enter Try.func94, Try.ntmps94
  go_wp2_with fail
  refine H.out.mono ?_
  rintro e w1 ⟨rfl, hb1⟩
  go_wp2
  go_ret
  exact ⟨by rw [← idxP_ge p l 0]; rfl, hb1⟩
theorem enters_ct1 : Enters Try.prog 135 := fun _ _ => by kernel_rfl
theorem enters_ct2 : Enters Try.prog 136 := fun _ _ => by kernel_rfl

/- rows and a function value that has caught two variables -/
set_option maxHeartbeats 400000 in
theorem indexFuncRow (g : Nat) (p : List Int → Bool) (u v : Value) (A : Option Addr) (l : List (List Int)) (c : Nat) (w : World) (hl : l.length ≤ 4611686018427387904) (hA : Mat w A l) (he : Enters Try.prog g)
   (hg : ∀ (B : Option Addr) (x : List Int) (d : Nat) (w' : World), x ∈ l → Below w.heap.size w w' → Ints w' B x → Calls Try.prog g #[.slice B x.length d, u, v] w' fun e w'' => e = .returned (.bool (p x)) ∧ Below w'.heap.size w' w'') :
   Calls Try.prog 149 #[.slice A l.length c, .func (.func g) #[] #[u, v]] w fun e w' => e = .returned (.int .i64 (idxP p l 0)) ∧ Below w.heap.size w w' := by
  have HG := Lib.hid hg
  have HA := Lib.hid hA
  clear hg hA
  unfold Enters at he
  go_enter Try.func149, Try.ntmps149
  go_wp2
  go_loopw [5, 8] (fun _ i wr => ∃ k : Nat, k ≤ l.length ∧ i = .int .i64 k ∧ idxP p (l.drop k) k = idxP p l 0 ∧ Below w.heap.size w wr) (fun _ i _ => l.length - (intOf i).toNat)
  case atStart => exact ⟨0, by omega, rfl, by simp, Below.refl _ _⟩
  case round =>
    obtain ⟨k, hk, rfl, hp, hb⟩ := hrel
    have HP := Lib.hid hp
    clear hp
    by_cases hlt : k < l.length
    · obtain ⟨b, off, rfl, hbl, hc⟩ := HA.out (by omega)
      obtain ⟨B, d, hc1, hB⟩ := hc k hlt
      have h1 := (hb.cell (p := ⟨b, off + k, none⟩) hbl).trans hc1
      have hd := Lib.hid (idxP_drop p l [] k hlt)
      have hm : l[k]?.getD [] ∈ l := by simp [hlt]
      have HI := Lib.hid (hB.below hb)
      clear hc hc1 hB
      generalize hx : l[k]?.getD [] = x at h1 HI hm
      have HX := Lib.hid hx
      have HM := Lib.hid hm
      clear hx hm
      go_wp2_with fail
      refine (HG.out B x d _ HM.out hb HI.out).mono ?_
      rintro e w1 ⟨rfl, hb1⟩
      have hb2 := hb.trans (hb1.mono hb.size)
      clear hb1
      by_cases hpx : p x = true
      · rw [hpx]
        go_wp2
        go_ret
        refine ⟨?_, hb2⟩
        rw [← HP.out, hd.out, HX.out, if_pos hpx]; rfl
      · have hpx' : p x = false := by simpa using hpx
        rw [hpx']
        go_wp2
        go_roundw
        case rel => exact ⟨k + 1, by omega, by go_num, by rw [← HP.out, hd.out, HX.out, if_neg hpx], hb2⟩
        case measure => simp [intOf]; omega
    · go_wp2
      go_ret
      refine ⟨?_, hb⟩
      rw [← HP.out, List.drop_eq_nil_of_le (by omega)]; rfl
set_option maxHeartbeats 400000 in
theorem containsFuncRow (g : Nat) (p : List Int → Bool) (u v : Value) (A : Option Addr) (l : List (List Int)) (c : Nat) (w : World) (hl : l.length ≤ 4611686018427387904) (hA : Mat w A l) (he : Enters Try.prog g)
   (hg : ∀ (B : Option Addr) (x : List Int) (d : Nat) (w' : World), x ∈ l → Below w.heap.size w w' → Ints w' B x → Calls Try.prog g #[.slice B x.length d, u, v] w' fun e w'' => e = .returned (.bool (p x)) ∧ Below w'.heap.size w' w'') :
   Calls Try.prog 138 #[.slice A l.length c, .func (.func g) #[] #[u, v]] w fun e w' => e = .returned (.bool (l.any p)) ∧ Below w.heap.size w w' := by
  have H := Lib.hid (indexFuncRow g p u v A l c w hl hA he hg)
  clear hg hA he
  go_enter Try.func138, Try.ntmps138
  go_wp2_with fail
  refine H.out.mono ?_
  rintro e w1 ⟨rfl, hb1⟩
  go_wp2
  go_ret
  exact ⟨by rw [← idxP_ge p l 0]; rfl, hb1⟩

def rowBad (n : Nat) (r : List Int) : Bool := ((r.length : Int) != (n : Int)) || r.any (fun x => !wB x (-1000000) 1000000)
set_option maxHeartbeats 400000 in
theorem ct2_any (B Y : Option Addr) (x ys : List Int) (d cy bt bo : Nat) (w : World) (hx : x.length ≤ 4611686018427387904) (hB : Ints w B x)
    (h1 : w.cell? ⟨bt, 1, none⟩ = some (.slice Y ys.length cy)) (h2 : w.cell? ⟨bo, 0, none⟩ = some (.func (.func 135) #[] #[])) :
    Calls Try.prog 136 #[.slice B x.length d, .pointer (some ⟨bt, 0, none⟩), .pointer (some ⟨bo, 0, none⟩)] w fun e w' => e = .returned (.bool (rowBad ys.length x)) ∧ Below w.heap.size w w' := by
  have H := Lib.hid (containsFuncInt 135 (fun x => !wB x (-1000000) 1000000) B x d w hx hB enters_ct1 (fun x w' => (ct1_any x w').mono (fun e w'' ⟨h, h'⟩ => ⟨h, h' ▸ Below.refl _ _⟩)))
  clear hB
  by_cases hn : ((x.length : Int) != (ys.length : Int)) = true
  · have R : Hid (rowBad ys.length x = true) := by unfold Hid rowBad; rw [hn]; rfl
    go_enter Try.func136, Try.ntmps136
    go_wp2
    go_ret
    exact ⟨by rw [R.out]; rfl, Below.refl _ _⟩
  · have hn' : ((x.length : Int) != (ys.length : Int)) = false := by simpa using hn
    have R : Hid (rowBad ys.length x = x.any (fun x => !wB x (-1000000) 1000000)) := by unfold Hid rowBad; rw [hn']; rfl
    clear hn
    go_enter Try.func136, Try.ntmps136
    go_wp2_with fail
    refine H.out.mono ?_
    rintro e w1 ⟨rfl, hb1⟩
    go_wp2
    go_ret
    exact ⟨by rw [R.out]; rfl, hb1⟩
end Go.Proofs.Ytgibbaadjbohdaa
/- The contract of spans.CheckTable: 0 or ErrTable; old memory stays. -/
namespace Go.Proofs.Ytgibbaadjbohdaa
open Go.RowKit

def tabB (xs ys : List Int) (vs : List (List Int)) : Bool := axB xs && axB ys && !((vs.length : Int) != (xs.length : Int)) && !vs.any (rowBad ys.length)
def tabErr (xs ys : List Int) (vs : List (List Int)) : Int := if tabB xs ys vs then 0 else 11
def RowsLe (vs : List (List Int)) : Prop := ∀ r, r ∈ vs → r.length ≤ 4611686018427387904
set_option maxHeartbeats 1000000 in
theorem checkTable_any (xs ys : List Int) (vs : List (List Int)) (X Y V : Option Addr) (cx cy cv : Nat) (w : World)
   (hxl : xs.length ≤ 4611686018427387904) (hyl : ys.length ≤ 4611686018427387904) (hvl : vs.length ≤ 4611686018427387904) (hr : RowsLe vs)
   (hX : Ints w X xs) (hY : Ints w Y ys) (hV : Mat w V vs) :
   Calls Try.prog 110 #[.agg #[.slice X xs.length cx, .slice Y ys.length cy, .slice V vs.length cv]] w fun e w' => e = .returned (.int .i64 (tabErr xs ys vs)) ∧ Below w.heap.size w w' := by
  have hB2 : ∀ (o1 o2 : Obj), Below w.heap.size w ((w.alloc o1).alloc o2) := fun o1 o2 => ((Below.refl _ w).alloc (Nat.le_refl _) _).alloc (by simp) _
  have HB2 := Lib.hid hB2
  have HXx := Lib.hid hX
  have HYy := Lib.hid hY
  have HVv := Lib.hid hV
  have HR := Lib.hid hr
  clear hX hY hV hr hB2
  by_cases hx : axB xs = true
  · have EX := Lib.hid hx
    by_cases hy : axB ys = true
    · have EY := Lib.hid hy
      by_cases hn : ((vs.length : Int) != (xs.length : Int)) = true
      · have R : Hid (tabErr xs ys vs = 11) := by unfold Hid tabErr tabB; rw [hn]; simp
        clear hx hy
        go_enter Try.func110, Try.ntmps110
        go_wp2_with fail
        refine (axis_any X xs cx _ hxl (HXx.out.below (HB2.out _ _))).mono ?_
        rintro e w' ⟨rfl, rfl⟩
        rw [EX.out]
        go_wp2_with fail
        refine (axis_any Y ys cy _ hyl (HYy.out.below (HB2.out _ _))).mono ?_
        rintro e w' ⟨rfl, rfl⟩
        rw [EY.out]
        go_wp2_with fail
        go_ret
        exact ⟨by rw [R.out]; rfl, HB2.out _ _⟩
      · have hn' : ((vs.length : Int) != (xs.length : Int)) = false := by simpa using hn
        have R : Hid (tabErr xs ys vs = if vs.any (rowBad ys.length) then 11 else 0) := by unfold Hid tabErr tabB; rw [hn', hx, hy]; cases vs.any (rowBad ys.length) <;> rfl
        clear hx hy hn
        go_enter Try.func110, Try.ntmps110
        go_wp2_with fail
        refine (axis_any X xs cx _ hxl (HXx.out.below (HB2.out _ _))).mono ?_
        rintro e w' ⟨rfl, rfl⟩
        rw [EX.out]
        go_wp2_with fail
        refine (axis_any Y ys cy _ hyl (HYy.out.below (HB2.out _ _))).mono ?_
        rintro e w' ⟨rfl, rfl⟩
        rw [EY.out]
        go_wp2_with fail
        refine (containsFuncRow 136 (rowBad ys.length) _ _ V vs cv _ hvl (HVv.out.below (HB2.out _ _)) enters_ct2 ?_).mono ?_
        · intro B x d w' hm hb hI
          exact ct2_any B Y x ys d cy w.heap.size (w.heap.size + 1) w' (HR.out x hm) hI (by rw [hb.cell (by simp <;> omega)]; simp) (by rw [hb.cell (by simp <;> omega)]; simp)
        · rintro e w1 ⟨rfl, hb1⟩
          have hb2 := (HB2.out _ _).trans (hb1.mono (by simp; omega))
          clear hb1
          by_cases ha : vs.any (rowBad ys.length) = true
          · rw [ha]
            go_wp2_with fail
            go_ret
            exact ⟨by rw [R.out, if_pos ha]; rfl, hb2⟩
          · have ha' : vs.any (rowBad ys.length) = false := by simpa using ha
            rw [ha']
            go_wp2_with fail
            go_ret
            exact ⟨by rw [R.out, if_neg ha]; rfl, hb2⟩
    · have hy' : axB ys = false := by simpa using hy
      have EY := Lib.hid hy'
      have R : Hid (tabErr xs ys vs = 11) := by unfold Hid tabErr tabB; rw [hy']; simp
      clear hx hy hy'
      go_enter Try.func110, Try.ntmps110
      go_wp2_with fail
      refine (axis_any X xs cx _ hxl (HXx.out.below (HB2.out _ _))).mono ?_
      rintro e w' ⟨rfl, rfl⟩
      rw [EX.out]
      go_wp2_with fail
      refine (axis_any Y ys cy _ hyl (HYy.out.below (HB2.out _ _))).mono ?_
      rintro e w' ⟨rfl, rfl⟩
      rw [EY.out]
      go_wp2_with fail
      go_ret
      exact ⟨by rw [R.out]; rfl, HB2.out _ _⟩
  · have hx' : axB xs = false := by simpa using hx
    have EX := Lib.hid hx'
    have R : Hid (tabErr xs ys vs = 11) := by unfold Hid tabErr tabB; rw [hx']; simp
    clear hx hx'
    go_enter Try.func110, Try.ntmps110
    go_wp2_with fail
    refine (axis_any X xs cx _ hxl (HXx.out.below (HB2.out _ _))).mono ?_
    rintro e w' ⟨rfl, rfl⟩
    rw [EX.out]
    go_wp2_with fail
    go_ret
    exact ⟨by rw [R.out]; rfl, HB2.out _ _⟩
end Go.Proofs.Ytgibbaadjbohdaa
/- The contract of slices.BinarySearch at ints, and of spans.cell. -/
namespace Go.Proofs.Ytgibbaadjbohdaa
open Go.RowKit

theorem isNaN_any (n : Int) (w : World) : Calls Try.prog 155 #[.int .i64 n] w fun e w' => e = .returned (.bool false) ∧ w' = w := by
  have h : (n != n) = false := by simp
  go_enter Try.func155, Try.ntmps155
  go_wp2
  go_ret
  exact ⟨rfl, rfl⟩
theorem cisNaN_any (n : Int) (w : World) : Calls Try.prog 117 #[.int .i64 n] w fun e w' => e = .returned (.bool false) ∧ w' = w := by
  have h : (n != n) = false := by simp
  go_enter Try.func117, Try.ntmps117
  go_wp2
  go_ret
  exact ⟨rfl, rfl⟩
set_option maxHeartbeats 400000 in
theorem less_any (a b : Int) (w : World) : Calls Try.prog 154 #[.int .i64 a, .int .i64 b] w fun e w' => e = .returned (.bool (decide (a < b))) ∧ w' = w := by
  go_enter Try.func154, Try.ntmps154
  go_wp2_with (go_at_call 117; refine (cisNaN_any _ _).mono ?_; rintro e w' ⟨rfl, rfl⟩)
  go_ret
  exact ⟨rfl, rfl⟩
def BinAt (l : List Int) (x : Int) (i : Nat) : Prop := i ≤ l.length ∧ (0 < i → l[i-1]?.getD 0 < x) ∧ (i < l.length → x ≤ l[i]?.getD 0)
def BinPost (l : List Int) (x : Int) (w : World) (e : Ending) (w' : World) : Prop := ∃ (i : Nat) (b : Bool), BinAt l x i ∧ e = .returned (.tuple #[.int .i64 i, .bool b]) ∧ w' = w
set_option maxHeartbeats 400000 in
theorem binSearch_any (A : Option Addr) (l : List Int) (c : Nat) (x : Int) (w : World) (hl : l.length ≤ 1000000000) (hA : Ints w A l) :
    Calls Try.prog 153 #[.slice A l.length c, .int .i64 x] w (BinPost l x w) := by
  have HA := Lib.hid hA
  clear hA
  go_enter Try.func153, Try.ntmps153
  go_wp2
  go_loop [7, 8, 9] (fun i j _ => ∃ a b : Nat, a ≤ b ∧ b ≤ l.length ∧ i = .int .i64 a ∧ j = .int .i64 b ∧ (0 < a → l[a-1]?.getD 0 < x) ∧ (b < l.length → x ≤ l[b]?.getD 0)) (fun i j _ => (intOf j).toNat - (intOf i).toNat)
  case atStart => exact ⟨0, l.length, by omega, by omega, rfl, rfl, by omega, by omega⟩
  case round =>
    obtain ⟨a, b, hab, hbl, rfl, rfl, h1, h2⟩ := hrel
    have H1 := Lib.hid h1
    have H2 := Lib.hid h2
    clear h1 h2
    by_cases hlt : a < b
    · obtain ⟨bb, off, rfl, hbl2, hc⟩ := HA.out (by omega)
      have hc1 := hc ((a + b) / 2) (by omega)
      clear hc
      generalize hy : l[(a + b) / 2]?.getD 0 = y at hc1
      have HY := Lib.hid hy
      clear hy
      go_wp2_with fail
      refine (less_any _ _ _).mono ?_
      rintro e w' ⟨rfl, rfl⟩
      by_cases hyx : y < x
      · rw [decide_eq_true hyx]
        go_wp2_with fail
        go_round
        case rel => exact ⟨(a + b) / 2 + 1, b, by omega, by omega, by go_num, rfl, fun _ => by rw [Nat.add_sub_cancel, HY.out]; exact hyx, H2.out⟩
        case measure => simp [intOf]; omega
      · rw [decide_eq_false hyx]
        go_wp2_with fail
        go_round
        case rel => exact ⟨a, (a + b) / 2, by omega, by omega, rfl, by go_num, H1.out, fun _ => by rw [HY.out]; omega⟩
        case measure => simp [intOf]; omega
    · obtain rfl : a = b := by omega
      have HB : Hid (BinAt l x a) := ⟨hbl, H1.out, H2.out⟩
      clear H1 H2
      by_cases hal : a < l.length
      · obtain ⟨bb, off, rfl, hbl2, hc⟩ := HA.out (by omega)
        have hc1 := hc a hal
        clear hc
        generalize l[a]?.getD 0 = y at hc1
        by_cases hyx : (y == x) = true
        · go_wp2_with (go_at_call 155; refine (isNaN_any _ _).mono ?_; rintro e w' ⟨rfl, rfl⟩)
          go_ret2
          exact ⟨a, _, HB.out, rfl, rfl⟩
        · have hyx' : (y == x) = false := by simpa using hyx
          clear hyx
          go_wp2_with (go_at_call 155; refine (isNaN_any _ _).mono ?_; rintro e w' ⟨rfl, rfl⟩)
          go_ret2
          exact ⟨a, _, HB.out, rfl, rfl⟩
      · obtain rfl : a = l.length := by omega
        go_wp2_with (go_at_call 155; refine (isNaN_any _ _).mono ?_; rintro e w' ⟨rfl, rfl⟩)
        go_ret2
        exact ⟨_, _, HB.out, rfl, rfl⟩
end Go.Proofs.Ytgibbaadjbohdaa
/- The contract of spans.cell. -/
namespace Go.Proofs.Ytgibbaadjbohdaa
open Go.RowKit

/-- the number of the part of an axis: what spans.cell may return -/
def CellAt (l : List Int) (x : Int) (i : Nat) : Prop := i + 2 ≤ l.length ∧ (0 < i → l[i]?.getD 0 < x) ∧ (i + 2 < l.length → x ≤ l[i+1]?.getD 0)
theorem cellAt_of_bin (l : List Int) (x : Int) (i : Nat) (h2 : 2 ≤ l.length) (h : BinAt ((l.drop 1).take (l.length - 2)) x i) : CellAt l x i := by
  obtain ⟨h1, h3, h4⟩ := h
  have e : ((l.drop 1).take (l.length - 2)).length = l.length - 2 := by simp; omega
  rw [e] at h1 h4
  refine ⟨by omega, fun h0 => ?_, fun hi => ?_⟩
  · have := h3 h0
    rw [List.getElem?_take, if_pos (by omega), List.getElem?_drop, show 1 + (i - 1) = i by omega] at this
    exact this
  · have := h4 (by omega)
    rw [List.getElem?_take, if_pos (by omega), List.getElem?_drop, show 1 + i = i + 1 by omega] at this
    exact this
def CellPost (l : List Int) (x : Int) (w : World) (e : Ending) (w' : World) : Prop := ∃ i : Nat, CellAt l x i ∧ e = .returned (.int .i64 i) ∧ w' = w
set_option maxHeartbeats 400000 in
theorem cell_any (A : Option Addr) (l : List Int) (c : Nat) (x : Int) (w : World) (h2 : 2 ≤ l.length) (hl : l.length ≤ 1000000) (hlc : l.length ≤ c) (hA : Ints w A l) :
    Calls Try.prog 150 #[.slice A l.length c, .int .i64 x] w (CellPost l x w) := by
  obtain ⟨b, off, rfl, hb, hc⟩ := hA (by omega)
  have e : ((l.drop 1).take (l.length - 2)).length = l.length - 1 - 1 := by simp; omega
  have hsub : Ints w (some ⟨b, off + 1, none⟩) ((l.drop 1).take (l.length - 2)) := fun _ => ⟨b, off + 1, rfl, hb, fun k hk => by
    rw [e] at hk
    rw [List.getElem?_take, if_pos (by omega), List.getElem?_drop, show off + 1 + k = off + (1 + k) by omega]
    exact hc (1 + k) (by omega)⟩
  have h := binSearch_any (some ⟨b, off + 1, none⟩) ((l.drop 1).take (l.length - 2)) (c - 1) x w (by omega) hsub
  rw [e] at h
  have H := Lib.hid h
  have hi1 : (1 : Int) ≤ (l.length : Int) - 1 := by omega
  have hi2 : (l.length : Int) - 1 ≤ (c : Int) := by omega
  clear hc hA e hsub h
  go_enter Try.func150, Try.ntmps150
  go_wp2_with fail
  refine H.out.mono ?_
  rintro e w' ⟨i, bb, hbin, rfl, rfl⟩
  have HB := Lib.hid hbin
  clear hbin
  go_wp2_with fail
  go_ret
  exact ⟨i, cellAt_of_bin l x i h2 HB.out, rfl, rfl⟩
end Go.Proofs.Ytgibbaadjbohdaa
/- Plain facts of an axis that is valid, and of the part of it in which a number lies. -/
namespace Go.Proofs.Ytgibbaadjbohdaa
open Go.RowKit

theorem axFrom_all (p : Option Int) (l : List Int) (h : axFrom p l = true) : (∀ k, k < l.length → -1000000 ≤ l[k]?.getD 0 ∧ l[k]?.getD 0 ≤ 1000000) ∧
    (∀ k, k + 1 < l.length → 1 ≤ l[k+1]?.getD 0 - l[k]?.getD 0 ∧ l[k+1]?.getD 0 - l[k]?.getD 0 ≤ 10000) ∧ (∀ y, p = some y → 0 < l.length → 1 ≤ l[0]?.getD 0 - y ∧ l[0]?.getD 0 - y ≤ 10000) := by
  induction l generalizing p with
  | nil => simp
  | cons x xs ih =>
    simp only [axFrom, Bool.and_eq_true] at h
    obtain ⟨⟨h1, h2⟩, h3⟩ := h
    obtain ⟨i1, i2, i3⟩ := ih _ h3
    have hx := wB_iff.1 h1
    refine ⟨fun k hk => ?_, fun k hk => ?_, fun y hy _ => ?_⟩
    · cases k with
      | zero => simpa using hx
      | succ k => simpa using i1 k (by simpa using hk)
    · cases k with
      | zero => simpa using i3 x rfl (by simpa using hk)
      | succ k => simpa using i2 k (by simpa using hk)
    · subst hy
      simpa using wB_iff.1 h2
structure Axis (l : List Int) : Prop where
  two : 2 ≤ l.length
  twelve : l.length ≤ 12
  bd : ∀ k, k < l.length → -1000000 ≤ l[k]?.getD 0 ∧ l[k]?.getD 0 ≤ 1000000
  gap : ∀ k, k + 1 < l.length → 1 ≤ l[k+1]?.getD 0 - l[k]?.getD 0 ∧ l[k+1]?.getD 0 - l[k]?.getD 0 ≤ 10000
theorem axis_of {l : List Int} (h : axB l = true) : Axis l := by
  unfold axB at h
  simp only [Bool.and_eq_true] at h
  have h1 := wB_iff.1 h.1
  obtain ⟨a, b, _⟩ := axFrom_all none l h.2
  exact ⟨by omega, by omega, a, b⟩
theorem Axis.mono {l : List Int} (h : Axis l) (i j : Nat) (hij : i ≤ j) (hj : j < l.length) : l[i]?.getD 0 ≤ l[j]?.getD 0 := by
  induction j with
  | zero => obtain rfl : i = 0 := by omega
            exact Int.le_refl _
  | succ j ih =>
    by_cases e : i = j + 1
    · subst e; exact Int.le_refl _
    · have := ih (by omega) (by omega)
      have := h.gap j hj
      omega
theorem Axis.cell_unique {l : List Int} (h : Axis l) {x : Int} {i j : Nat} (hi : CellAt l x i) (hj : CellAt l x j) : i = j := by
  have key : ∀ {i j : Nat}, CellAt l x i → CellAt l x j → ¬ i < j := by
    intro i j hi hj hlt
    have h1 := hi.2.2 (by have := hj.1; omega)
    have h2 := hj.2.1 (by omega)
    have h3 := h.mono (i + 1) j (by omega) (by have := hj.1; omega)
    omega
  have h1 := key hi hj
  have h2 := key hj hi
  omega
instance (l : List Int) (x : Int) (i : Nat) : Decidable (CellAt l x i) := by unfold CellAt; exact inferInstance
def cellI (l : List Int) (x : Int) : Nat := ((List.range l.length).find? (fun i => decide (CellAt l x i))).getD 0
theorem Axis.cellI_eq {l : List Int} (h : Axis l) {x : Int} {i : Nat} (hi : CellAt l x i) : cellI l x = i := by
  unfold cellI
  cases e : (List.range l.length).find? (fun i => decide (CellAt l x i)) with
  | none =>
    have := List.find?_eq_none.1 e i (by have := hi.1; simp; omega)
    simp [hi] at this
  | some j =>
    have := List.find?_some e
    exact h.cell_unique (by simpa using this) hi
theorem cellI_any (A : Option Addr) (l : List Int) (c : Nat) (x : Int) (w : World) (h : Axis l) (hlc : l.length ≤ c) (hA : Ints w A l) :
    Calls Try.prog 150 #[.slice A l.length c, .int .i64 x] w fun e w' => e = .returned (.int .i64 (cellI l x)) ∧ w' = w :=
  (cell_any A l c x w h.two (by have := h.twelve; omega) hlc hA).mono fun _ _ ⟨i, hi, he, hw⟩ => ⟨by rw [h.cellI_eq hi]; exact he, hw⟩
/-- a number that lies on an axis -/
def OnAx (l : List Int) (x : Int) : Prop := l[0]?.getD 0 ≤ x ∧ x ≤ l[l.length - 1]?.getD 0
theorem Axis.cell_exists {l : List Int} (h : Axis l) (x : Int) : ∃ i, CellAt l x i := by
  -- the first i from 0 on at which the number is at most the next knot, or the last part
  have key : ∀ n i, i + n + 2 = l.length → (0 < i → l[i]?.getD 0 < x) → ∃ j, CellAt l x j := by
    intro n
    induction n with
    | zero => intro i hi h0; exact ⟨i, by omega, h0, by omega⟩
    | succ n ih =>
      intro i hi h0
      by_cases hx : x ≤ l[i+1]?.getD 0
      · exact ⟨i, by omega, h0, fun _ => hx⟩
      · exact ih (i + 1) (by omega) (fun _ => by omega)
  exact key (l.length - 2) 0 (by have := h.two; omega) (by omega)
theorem Axis.cellI_at {l : List Int} (h : Axis l) (x : Int) : CellAt l x (cellI l x) := by
  obtain ⟨i, hi⟩ := h.cell_exists x
  rw [h.cellI_eq hi]; exact hi
theorem Axis.cell_on {l : List Int} (h : Axis l) {x : Int} (ho : OnAx l x) : cellI l x + 1 < l.length ∧ l[cellI l x]?.getD 0 ≤ x ∧ x ≤ l[cellI l x + 1]?.getD 0 ∧ l[cellI l x + 1]?.getD 0 - l[cellI l x]?.getD 0 ≤ 10000 ∧ 1 ≤ l[cellI l x + 1]?.getD 0 - l[cellI l x]?.getD 0 := by
  obtain ⟨h1, h2, h3⟩ := h.cellI_at x
  generalize cellI l x = i at *
  have g := h.gap i (by omega)
  refine ⟨by omega, ?_, ?_, g.2, g.1⟩
  · by_cases h0 : 0 < i
    · have := h2 h0; omega
    · obtain rfl : i = 0 := by omega
      exact ho.1
  · by_cases h0 : i + 2 < l.length
    · exact h3 h0
    · have : i + 1 = l.length - 1 := by omega
      rw [this]; exact ho.2
end Go.Proofs.Ytgibbaadjbohdaa
/- The contract of spans.at: the value of a valid table at a point on it, as a fraction; old memory stays. -/
namespace Go.Proofs.Ytgibbaadjbohdaa
open Go.RowKit

theorem wp_region_tail {P : Program} {id : Nat} {Q : Exit → Act → World → Prop} {a : Act} {w : World} {l : List Oper} (n : Nat) (hm : P.follows .mixedOrders = true) (hB : Region.lexTailB .any l.toArray n = true)
    (h : wpStill P l.toArray w.drew (fun a' => wpList P l.toArray Q (l.drop n) a' w.drew) (l.take n) a) : (Code.region id l.toArray true).wp P Q a w := wp_region_still_tail n hm hB h
def numF (a b c d z00 z10 z01 z11 : Int) : Int := a * c * z00 + b * c * z10 + a * d * z01 + b * d * z11
def denF (a b c d : Int) : Int := (a + b) * (c + d)
theorem mul_bd {a b A B : Int} (ha : 0 ≤ a) (ha' : a ≤ A) (hb : 0 ≤ b) (hb' : b ≤ B) : 0 ≤ a * b ∧ a * b ≤ A * B :=
  ⟨Int.mul_nonneg ha hb, Int.mul_le_mul ha' hb' hb (by omega)⟩
theorem mul_bd2 {a z A B : Int} (ha : 0 ≤ a) (ha' : a ≤ A) (hz : -B ≤ z) (hz' : z ≤ B) (hB : 0 ≤ B) : -(A * B) ≤ a * z ∧ a * z ≤ A * B := by
  have h1 : a * z ≤ a * B := Int.mul_le_mul_of_nonneg_left hz' ha
  have h2 : a * (-B) ≤ a * z := Int.mul_le_mul_of_nonneg_left hz ha
  have h3 : a * B ≤ A * B := Int.mul_le_mul_of_nonneg_right ha' hB
  rw [Int.mul_neg] at h2
  omega
/-- what a table in memory reads as -/
structure TabR (w : World) (X Y V : Option Addr) (cx cy cv : Nat) (xs ys : List Int) (vs : List (List Int)) : Prop where
  hX : Ints w X xs
  hY : Ints w Y ys
  hV : Mat w V vs
  lx : xs.length ≤ cx
  ly : ys.length ≤ cy
theorem TabR.below {w w' : World} {X Y V : Option Addr} {cx cy cv : Nat} {xs ys : List Int} {vs : List (List Int)} (h : TabR w X Y V cx cy cv xs ys vs) (hb : Below w.heap.size w w') : TabR w' X Y V cx cy cv xs ys vs :=
  ⟨h.hX.below hb, h.hY.below hb, h.hV.below hb, h.lx, h.ly⟩
structure Tbl (xs ys : List Int) (vs : List (List Int)) : Prop where
  ax : Axis xs
  ay : Axis ys
  len : vs.length = xs.length
  row : ∀ k, k < vs.length → (vs[k]?.getD []).length = ys.length
  val : ∀ k j, k < vs.length → j < ys.length → -1000000 ≤ (vs[k]?.getD [])[j]?.getD 0 ∧ (vs[k]?.getD [])[j]?.getD 0 ≤ 1000000
theorem tbl_of {xs ys : List Int} {vs : List (List Int)} (h : tabB xs ys vs = true) : Tbl xs ys vs := by
  unfold tabB at h
  simp only [Bool.and_eq_true, Bool.not_eq_true', bne_eq_false_iff_eq, List.any_eq_false] at h
  obtain ⟨⟨⟨h1, h2⟩, h3⟩, h4⟩ := h
  have hr : ∀ k, k < vs.length → rowBad ys.length (vs[k]?.getD []) = false := fun k hk => by
    have := h4 (vs[k]?.getD []) (by simp [hk])
    simpa using this
  refine ⟨axis_of h1, axis_of h2, by omega, fun k hk => ?_, fun k j hk hj => ?_⟩
  · have := hr k hk
    unfold rowBad at this
    simp only [Bool.or_eq_false_iff, bne_eq_false_iff_eq] at this
    omega
  · have := hr k hk
    unfold rowBad at this
    simp only [Bool.or_eq_false_iff, bne_eq_false_iff_eq, List.any_eq_false] at this
    have h5 := this.2 ((vs[k]?.getD [])[j]?.getD 0) (by
      have : j < (vs[k]?.getD []).length := by omega
      simp [this])
    simp only [Bool.not_eq_true', Bool.not_eq_false] at h5
    exact wB_iff.1 h5
def atN (xs ys : List Int) (vs : List (List Int)) (x y : Int) : Int :=
  let i := cellI xs x; let k := cellI ys y
  numF (xs[i+1]?.getD 0 - x) (x - xs[i]?.getD 0) (ys[k+1]?.getD 0 - y) (y - ys[k]?.getD 0)
    ((vs[i]?.getD [])[k]?.getD 0) ((vs[i+1]?.getD [])[k]?.getD 0) ((vs[i]?.getD [])[k+1]?.getD 0) ((vs[i+1]?.getD [])[k+1]?.getD 0)
def atD (xs ys : List Int) (x y : Int) : Int :=
  let i := cellI xs x; let k := cellI ys y
  denF (xs[i+1]?.getD 0 - x) (x - xs[i]?.getD 0) (ys[k+1]?.getD 0 - y) (y - ys[k]?.getD 0)
set_option maxHeartbeats 2000000 in
set_option maxRecDepth 100000 in
theorem at_any (xs ys : List Int) (vs : List (List Int)) (X Y V : Option Addr) (cx cy cv : Nat) (x y : Int) (w : World)
   (hT : Tbl xs ys vs) (hR : TabR w X Y V cx cy cv xs ys vs) (hx : OnAx xs x) (hy : OnAx ys y) :
   Calls Try.prog 141 #[.agg #[.slice X xs.length cx, .slice Y ys.length cy, .slice V vs.length cv], .int .i64 x, .int .i64 y] w
     fun e w' => e = .returned (.agg #[.int .i64 (atN xs ys vs x y), .int .i64 (atD xs ys x y)]) ∧ Below w.heap.size w w' := by
  have q1 := hT.ax.cell_on hx
  have q2 := hT.ay.cell_on hy
  have hq1 : ∀ W, Below w.heap.size w W → Calls Try.prog 150 #[.slice X xs.length cx, .int .i64 x] W fun e w' => e = .returned (.int .i64 (cellI xs x)) ∧ w' = W :=
    fun W hb => cellI_any X xs cx x W hT.ax hR.lx (hR.hX.below hb)
  have hq2 : ∀ W, Below w.heap.size w W → Calls Try.prog 150 #[.slice Y ys.length cy, .int .i64 y] W fun e w' => e = .returned (.int .i64 (cellI ys y)) ∧ w' = W :=
    fun W hb => cellI_any Y ys cy y W hT.ay hR.ly (hR.hY.below hb)
  have hN : atN xs ys vs x y = numF (xs[cellI xs x + 1]?.getD 0 - x) (x - xs[cellI xs x]?.getD 0) (ys[cellI ys y + 1]?.getD 0 - y) (y - ys[cellI ys y]?.getD 0)
    ((vs[cellI xs x]?.getD [])[cellI ys y]?.getD 0) ((vs[cellI xs x + 1]?.getD [])[cellI ys y]?.getD 0) ((vs[cellI xs x]?.getD [])[cellI ys y + 1]?.getD 0) ((vs[cellI xs x + 1]?.getD [])[cellI ys y + 1]?.getD 0) := rfl
  have hD : atD xs ys x y = denF (xs[cellI xs x + 1]?.getD 0 - x) (x - xs[cellI xs x]?.getD 0) (ys[cellI ys y + 1]?.getD 0 - y) (y - ys[cellI ys y]?.getD 0) := rfl
  generalize cellI xs x = i at *
  generalize cellI ys y = k at *
  have t12x := hT.ax.twelve
  have t12y := hT.ay.twelve
  have lenv := hT.len
  have r0 := hT.row i (by omega)
  have r1 := hT.row (i+1) (by omega)
  have b00 := hT.val i k (by omega) (by omega)
  have b01 := hT.val i (k+1) (by omega) (by omega)
  have b10 := hT.val (i+1) k (by omega) (by omega)
  have b11 := hT.val (i+1) (k+1) (by omega) (by omega)
  obtain ⟨bx, ox, rfl, hbx, hcx⟩ := hR.hX (by omega)
  obtain ⟨bY, oy, rfl, hby, hcy⟩ := hR.hY (by omega)
  obtain ⟨bv, ov, rfl, hbv, hcv⟩ := hR.hV (by omega)
  obtain ⟨R0, c0, e0, hR0⟩ := hcv i (by omega)
  obtain ⟨R1, c1, e1, hR1⟩ := hcv (i+1) (by omega)
  obtain ⟨b0, o0, rfl, hb0, hc0⟩ := hR0 (by omega)
  obtain ⟨b1, o1, rfl, hb1, hc1⟩ := hR1 (by omega)
  have cx0 := hcx i (by omega)
  have cx1 := hcx (i+1) (by omega)
  have cy0 := hcy k (by omega)
  have cy1 := hcy (k+1) (by omega)
  have v00 := hc0 k (by omega)
  have v01 := hc0 (k+1) (by omega)
  have v10 := hc1 k (by omega)
  have v11 := hc1 (k+1) (by omega)
  rw [r0] at e0
  rw [r1] at e1
  generalize xs[i]?.getD 0 = x0 at *
  generalize xs[i+1]?.getD 0 = x1 at *
  generalize ys[k]?.getD 0 = y0 at *
  generalize ys[k+1]?.getD 0 = y1 at *
  generalize (vs[i]?.getD [])[k]?.getD 0 = z00 at *
  generalize (vs[i]?.getD [])[k+1]?.getD 0 = z01 at *
  generalize (vs[i+1]?.getD [])[k]?.getD 0 = z10 at *
  generalize (vs[i+1]?.getD [])[k+1]?.getD 0 = z11 at *
  obtain ⟨hi, hx0, hx1, hgx, _⟩ := q1
  obtain ⟨hk, hy0, hy1, hgy, _⟩ := q2
  have p1 := mul_bd (a := x1 - x) (b := y1 - y) (A := 10000) (B := 10000) (by omega) (by omega) (by omega) (by omega)
  have p2 := mul_bd (a := x - x0) (b := y1 - y) (A := 10000) (B := 10000) (by omega) (by omega) (by omega) (by omega)
  have p3 := mul_bd (a := x1 - x) (b := y - y0) (A := 10000) (B := 10000) (by omega) (by omega) (by omega) (by omega)
  have p4 := mul_bd (a := x - x0) (b := y - y0) (A := 10000) (B := 10000) (by omega) (by omega) (by omega) (by omega)
  have p5 := mul_bd (a := x1 - x + (x - x0)) (b := y1 - y + (y - y0)) (A := 10000) (B := 10000) (by omega) (by omega) (by omega) (by omega)
  have s1 := mul_bd2 (A := 100000000) (B := 1000000) p1.1 (by omega) b00.1 b00.2 (by omega)
  have s2 := mul_bd2 (A := 100000000) (B := 1000000) p2.1 (by omega) b10.1 b10.2 (by omega)
  have s3 := mul_bd2 (A := 100000000) (B := 1000000) p3.1 (by omega) b01.1 b01.2 (by omega)
  have s4 := mul_bd2 (A := 100000000) (B := 1000000) p4.1 (by omega) b11.1 b11.2 (by omega)
  have HN := Lib.hid hN
  have HD := Lib.hid hD
  have HQ1 := Lib.hid hq1
  have HQ2 := Lib.hid hq2
  have hlv : i + 1 < vs.length := by omega
  have hlv2 : vs.length ≤ 12 := by omega
  clear hN hD hq1 hq2 hcx hcy hcv hc0 hc1 hR0 hR1 hR hT hx hy lenv r0 r1 
  have hBd : ∀ (o1 o2 : Obj) (n : Nat), Below w.heap.size w (((w.alloc o1).alloc o2).drewN n) := fun o1 o2 n => Below.drewN' (((Below.refl _ w).alloc (Nat.le_refl _) _).alloc (by simp) _) n
  have HBd := Lib.hid hBd
  clear hBd
  go_enter Try.func141, Try.ntmps141
  go_wp2_with fail
  go_quiet ((go_at_call 150; first | (with_reducible exact Calls.quiet_of_same (HQ1.out _ (HBd.out _ _ _))) | (with_reducible exact Calls.quiet_of_same (HQ2.out _ (HBd.out _ _ _)))))
  go_wp2_with fail
  go_quiet (fail)
  go_wp2_with fail
  go_quiet (fail)
  go_wp2_with fail
  have t1 : ((i : Int) + 1).toNat = i + 1 := by omega
  have t2 : ((k : Int) + 1).toNat = k + 1 := by omega
  have t3 : (0 : Int) ≤ (i : Int) + 1 := by omega
  have t4 : (0 : Int) ≤ (k : Int) + 1 := by omega
  have t5 : (i : Int) < (vs.length : Int) := by omega
  have t6 : (i : Int) + 1 < (vs.length : Int) := by omega
  have t7 : (k : Int) < (ys.length : Int) := by omega
  have t8 : (k : Int) + 1 < (ys.length : Int) := by omega
  have u1 : IntKind.i64.wrap ((i : Int) + 1) = (i : Int) + 1 := IntWalk.i64_in _ (by omega)
  have u2 : IntKind.i64.wrap ((k : Int) + 1) = (k : Int) + 1 := IntWalk.i64_in _ (by omega)
  have u3 : IntKind.i64.wrap ((x1 - x) * (y1 - y)) = (x1 - x) * (y1 - y) := IntWalk.i64_in _ (by omega)
  have u4 : IntKind.i64.wrap ((x - x0) * (y1 - y)) = (x - x0) * (y1 - y) := IntWalk.i64_in _ (by omega)
  have u5 : IntKind.i64.wrap ((x1 - x) * (y - y0)) = (x1 - x) * (y - y0) := IntWalk.i64_in _ (by omega)
  have u6 : IntKind.i64.wrap ((x - x0) * (y - y0)) = (x - x0) * (y - y0) := IntWalk.i64_in _ (by omega)
  have u7 : IntKind.i64.wrap ((x1 - x) * (y1 - y) * z00) = (x1 - x) * (y1 - y) * z00 := IntWalk.i64_in _ (by omega)
  have u8 : IntKind.i64.wrap ((x - x0) * (y1 - y) * z10) = (x - x0) * (y1 - y) * z10 := IntWalk.i64_in _ (by omega)
  have u9 : IntKind.i64.wrap ((x1 - x) * (y - y0) * z01) = (x1 - x) * (y - y0) * z01 := IntWalk.i64_in _ (by omega)
  have u10 : IntKind.i64.wrap ((x - x0) * (y - y0) * z11) = (x - x0) * (y - y0) * z11 := IntWalk.i64_in _ (by omega)
  have u11 : IntKind.i64.wrap ((x1 - x) * (y1 - y) * z00 + (x - x0) * (y1 - y) * z10) = (x1 - x) * (y1 - y) * z00 + (x - x0) * (y1 - y) * z10 := IntWalk.i64_in _ (by omega)
  have u12 : IntKind.i64.wrap ((x1 - x) * (y1 - y) * z00 + (x - x0) * (y1 - y) * z10 + (x1 - x) * (y - y0) * z01) = (x1 - x) * (y1 - y) * z00 + (x - x0) * (y1 - y) * z10 + (x1 - x) * (y - y0) * z01 := IntWalk.i64_in _ (by omega)
  have u13 : IntKind.i64.wrap ((x1 - x) * (y1 - y) * z00 + (x - x0) * (y1 - y) * z10 + (x1 - x) * (y - y0) * z01 + (x - x0) * (y - y0) * z11) = (x1 - x) * (y1 - y) * z00 + (x - x0) * (y1 - y) * z10 + (x1 - x) * (y - y0) * z01 + (x - x0) * (y - y0) * z11 := IntWalk.i64_in _ (by omega)
  have u14 : IntKind.i64.wrap (x1 - x + (x - x0)) = x1 - x + (x - x0) := IntWalk.i64_in _ (by omega)
  have u15 : IntKind.i64.wrap (y1 - y + (y - y0)) = y1 - y + (y - y0) := IntWalk.i64_in _ (by omega)
  have u16 : IntKind.i64.wrap ((x1 - x + (x - x0)) * (y1 - y + (y - y0))) = (x1 - x + (x - x0)) * (y1 - y + (y - y0)) := IntWalk.i64_in _ (by omega)
  refine wp_region_tail 59 (by kernel_rfl) (by kernel_rfl) ?_
  simp only [List.take_succ_cons, List.take_zero, List.drop_succ_cons, List.drop_zero]
  repeat still_step
  refine wpStill_nil ?_
  clear t1 t2 t3 t4 t5 t6 t7 t8 u1 u2 u3 u4 u5 u6 u7 u8 u9 u10 u11 u12 u13 u14 u15 u16
  go_wp2_with fail
  refine bodyPost_ret (v := .agg #[.int .i64 (numF (x1 - x) (x - x0) (y1 - y) (y - y0) z00 z10 z01 z11), .int .i64 (denF (x1 - x) (x - x0) (y1 - y) (y - y0))]) (by simp [results, Try.results141, go_sem, numF, denF]) rfl ⟨?_, ?_⟩
  · rw [HN.out, HD.out]
  · repeat (first | exact HBd.out _ _ _ | refine Below.setCell ?_ (by simp) _ | refine Below.drew ?_)
end Go.Proofs.Ytgibbaadjbohdaa
