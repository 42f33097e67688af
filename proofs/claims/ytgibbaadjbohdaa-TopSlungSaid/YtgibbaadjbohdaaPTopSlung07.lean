/- Texts of the law TopSlung, part 7. No conditions. -/
import Derived.Test.YtgibbaadjbohdaaPTopSlung06
/- rotor: Check. No conditions. -/
set_option linter.unusedSimpArgs false
set_option linter.unusedVariables false
namespace Go.Proofs.Ytgibbaadjbohdaa
open Go.RowKit Lift

structure Rot where
  a : Tb
  b : Tb
  c : Tb
  d : Tb
  e : Tb
  f : Tb
  g : Tb
  h : Tb
  cl : Int
  bu : Int
def rotC (r : Rot) : List D := [.list (ints r.a.x), .list (ints r.a.y), .list (rows r.a.v), .list (ints r.b.x), .list (ints r.b.y), .list (rows r.b.v), .list (ints r.c.x), .list (ints r.c.y), .list (rows r.c.v), .list (ints r.d.x), .list (ints r.d.y), .list (rows r.d.v), .list (ints r.e.x), .list (ints r.e.y), .list (rows r.e.v), .list (ints r.f.x), .list (ints r.f.y), .list (rows r.f.v), .list (ints r.g.x), .list (ints r.g.y), .list (rows r.g.v), .list (ints r.h.x), .list (ints r.h.y), .list (rows r.h.v), dI r.cl, dI r.bu]
def rotD (r : Rot) : D := .agg (rotC r)
theorem in_rotD (S : Nat → Prop) (r : Rot) : In S (rotD r) := .agg _ (wals_in rfl)
def tbK (r : Rot) : Nat → Tb
  | 0 => r.a
  | 1 => r.b
  | 2 => r.c
  | 3 => r.d
  | 4 => r.e
  | 5 => r.f
  | 6 => r.g
  | _ => r.h
def loK (k : Nat) : Int := if k = 7 then 1 else 0
def hiK (k : Nat) : Int := if k = 1 then 100 else if k = 0 ∨ k = 2 ∨ k = 3 then 100000 else 10000
def limL (r : Rot) : List (List D) := [limC r.a 0 100000, limC r.b 0 100, limC r.c 0 100000, limC r.d 0 100000, limC r.e 0 10000, limC r.f 0 10000, limC r.g 0 10000, limC r.h 1 10000]
theorem limL_gd (r : Rot) (k : Nat) (h : k < 8) : (limL r)[k]? = some (limC (tbK r k) (loK k) (hiK k)) := by
  rcases (by omega : k = 0 ∨ k = 1 ∨ k = 2 ∨ k = 3 ∨ k = 4 ∨ k = 5 ∨ k = 6 ∨ k = 7) with rfl | rfl | rfl | rfl | rfl | rfl | rfl | rfl <;> rfl
theorem limL_five (r : Rot) : ∀ e ∈ limL r, e.length = 5 := by intro e he; simp [limL] at he; rcases he with rfl | rfl | rfl | rfl | rfl | rfl | rfl | rfl <;> rfl
theorem limL_all (r : Rot) : (limL r).all (fun x => x.length == 5) = true := rfl
theorem limL_len (r : Rot) : (limL r).length = 8 := rfl
def RotSm (r : Rot) : Prop := ∀ k, k < 8 → TbSm (tbK r k)
structure RotOk (r : Rot) : Prop where
  lim : ∀ k, k < 8 → limB (tbK r k) (loK k) (hiK k) = true
  ex : r.f.x = r.g.x
  ey : r.f.y = r.g.y
  cl : wI r.cl 1 1000 = true
  bu : wI r.bu 1 1000 = true
  le : ∀ i, i < r.f.v.length → ∀ k, k < (r.f.v[i]?.getD []).length → iat (r.f.v[i]?.getD []) k ≤ iat (r.g.v[i]?.getD []) k
open Classical in
noncomputable def rotE (r : Rot) : Int := if RotOk r then 0 else 20
theorem rotE_ok {r : Rot} (h : RotOk r) : rotE r = 0 := if_pos h
theorem rotE_no {r : Rot} (h : ¬ RotOk r) : rotE r = 20 := if_neg h
theorem rotE_is {r : Rot} (h : rotE r = 0) : RotOk r := by
  by_cases h1 : RotOk r
  · exact h1
  · rw [rotE_no h1] at h; cases h
theorem limB_tbl {t : Tb} {lo hi : Int} (h : limB t lo hi = true) : Tbl t.x t.y t.v := by
  unfold limB at h
  rw [Bool.and_eq_true] at h
  have h1 := of_decide_eq_true h.1
  unfold tabErr at h1
  refine tbl_of ?_
  by_cases hb : tabB t.x t.y t.v = true
  · exact hb
  · rw [if_neg hb] at h1; cases h1
theorem limB_val {t : Tb} {lo hi : Int} (h : limB t lo hi = true) (k j : Nat) (hk : k < t.v.length) (hj : j < (t.v[k]?.getD []).length) : lo ≤ iat (t.v[k]?.getD []) j ∧ iat (t.v[k]?.getD []) j ≤ hi := by
  unfold limB at h
  rw [Bool.and_eq_true] at h
  have h1 := List.all_eq_true.1 h.2 _ (List.getElem_mem hk)
  have e : t.v[k]?.getD [] = t.v[k] := by simp [hk]
  rw [e] at hj ⊢
  exact allI_get h1 j hj
set_option maxRecDepth 100000 in
set_option maxHeartbeats 2000000 in
theorem roEqual_ac (a b : List Int) (ha : a.length ≤ 1000000) (hb : b.length ≤ 1000000) : AC Try.prog 144 [.list (ints a), .list (ints b)] [] [] (dB (decide (a = b))) := by
  refine kslices_Equal_L_L_Jint_Kint_J.ac (n0 := 0) (by simp) ⟨.list _, .list _, trivial⟩ trivial rfl ?_
  unfold cslices_Equal_L_L_Jint_Kint_J
  have al := ints_len a
  have bl := ints_len b
  by_cases hl : a.length = b.length
  case neg =>
    have q : ((a.length : Int) != (b.length : Int)) = true := by simp only [bne_iff_ne, ne_eq]; omega
    rw [decide_eq_false (fun h => hl (by rw [h]))]
    (have hg : (987654321 : Nat) - 987654321 = 0 := rfl; have hr := hg; repeat' (first | refine aw_seq ?_ | (refine aw_skip ?_; with_reducible repeat' (first | refine thenQ_n ?_ | refine blockQ_n ?_ | refine thenQ_e ?_ | refine blockQ_t ?_ | refine blockQ_f (by decide) ?_)) | (refine aw_exit ?_; with_reducible repeat' (first | refine thenQ_n ?_ | refine blockQ_n ?_ | refine thenQ_e ?_ | refine blockQ_t ?_ | refine blockQ_f (by decide) ?_)) | refine aw_ret ?_ | refine aw_block ?_ | refine aw_condT rfl ?_ | refine aw_condF rfl ?_ | ((first | refine aw_hide fun K hK => aw_region ?_ | refine ago_if (by omega) ?_ | skip); simp (config := {maxSteps := 10000000}) (disch := first | exact okYes (by kernel_rfl) | omega) only [List.length, Nat.zero_add, Nat.reduceMul, envOf, ARun_none, AOpRun, aexec, FSt.ev, AGo_ok, St.app, putO, eput_c, Nat.reduceBEq, eput_n, cond_false, hups, List.map, ARun_nil, dropE_c, inL_n, dropE_n, Nat.reduceAdd, St.F, ↓eget_h, eget_c, al, bl, isSh, Bool.false_eq_true, ↓reduceIte, Option.map, abin, q, inL_c, beq_self_eq_true, cond_true, thenQ, dB]) | (subst hK; with_reducible repeat' (first | refine thenQ_n ?_ | refine blockQ_n ?_ | refine thenQ_e ?_ | refine blockQ_t ?_ | refine blockQ_f (by decide) ?_))))
    all_goals (refine end_to [] [] (by first | exact .inl rfl | exact .inr rfl) rfl (by kernel_rfl) (by kernel_rfl) (by kernel_rfl) ?_ ?_ <;> repeat' (first | exact trivial | exact vr_val _))
  have q : ((a.length : Int) != (b.length : Int)) = false := by simp only [bne_eq_false_iff_eq]; omega
  (have hg : (987654321 : Nat) - 987654321 = 0 := rfl; have hr := hg; repeat' (first | refine aw_seq ?_ | (refine aw_skip ?_; with_reducible repeat' (first | refine thenQ_n ?_ | refine blockQ_n ?_ | refine thenQ_e ?_ | refine blockQ_t ?_ | refine blockQ_f (by decide) ?_)) | (refine aw_exit ?_; with_reducible repeat' (first | refine thenQ_n ?_ | refine blockQ_n ?_ | refine thenQ_e ?_ | refine blockQ_t ?_ | refine blockQ_f (by decide) ?_)) | refine aw_ret ?_ | refine aw_block ?_ | refine aw_condT rfl ?_ | refine aw_condF rfl ?_ | ((first | refine aw_hide fun K hK => aw_region ?_ | refine ago_if (by omega) ?_ | skip); simp (config := {maxSteps := 10000000}) (disch := first | exact okYes (by kernel_rfl) | omega) only [List.length, Nat.zero_add, Nat.reduceMul, envOf, ARun_none, AOpRun, aexec, FSt.ev, AGo_ok, St.app, putO, eput_c, Nat.reduceBEq, eput_n, cond_false, hups, List.map, ARun_nil, dropE_c, inL_n, dropE_n, Nat.reduceAdd, St.F, ↓eget_h, eget_c, al, bl, isSh, Bool.false_eq_true, ↓reduceIte, Option.map, abin, q, inL_c, beq_self_eq_true, cond_true, dB]) | (subst hK; with_reducible repeat' (first | refine thenQ_n ?_ | refine blockQ_n ?_ | refine thenQ_e ?_ | refine blockQ_t ?_ | refine blockQ_f (by decide) ?_))))
  refine aw_loop (fun k : Nat => ⟨[(0, .list (ints a)), (1, .list (ints b)), (12, dI a.length), (13, dI k)], [], 400⟩) (fun k => k ≤ a.length ∧ ∀ j, j < k → iat a j = iat b j) (fun k => a.length - k) ⟨0, ⟨by omega, fun j hj => by omega⟩, ?_⟩ ?_
  · refine wk_to [] [] (by kernel_rfl) (by kernel_rfl) (by kernel_rfl) (by kernel_rfl) (by kernel_rfl) ?_ ?_ <;> repeat' (first | exact trivial | exact vr_val _ | exact vr_list _ | apply And.intro)
  rintro k ⟨hk, hin⟩
  by_cases hk2 : k < a.length
  case neg =>
    obtain rfl : k = a.length := by omega
    have e : a = b := by
      refine List.ext_getElem hl fun j h1 h2 => ?_
      have := hin j h1
      simpa [iat, h1, h2] using this
    rw [decide_eq_true e]
    (have hg : (987654321 : Nat) - 987654321 = 0 := rfl; have hr := hg; repeat' (first | refine aw_seq ?_ | (refine aw_skip ?_; with_reducible repeat' (first | refine thenQ_n ?_ | refine blockQ_n ?_ | refine thenQ_e ?_ | refine blockQ_t ?_ | refine blockQ_f (by decide) ?_)) | (refine aw_exit ?_; with_reducible repeat' (first | refine thenQ_n ?_ | refine blockQ_n ?_ | refine thenQ_e ?_ | refine blockQ_t ?_ | refine blockQ_f (by decide) ?_)) | refine aw_ret ?_ | refine aw_block ?_ | refine aw_condT rfl ?_ | refine aw_condF rfl ?_ | (refine aw_cond rfl (fun hg => ?_) (fun hg => ?_) <;> (try (have hq := hg; simp only [Bool.not_eq_true', Bool.not_eq_false', Bool.and_eq_true, Bool.and_eq_false_iff, Bool.or_eq_true, Bool.or_eq_false_iff, decide_eq_true_eq, decide_eq_false_iff_not, bne_iff_ne, beq_iff_eq, beq_eq_false_iff_ne, bne_eq_false_iff_eq, ne_eq, Int.not_lt, Int.not_le, Decidable.not_not] at hq)) <;> (try (have hr := hg; simp only [decide_eq_true_eq, decide_eq_false_iff_not] at hr)) <;> (try (exfalso; omega))) | ((first | refine aw_hide fun K hK => aw_region ?_ | refine ago_if (by omega) ?_ | skip); simp (config := {maxSteps := 10000000}) (disch := first | exact okYes (by kernel_rfl) | omega) only [List.length, Nat.zero_add, Nat.reduceMul, Nat.reduceAdd, dI, ARun_none, AOpRun, aexec, FSt.ev, St.F, eget_c, Nat.reduceBEq, ↓eget_h, cond_false, isSh, Bool.false_eq_true, ↓reduceIte, Option.map, abin, AGo_ok, St.app, putO, eput_c, eput_n, hups, List.map, ARun_nil, dropE_c, inL_n, dropE_n, hr, decide_false]) | (subst hK; with_reducible repeat' (first | refine thenQ_n ?_ | refine blockQ_n ?_ | refine thenQ_e ?_ | refine blockQ_t ?_ | refine blockQ_f (by decide) ?_))))
    all_goals (refine end_to [] [] (by first | exact .inl rfl | exact .inr rfl) rfl (by kernel_rfl) (by kernel_rfl) (by kernel_rfl) ?_ ?_ <;> repeat' (first | exact trivial | exact vr_val _))
  have ag := ints_all a
  have bg := ints_all b
  have g1 := ints_gd a k hk2
  have g2 := ints_gd b k (by omega)
  rw [show a[k]?.getD 0 = iat a k from rfl] at g1
  rw [show b[k]?.getD 0 = iat b k from rfl] at g2
  have ki : (k : Int) < (a.length : Int) := by omega
  have kb : (k : Int) < (b.length : Int) := by omega
  cases he : (iat a k != iat b k) with
  | true =>
    rw [decide_eq_false (fun h => by rw [h] at he; simp at he)]
    (have hg : (987654321 : Nat) - 987654321 = 0 := rfl; have hr := hg; repeat' (first | refine aw_seq ?_ | (refine aw_skip ?_; with_reducible repeat' (first | refine thenQ_n ?_ | refine blockQ_n ?_ | refine thenQ_e ?_ | refine blockQ_t ?_ | refine blockQ_f (by decide) ?_)) | (refine aw_exit ?_; with_reducible repeat' (first | refine thenQ_n ?_ | refine blockQ_n ?_ | refine thenQ_e ?_ | refine blockQ_t ?_ | refine blockQ_f (by decide) ?_)) | refine aw_ret ?_ | refine aw_block ?_ | refine aw_condT rfl ?_ | refine aw_condF rfl ?_ | ((first | refine aw_hide fun K hK => aw_region ?_ | refine ago_if (by omega) ?_ | skip); simp (config := {maxSteps := 10000000}) (disch := first | exact okYes (by kernel_rfl) | omega) only [List.length, Nat.zero_add, Nat.reduceMul, Nat.reduceAdd, dI, ARun_none, AOpRun, aexec, FSt.ev, St.F, eget_c, Nat.reduceBEq, ↓eget_h, cond_false, isSh, Bool.false_eq_true, ↓reduceIte, Option.map, abin, ki, decide_true, AGo_ok, St.app, putO, eput_c, eput_n, hups, List.map, ARun_nil, dropE_c, inL_n, dropE_n, inL_c, beq_self_eq_true, cond_true, Int.natCast_nonneg, ag, and_self, opt1, Int.toNat_natCast, g1, run1, List.getElem?_cons_zero, bg, g2, he, blockQ, thenQ]) | (subst hK; with_reducible repeat' (first | refine thenQ_n ?_ | refine blockQ_n ?_ | refine thenQ_e ?_ | refine blockQ_t ?_ | refine blockQ_f (by decide) ?_))))
    all_goals (refine end_to [] [] (by first | exact .inl rfl | exact .inr rfl) rfl (by kernel_rfl) (by kernel_rfl) (by kernel_rfl) ?_ ?_ <;> repeat' (first | exact trivial | exact vr_val _))
  | false =>
    (have hg : (987654321 : Nat) - 987654321 = 0 := rfl; have hr := hg; repeat' (first | refine aw_seq ?_ | (refine aw_skip ?_; with_reducible repeat' (first | refine thenQ_n ?_ | refine blockQ_n ?_ | refine thenQ_e ?_ | refine blockQ_t ?_ | refine blockQ_f (by decide) ?_)) | (refine aw_exit ?_; with_reducible repeat' (first | refine thenQ_n ?_ | refine blockQ_n ?_ | refine thenQ_e ?_ | refine blockQ_t ?_ | refine blockQ_f (by decide) ?_)) | refine aw_ret ?_ | refine aw_block ?_ | refine aw_condT rfl ?_ | refine aw_condF rfl ?_ | ((first | refine aw_hide fun K hK => aw_region ?_ | refine ago_if (by omega) ?_ | skip); simp (config := {maxSteps := 10000000}) (disch := first | exact okYes (by kernel_rfl) | omega) only [List.length, Nat.zero_add, Nat.reduceMul, Nat.reduceAdd, dI, ARun_none, AOpRun, aexec, FSt.ev, St.F, eget_c, Nat.reduceBEq, ↓eget_h, cond_false, isSh, Bool.false_eq_true, ↓reduceIte, Option.map, abin, ki, decide_true, AGo_ok, St.app, putO, eput_c, eput_n, hups, List.map, ARun_nil, dropE_c, inL_n, dropE_n, inL_c, beq_self_eq_true, cond_true, Int.natCast_nonneg, ag, and_self, opt1, Int.toNat_natCast, g1, run1, List.getElem?_cons_zero, bg, g2, he, fits]) | (subst hK; with_reducible repeat' (first | refine thenQ_n ?_ | refine blockQ_n ?_ | refine thenQ_e ?_ | refine blockQ_t ?_ | refine blockQ_f (by decide) ?_))))
    refine ⟨k + 1, ⟨by omega, fun j hj => ?_⟩, by omega, ?_⟩
    · rcases (by omega : j < k ∨ j = k) with h | rfl
      · exact hin j h
      · simpa using he
    · refine wk_to [] [] (by kernel_rfl) (by kernel_rfl) (by kernel_rfl) (by kernel_rfl) (by kernel_rfl) ?_ ?_ <;> repeat' (first | exact trivial | exact vr_val _ | exact vr_list _ | apply And.intro)
set_option maxRecDepth 100000 in
set_option maxHeartbeats 8000000 in
theorem roCheck_ac (r : Rot) (hs : RotSm r) : AC Try.prog 119 [rotD r] [] [] (dI (rotE r)) := by
  refine krotor_Check.ac (n0 := 0) (by simp) ⟨in_rotD _ _, trivial⟩ trivial rfl ?_
  have rt := fun k hk => right_ac (tbK r k) (loK k) (hiK k) (hs k hk)
  have hgd := limL_gd r
  have hll := limL_len r
  have hla := limL_all r
  have hsf : TbSm r.f := hs 5 (by omega)
  have hsg : TbSm r.g := hs 6 (by omega)
  have hno : ∀ {k}, k < 8 → limB (tbK r k) (loK k) (hiK k) = false → rotE r = 20 := fun hk h => rotE_no fun ho => by rw [ho.lim _ hk] at h; cases h
  unfold crotor_Check rotD rotC
  refine aw_seq (aw_region ?_)
  simp (config := {maxSteps := 10000000}) (disch := first | exact okYes (by kernel_rfl) | omega) only [thenQ, List.map, dI, List.length, Nat.zero_add, Nat.reduceAdd, Nat.reduceMul, envOf, ARun_none, AOpRun, aexec, D.isBot, FSt.ev, St.F, ↓eget_h, Bool.false_eq_true, Option.isSome, hget_n, or_self, ↓reduceIte, D.cells, AGo_ok, St.app, putO, eput_c, Nat.reduceBEq, eput_n, cond_false, hups, hput_n, ARun_nil, dropE_c, inL_n, dropE_n]
  refine aw_seq (aw_seq (aw_region ?_))
  simp (config := {maxSteps := 10000000}) (disch := first | exact okYes (by kernel_rfl) | omega) only [thenQ, List.length, Nat.zero_add, Nat.reduceAdd, Nat.reduceMul, ARun_none, AOpRun, aexec, FSt.ev, St.F, eget_c, Nat.reduceBEq, ↓eget_h, cond_false, AGo_ok, St.app, putO, eput_c, eput_n, hups, List.map, hget_c, beq_self_eq_true, hget_n, cond_true, Nat.reduceLeDiff, ↓reduceIte, List.drop, List.take, Option.map, fillD, D.isBot, Bool.false_eq_true, D.cells, ne_eq, not_true_eq_false, Nat.reduceGT, or_self, splice, List.nil_append, List.cons_append, List.append_nil, Option.isSome, hput_c, hput_n, cast_lit, ARun_nil, dropE_c, inL_c, inL_n, dropE_n]
  refine aw_wk (s' := ⟨[(1, .ptr 0 0), (35, .list (limL r)), (36, dI (8 : Nat)), (37, dI (0 : Nat))], [(0, [.list (ints r.a.x), .list (ints r.a.y), .list (rows r.a.v), .list (ints r.b.x), .list (ints r.b.y), .list (rows r.b.v), .list (ints r.c.x), .list (ints r.c.y), .list (rows r.c.v), .list (ints r.d.x), .list (ints r.d.y), .list (rows r.d.v), .list (ints r.e.x), .list (ints r.e.y), .list (rows r.e.v), .list (ints r.f.x), .list (ints r.f.y), .list (rows r.f.v), .list (ints r.g.x), .list (ints r.g.y), .list (rows r.g.v), .list (ints r.h.x), .list (ints r.h.y), .list (rows r.h.v), dI r.cl, dI r.bu])], 400⟩) ?_ ?_
  · unfold dI
    refine wk_to [208] [(0, 0)] (by kernel_rfl) (by kernel_rfl) (by kernel_rfl) (by kernel_rfl) (by kernel_rfl) ?_ ?_ <;> repeat' (first | exact trivial | exact vr_val _ | exact vr_list _ | exact vr_ptr _ _ _ rfl | refine vr_fl _ _ _ _ _ (by decide) rfl ?_ ?_ ?_ ?_ | refine And.intro ⟨_, rfl, .inl ⟨_, rfl, by decide, ?_⟩⟩ ?_ | apply And.intro)
    all_goals first | exact limL_five _ | rfl | exact wals_in rfl
  refine aw_block (aw_loop (fun k : Nat => ⟨[(1, .ptr 0 0), (35, .list (limL r)), (36, dI (8 : Nat)), (37, dI k)], [(0, [.list (ints r.a.x), .list (ints r.a.y), .list (rows r.a.v), .list (ints r.b.x), .list (ints r.b.y), .list (rows r.b.v), .list (ints r.c.x), .list (ints r.c.y), .list (rows r.c.v), .list (ints r.d.x), .list (ints r.d.y), .list (rows r.d.v), .list (ints r.e.x), .list (ints r.e.y), .list (rows r.e.v), .list (ints r.f.x), .list (ints r.f.y), .list (rows r.f.v), .list (ints r.g.x), .list (ints r.g.y), .list (rows r.g.v), .list (ints r.h.x), .list (ints r.h.y), .list (rows r.h.v), dI r.cl, dI r.bu])], 400⟩) (fun k => k ≤ 8 ∧ ∀ j, j < k → limB (tbK r j) (loK j) (hiK j) = true) (fun k => 8 - k) ⟨0, ⟨by omega, fun j hj => by omega⟩, ?_⟩ ?_)
  · unfold dI
    refine wk_to [] [(0, 0)] (by kernel_rfl) (by kernel_rfl) (by kernel_rfl) (by kernel_rfl) (by kernel_rfl) ?_ ?_ <;> repeat' (first | exact trivial | exact vr_val _ | exact vr_list _ | exact vr_ptr _ _ _ rfl | refine And.intro ⟨_, rfl, .inl ⟨_, rfl, by decide, ?_⟩⟩ ?_ | apply And.intro)
  rintro k ⟨hk, hin⟩
  by_cases hk2 : k < 8
  case pos =>
    have rk := rt k hk2
    have g1 := hgd k hk2
    have ki : (k : Int) < ((8 : Nat) : Int) := by omega
    have ki8 : (k : Int) < 8 := by omega
    have hstep : limB (tbK r k) (loK k) (hiK k) = true → ∀ j, j < k + 1 → limB (tbK r j) (loK j) (hiK j) = true := fun h j hj => by
      rcases (by omega : j < k ∨ j = k) with h1 | rfl
      · exact hin j h1
      · exact h
    have hn := fun h => hno hk2 h
    generalize limL r = LL at *
    generalize tbK r k = t at *
    generalize loK k = lo0 at *
    generalize hiK k = hi0 at *
    clear rt hgd hin hsf hsg hs
    unfold limC at *
    cases hb : limB t lo0 hi0 with
    | false =>
      rw [hb] at rk
      rw [hn hb]
      (have hg : (987654321 : Nat) - 987654321 = 0 := rfl; have hr := hg; repeat' (first | refine aw_seq ?_ | (refine aw_skip ?_; with_reducible repeat' (first | refine thenQ_n ?_ | refine blockQ_n ?_ | refine thenQ_e ?_ | refine blockQ_t ?_ | refine blockQ_f (by decide) ?_)) | (refine aw_exit ?_; with_reducible repeat' (first | refine thenQ_n ?_ | refine blockQ_n ?_ | refine thenQ_e ?_ | refine blockQ_t ?_ | refine blockQ_f (by decide) ?_)) | refine aw_ret ?_ | refine aw_block ?_ | refine aw_condT rfl ?_ | refine aw_condF rfl ?_ | ((first | refine aw_hide fun K hK => aw_region ?_ | refine acall0 (rk) ?_ | refine ago_if (by omega) ?_ | skip); simp (config := {maxSteps := 10000000}) (disch := first | exact okYes (by kernel_rfl) | omega) only [List.length, Nat.zero_add, Nat.reduceMul, Nat.reduceAdd, dI, cast_lit, ARun_none, AOpRun, aexec, FSt.ev, St.F, eget_c, Nat.reduceBEq, ↓eget_h, cond_false, isSh, Bool.false_eq_true, ↓reduceIte, Option.map, abin, ki8, decide_true, AGo_ok, St.app, putO, eput_c, eput_n, hups, List.map, ARun_nil, dropE_c, inL_n, dropE_n, Int.natCast_nonneg, hla, and_self, opt1, Int.toNat_natCast, g1, Nat.reduceLeDiff, List.take, Option.isSome, hget_c, hget_n, hput_c, hput_n, ↓hget_h, D.isBot, D.cells, List.all, D.leaf, Bool.and_true, splice, List.nil_append, List.drop, List.append_nil, beq_self_eq_true, cond_true, inL_c, dB, Bool.not_false, blockQ, thenQ]) | (subst hK; with_reducible repeat' (first | refine thenQ_n ?_ | refine blockQ_n ?_ | refine thenQ_e ?_ | refine blockQ_t ?_ | refine blockQ_f (by decide) ?_))))
      all_goals (refine end_to [] [] (by first | exact .inl rfl | exact .inr rfl) rfl (by kernel_rfl) (by kernel_rfl) (by kernel_rfl) ?_ ?_ <;> repeat' (first | exact trivial | exact vr_val _))
    | true =>
      rw [hb] at rk
      (have hg : (987654321 : Nat) - 987654321 = 0 := rfl; have hr := hg; repeat' (first | refine aw_seq ?_ | (refine aw_skip ?_; with_reducible repeat' (first | refine thenQ_n ?_ | refine blockQ_n ?_ | refine thenQ_e ?_ | refine blockQ_t ?_ | refine blockQ_f (by decide) ?_)) | (refine aw_exit ?_; with_reducible repeat' (first | refine thenQ_n ?_ | refine blockQ_n ?_ | refine thenQ_e ?_ | refine blockQ_t ?_ | refine blockQ_f (by decide) ?_)) | refine aw_ret ?_ | refine aw_block ?_ | refine aw_condT rfl ?_ | refine aw_condF rfl ?_ | ((first | refine aw_hide fun K hK => aw_region ?_ | refine acall0 (rk) ?_ | refine ago_if (by omega) ?_ | skip); simp (config := {maxSteps := 10000000}) (disch := first | exact okYes (by kernel_rfl) | omega) only [List.length, Nat.zero_add, Nat.reduceMul, Nat.reduceAdd, dI, cast_lit, ARun_none, AOpRun, aexec, FSt.ev, St.F, eget_c, Nat.reduceBEq, ↓eget_h, cond_false, isSh, Bool.false_eq_true, ↓reduceIte, Option.map, abin, ki8, decide_true, AGo_ok, St.app, putO, eput_c, eput_n, hups, List.map, ARun_nil, dropE_c, inL_n, dropE_n, Int.natCast_nonneg, hla, and_self, opt1, Int.toNat_natCast, g1, Nat.reduceLeDiff, List.take, Option.isSome, hget_c, hget_n, hput_c, hput_n, ↓hget_h, D.isBot, D.cells, List.all, D.leaf, Bool.and_true, splice, List.nil_append, List.drop, List.append_nil, beq_self_eq_true, cond_true, inL_c, dB, Bool.not_true, fits]) | (subst hK; with_reducible repeat' (first | refine thenQ_n ?_ | refine blockQ_n ?_ | refine thenQ_e ?_ | refine blockQ_t ?_ | refine blockQ_f (by decide) ?_))))
      refine ⟨k + 1, ⟨by omega, hstep hb⟩, by omega, ?_⟩
      refine wk_to [] [(0, 0)] (by kernel_rfl) (by kernel_rfl) (by kernel_rfl) (by kernel_rfl) (by kernel_rfl) ?_ ?_ <;> repeat' (first | exact trivial | exact vr_val _ | exact vr_list _ | exact vr_ptr _ _ _ rfl | refine And.intro ⟨_, rfl, .inl ⟨_, rfl, by decide, ?_⟩⟩ ?_ | apply And.intro)
  obtain rfl : k = 8 := by omega
  clear rt hgd hll hla
  have tf : Tbl r.f.x r.f.y r.f.v := limB_tbl (hin 5 (by omega))
  have tg : Tbl r.g.x r.g.y r.g.v := limB_tbl (hin 6 (by omega))
  have ce := roEqual_ac r.f.x r.g.x (by have := hsf.1; omega) (by have := hsg.1; omega)
  have cf := roEqual_ac r.f.y r.g.y (by have := hsf.2.1; omega) (by have := hsg.2.1; omega)
  have c1 := roWithin_ac r.cl 1 1000
  have c2 := roWithin_ac r.bu 1 1000
  by_cases ex : r.f.x = r.g.x
  case neg =>
    rw [rotE_no fun h => ex h.ex]
    rw [decide_eq_false ex] at ce
    (have hg : (987654321 : Nat) - 987654321 = 0 := rfl; have hr := hg; repeat' (first | refine aw_seq ?_ | (refine aw_skip ?_; with_reducible repeat' (first | refine thenQ_n ?_ | refine blockQ_n ?_ | refine thenQ_e ?_ | refine blockQ_t ?_ | refine blockQ_f (by decide) ?_)) | (refine aw_exit ?_; with_reducible repeat' (first | refine thenQ_n ?_ | refine blockQ_n ?_ | refine thenQ_e ?_ | refine blockQ_t ?_ | refine blockQ_f (by decide) ?_)) | refine aw_ret ?_ | refine aw_block ?_ | refine aw_condT rfl ?_ | refine aw_condF rfl ?_ | ((first | refine aw_hide fun K hK => aw_region ?_ | refine acall0 (ce) ?_ | refine ago_if (by omega) ?_ | skip); simp (config := {maxSteps := 10000000}) (disch := first | exact okYes (by kernel_rfl) | omega) only [List.length, Nat.zero_add, Nat.reduceMul, Nat.reduceAdd, dI, cast_lit, ARun_none, AOpRun, aexec, FSt.ev, St.F, eget_c, Nat.reduceBEq, ↓eget_h, cond_false, isSh, Bool.false_eq_true, ↓reduceIte, Option.map, abin, Int.reduceLT, decide_false, AGo_ok, St.app, putO, eput_c, eput_n, hups, List.map, ARun_nil, dropE_c, inL_n, dropE_n, hget_c, beq_self_eq_true, hget_n, cond_true, Nat.reduceLeDiff, List.drop, List.take, Option.isSome, hput_c, hput_n, ↓hget_h, D.isBot, D.cells, List.all, D.leaf, Bool.and_true, and_self, splice, List.nil_append, List.append_nil, inL_c, run1, List.getElem?_cons_zero, dB, Bool.not_false, ARun_some, AG_tf, thenQ]) | (subst hK; with_reducible repeat' (first | refine thenQ_n ?_ | refine blockQ_n ?_ | refine thenQ_e ?_ | refine blockQ_t ?_ | refine blockQ_f (by decide) ?_))))
    all_goals (refine end_to [] [] (by first | exact .inl rfl | exact .inr rfl) rfl (by kernel_rfl) (by kernel_rfl) (by kernel_rfl) ?_ ?_ <;> repeat' (first | exact trivial | exact vr_val _))
  rw [decide_eq_true ex] at ce
  by_cases ey : r.f.y = r.g.y
  case neg =>
    rw [rotE_no fun h => ey h.ey]
    rw [decide_eq_false ey] at cf
    (have hg : (987654321 : Nat) - 987654321 = 0 := rfl; have hr := hg; repeat' (first | refine aw_seq ?_ | (refine aw_skip ?_; with_reducible repeat' (first | refine thenQ_n ?_ | refine blockQ_n ?_ | refine thenQ_e ?_ | refine blockQ_t ?_ | refine blockQ_f (by decide) ?_)) | (refine aw_exit ?_; with_reducible repeat' (first | refine thenQ_n ?_ | refine blockQ_n ?_ | refine thenQ_e ?_ | refine blockQ_t ?_ | refine blockQ_f (by decide) ?_)) | refine aw_ret ?_ | refine aw_block ?_ | refine aw_condT rfl ?_ | refine aw_condF rfl ?_ | ((first | refine aw_hide fun K hK => aw_region ?_ | refine acall0 (ce) ?_ | refine acall0 (cf) ?_ | refine ago_if (by omega) ?_ | skip); simp (config := {maxSteps := 10000000}) (disch := first | exact okYes (by kernel_rfl) | omega) only [List.length, Nat.zero_add, Nat.reduceMul, Nat.reduceAdd, dI, cast_lit, ARun_none, AOpRun, aexec, FSt.ev, St.F, eget_c, Nat.reduceBEq, ↓eget_h, cond_false, isSh, Bool.false_eq_true, ↓reduceIte, Option.map, abin, Int.reduceLT, decide_false, AGo_ok, St.app, putO, eput_c, eput_n, hups, List.map, ARun_nil, dropE_c, inL_n, dropE_n, hget_c, beq_self_eq_true, hget_n, cond_true, Nat.reduceLeDiff, List.drop, List.take, Option.isSome, hput_c, hput_n, ↓hget_h, D.isBot, D.cells, List.all, D.leaf, Bool.and_true, and_self, splice, List.nil_append, List.append_nil, inL_c, run1, List.getElem?_cons_zero, dB, Bool.not_true, ARun_some, AG_ff, List.getElem?_cons_succ, Bool.not_false, AG_tf, thenQ]) | (subst hK; with_reducible repeat' (first | refine thenQ_n ?_ | refine blockQ_n ?_ | refine thenQ_e ?_ | refine blockQ_t ?_ | refine blockQ_f (by decide) ?_))))
    all_goals (refine end_to [] [] (by first | exact .inl rfl | exact .inr rfl) rfl (by kernel_rfl) (by kernel_rfl) (by kernel_rfl) ?_ ?_ <;> repeat' (first | exact trivial | exact vr_val _))
  rw [decide_eq_true ey] at cf
  cases q1 : wI r.cl 1 1000 with
  | false =>
    rw [rotE_no fun h => by rw [h.cl] at q1; cases q1]
    rw [q1] at c1
    (have hg : (987654321 : Nat) - 987654321 = 0 := rfl; have hr := hg; repeat' (first | refine aw_seq ?_ | (refine aw_skip ?_; with_reducible repeat' (first | refine thenQ_n ?_ | refine blockQ_n ?_ | refine thenQ_e ?_ | refine blockQ_t ?_ | refine blockQ_f (by decide) ?_)) | (refine aw_exit ?_; with_reducible repeat' (first | refine thenQ_n ?_ | refine blockQ_n ?_ | refine thenQ_e ?_ | refine blockQ_t ?_ | refine blockQ_f (by decide) ?_)) | refine aw_ret ?_ | refine aw_block ?_ | refine aw_condT rfl ?_ | refine aw_condF rfl ?_ | ((first | refine aw_hide fun K hK => aw_region ?_ | refine acall0 (ce) ?_ | refine acall0 (cf) ?_ | refine acall0 (c1) ?_ | refine ago_if (by omega) ?_ | skip); simp (config := {maxSteps := 10000000}) (disch := first | exact okYes (by kernel_rfl) | omega) only [List.length, Nat.zero_add, Nat.reduceMul, Nat.reduceAdd, dI, cast_lit, ARun_none, AOpRun, aexec, FSt.ev, St.F, eget_c, Nat.reduceBEq, ↓eget_h, cond_false, isSh, Bool.false_eq_true, ↓reduceIte, Option.map, abin, Int.reduceLT, decide_false, AGo_ok, St.app, putO, eput_c, eput_n, hups, List.map, ARun_nil, dropE_c, inL_n, dropE_n, hget_c, beq_self_eq_true, hget_n, cond_true, Nat.reduceLeDiff, List.drop, List.take, Option.isSome, hput_c, hput_n, ↓hget_h, D.isBot, D.cells, List.all, D.leaf, Bool.and_true, and_self, splice, List.nil_append, List.append_nil, inL_c, run1, List.getElem?_cons_zero, dB, Bool.not_true, ARun_some, AG_ff, List.getElem?_cons_succ, Bool.not_false, AG_tf, thenQ]) | (subst hK; with_reducible repeat' (first | refine thenQ_n ?_ | refine blockQ_n ?_ | refine thenQ_e ?_ | refine blockQ_t ?_ | refine blockQ_f (by decide) ?_))))
    all_goals (refine end_to [] [] (by first | exact .inl rfl | exact .inr rfl) rfl (by kernel_rfl) (by kernel_rfl) (by kernel_rfl) ?_ ?_ <;> repeat' (first | exact trivial | exact vr_val _))
  | true =>
  rw [q1] at c1
  cases q2 : wI r.bu 1 1000 with
  | false =>
    rw [rotE_no fun h => by rw [h.bu] at q2; cases q2]
    rw [q2] at c2
    (have hg : (987654321 : Nat) - 987654321 = 0 := rfl; have hr := hg; repeat' (first | refine aw_seq ?_ | (refine aw_skip ?_; with_reducible repeat' (first | refine thenQ_n ?_ | refine blockQ_n ?_ | refine thenQ_e ?_ | refine blockQ_t ?_ | refine blockQ_f (by decide) ?_)) | (refine aw_exit ?_; with_reducible repeat' (first | refine thenQ_n ?_ | refine blockQ_n ?_ | refine thenQ_e ?_ | refine blockQ_t ?_ | refine blockQ_f (by decide) ?_)) | refine aw_ret ?_ | refine aw_block ?_ | refine aw_condT rfl ?_ | refine aw_condF rfl ?_ | ((first | refine aw_hide fun K hK => aw_region ?_ | refine acall0 (ce) ?_ | refine acall0 (cf) ?_ | refine acall0 (c1) ?_ | refine acall0 (c2) ?_ | refine ago_if (by omega) ?_ | skip); simp (config := {maxSteps := 10000000}) (disch := first | exact okYes (by kernel_rfl) | omega) only [List.length, Nat.zero_add, Nat.reduceMul, Nat.reduceAdd, dI, cast_lit, ARun_none, AOpRun, aexec, FSt.ev, St.F, eget_c, Nat.reduceBEq, ↓eget_h, cond_false, isSh, Bool.false_eq_true, ↓reduceIte, Option.map, abin, Int.reduceLT, decide_false, AGo_ok, St.app, putO, eput_c, eput_n, hups, List.map, ARun_nil, dropE_c, inL_n, dropE_n, hget_c, beq_self_eq_true, hget_n, cond_true, Nat.reduceLeDiff, List.drop, List.take, Option.isSome, hput_c, hput_n, ↓hget_h, D.isBot, D.cells, List.all, D.leaf, Bool.and_true, and_self, splice, List.nil_append, List.append_nil, inL_c, run1, List.getElem?_cons_zero, dB, Bool.not_true, ARun_some, AG_ff, List.getElem?_cons_succ, Bool.not_false, thenQ]) | (subst hK; with_reducible repeat' (first | refine thenQ_n ?_ | refine blockQ_n ?_ | refine thenQ_e ?_ | refine blockQ_t ?_ | refine blockQ_f (by decide) ?_))))
    all_goals (refine end_to [] [] (by first | exact .inl rfl | exact .inr rfl) rfl (by kernel_rfl) (by kernel_rfl) (by kernel_rfl) ?_ ?_ <;> repeat' (first | exact trivial | exact vr_val _))
  | true =>
  rw [q2] at c2
  have fl := rows_len r.f.v
  have fa := rows_all r.f.v
  have gl := rows_len r.g.v
  have ga := rows_all r.g.v
  have hfg : r.g.v.length = r.f.v.length := by rw [tg.len, tf.len, ex]
  have hrow : ∀ i, i < r.f.v.length → (r.g.v[i]?.getD []).length = (r.f.v[i]?.getD []).length := fun i hi => by rw [tg.row i (by omega), tf.row i hi, ey]
  have hyes : (∀ i, i < r.f.v.length → ∀ k, k < (r.f.v[i]?.getD []).length → iat (r.f.v[i]?.getD []) k ≤ iat (r.g.v[i]?.getD []) k) → rotE r = 0 := fun hle => rotE_ok ⟨hin, ex, ey, q1, q2, hle⟩
  have hnot : (¬ ∀ i, i < r.f.v.length → ∀ k, k < (r.f.v[i]?.getD []).length → iat (r.f.v[i]?.getD []) k ≤ iat (r.g.v[i]?.getD []) k) → rotE r = 20 := fun hle => rotE_no fun h => hle h.le
  have hfr := hsf.row
  clear hin hno hs hsg
  (have hg : (987654321 : Nat) - 987654321 = 0 := rfl; have hr := hg; repeat' (first | refine aw_seq ?_ | (refine aw_skip ?_; with_reducible repeat' (first | refine thenQ_n ?_ | refine blockQ_n ?_ | refine thenQ_e ?_ | refine blockQ_t ?_ | refine blockQ_f (by decide) ?_)) | (refine aw_exit ?_; with_reducible repeat' (first | refine thenQ_n ?_ | refine blockQ_n ?_ | refine thenQ_e ?_ | refine blockQ_t ?_ | refine blockQ_f (by decide) ?_)) | refine aw_ret ?_ | refine aw_block ?_ | refine aw_condT rfl ?_ | refine aw_condF rfl ?_ | ((first | refine aw_hide fun K hK => aw_region ?_ | refine acall0 (ce) ?_ | refine acall0 (cf) ?_ | refine acall0 (c1) ?_ | refine acall0 (c2) ?_ | refine ago_if (by omega) ?_ | skip); simp (config := {maxSteps := 10000000}) (disch := first | exact okYes (by kernel_rfl) | omega) only [List.length, Nat.zero_add, Nat.reduceMul, Nat.reduceAdd, dI, cast_lit, ARun_none, AOpRun, aexec, FSt.ev, St.F, eget_c, Nat.reduceBEq, ↓eget_h, cond_false, isSh, Bool.false_eq_true, ↓reduceIte, Option.map, abin, Int.reduceLT, decide_false, AGo_ok, St.app, putO, eput_c, eput_n, hups, List.map, ARun_nil, dropE_c, inL_n, dropE_n, hget_c, beq_self_eq_true, hget_n, cond_true, Nat.reduceLeDiff, List.drop, List.take, Option.isSome, hput_c, hput_n, ↓hget_h, D.isBot, D.cells, List.all, D.leaf, Bool.and_true, and_self, splice, List.nil_append, List.append_nil, inL_c, run1, List.getElem?_cons_zero, dB, Bool.not_true, ARun_some, AG_ff, List.getElem?_cons_succ, fl]) | (subst hK; with_reducible repeat' (first | refine thenQ_n ?_ | refine blockQ_n ?_ | refine thenQ_e ?_ | refine blockQ_t ?_ | refine blockQ_f (by decide) ?_))))
  refine aw_wk (s' := ⟨[(6, .ptr 8 0), (76, .list (rows r.f.v)), (77, dI r.f.v.length), (78, dI (0 : Nat))], [(8, [.list (ints r.g.x), .list (ints r.g.y), .list (rows r.g.v)])], 600⟩) ?_ ?_
  · unfold dI
    refine wk_to [] [(8, 448)] (by kernel_rfl) (by kernel_rfl) (by kernel_rfl) (by kernel_rfl) (by kernel_rfl) ?_ ?_ <;> repeat' (first | exact trivial | exact vr_val _ | exact vr_list _ | exact vr_ptr _ _ _ rfl | refine And.intro ⟨_, rfl, .inl ⟨_, rfl, by decide, ?_⟩⟩ ?_ | apply And.intro)
  clear ce cf c1 c2
  have hfvl := hsf.2.2.1
  generalize r.f.v = fv at *
  generalize r.g.v = gv at *
  refine aw_loop (fun i : Nat => ⟨[(6, .ptr 8 0), (76, .list (rows fv)), (77, dI fv.length), (78, dI i)], [(8, [.list (ints r.g.x), .list (ints r.g.y), .list (rows gv)])], 1000⟩) (fun i => i ≤ fv.length ∧ ∀ j, j < i → ∀ k, k < (fv[j]?.getD []).length → iat (fv[j]?.getD []) k ≤ iat (gv[j]?.getD []) k) (fun i => fv.length - i) ⟨0, ⟨by omega, fun j hj => by omega⟩, ?_⟩ ?_
  · unfold dI
    refine wk_to [] [(8, 8)] (by kernel_rfl) (by kernel_rfl) (by kernel_rfl) (by kernel_rfl) (by kernel_rfl) ?_ ?_ <;> repeat' (first | exact trivial | exact vr_val _ | exact vr_list _ | exact vr_ptr _ _ _ rfl | refine And.intro ⟨_, rfl, .inl ⟨_, rfl, by decide, ?_⟩⟩ ?_ | apply And.intro)
  rintro i ⟨hi, hout⟩
  by_cases hi2 : i < fv.length
  case neg =>
    obtain rfl : i = fv.length := by omega
    rw [hyes hout]
    (have hg : (987654321 : Nat) - 987654321 = 0 := rfl; have hr := hg; repeat' (first | refine aw_seq ?_ | (refine aw_skip ?_; with_reducible repeat' (first | refine thenQ_n ?_ | refine blockQ_n ?_ | refine thenQ_e ?_ | refine blockQ_t ?_ | refine blockQ_f (by decide) ?_)) | (refine aw_exit ?_; with_reducible repeat' (first | refine thenQ_n ?_ | refine blockQ_n ?_ | refine thenQ_e ?_ | refine blockQ_t ?_ | refine blockQ_f (by decide) ?_)) | refine aw_ret ?_ | refine aw_block ?_ | refine aw_condT rfl ?_ | refine aw_condF rfl ?_ | (refine aw_cond rfl (fun hg => ?_) (fun hg => ?_) <;> (try (have hq := hg; simp only [Bool.not_eq_true', Bool.not_eq_false', Bool.and_eq_true, Bool.and_eq_false_iff, Bool.or_eq_true, Bool.or_eq_false_iff, decide_eq_true_eq, decide_eq_false_iff_not, bne_iff_ne, beq_iff_eq, beq_eq_false_iff_ne, bne_eq_false_iff_eq, ne_eq, Int.not_lt, Int.not_le, Decidable.not_not] at hq)) <;> (try (have hr := hg; simp only [decide_eq_true_eq, decide_eq_false_iff_not] at hr)) <;> (try (exfalso; omega))) | ((first | refine aw_hide fun K hK => aw_region ?_ | refine ago_if (by omega) ?_ | skip); simp (config := {maxSteps := 10000000}) (disch := first | exact okYes (by kernel_rfl) | omega) only [List.length, Nat.zero_add, Nat.reduceMul, Nat.reduceAdd, dI, ARun_none, AOpRun, aexec, FSt.ev, St.F, eget_c, Nat.reduceBEq, ↓eget_h, cond_false, isSh, Bool.false_eq_true, ↓reduceIte, Option.map, abin, AGo_ok, St.app, putO, eput_c, eput_n, hups, List.map, ARun_nil, dropE_c, inL_n, dropE_n, hr, decide_false]) | (subst hK; with_reducible repeat' (first | refine thenQ_n ?_ | refine blockQ_n ?_ | refine thenQ_e ?_ | refine blockQ_t ?_ | refine blockQ_f (by decide) ?_))))
    all_goals (refine end_to [] [] (by first | exact .inl rfl | exact .inr rfl) rfl (by kernel_rfl) (by kernel_rfl) (by kernel_rfl) ?_ ?_ <;> repeat' (first | exact trivial | exact vr_val _))
  have ki : (i : Int) < (fv.length : Int) := by omega
  have kig : (i : Int) < (gv.length : Int) := by omega
  have g1 := rows_gd fv i hi2
  have g2 := rows_gd gv i (by omega)
  have hrl := hrow i hi2
  have hnot2 : ∀ k, k < (fv[i]?.getD []).length → ¬ iat (fv[i]?.getD []) k ≤ iat (gv[i]?.getD []) k → rotE r = 20 := fun k hk hn => hnot fun hle => hn (hle i hi2 k hk)
  have hstep : (∀ k, k < (fv[i]?.getD []).length → iat (fv[i]?.getD []) k ≤ iat (gv[i]?.getD []) k) → ∀ j, j < i + 1 → ∀ k, k < (fv[j]?.getD []).length → iat (fv[j]?.getD []) k ≤ iat (gv[j]?.getD []) k := fun h j hj => by
    rcases (by omega : j < i ∨ j = i) with h1 | rfl
    · exact hout j h1
    · exact h
  have hrb := hfr i
  clear hout hyes hnot hrow
  generalize fv[i]?.getD [] = p at *
  generalize gv[i]?.getD [] = q at *
  have pl := ints_len p
  have pg := ints_all p
  have ql := ints_len q
  have qg := ints_all q
  (have hg : (987654321 : Nat) - 987654321 = 0 := rfl; have hr := hg; repeat' (first | refine aw_seq ?_ | (refine aw_skip ?_; with_reducible repeat' (first | refine thenQ_n ?_ | refine blockQ_n ?_ | refine thenQ_e ?_ | refine blockQ_t ?_ | refine blockQ_f (by decide) ?_)) | (refine aw_exit ?_; with_reducible repeat' (first | refine thenQ_n ?_ | refine blockQ_n ?_ | refine thenQ_e ?_ | refine blockQ_t ?_ | refine blockQ_f (by decide) ?_)) | refine aw_ret ?_ | refine aw_block ?_ | refine aw_condT rfl ?_ | refine aw_condF rfl ?_ | ((first | refine aw_hide fun K hK => aw_region ?_ | refine ago_if (by omega) ?_ | skip); simp (config := {maxSteps := 10000000}) (disch := first | exact okYes (by kernel_rfl) | omega) only [List.length, Nat.zero_add, Nat.reduceMul, Nat.reduceAdd, dI, ARun_none, AOpRun, aexec, FSt.ev, St.F, eget_c, Nat.reduceBEq, ↓eget_h, cond_false, isSh, Bool.false_eq_true, ↓reduceIte, Option.map, abin, ki, decide_true, AGo_ok, St.app, putO, eput_c, eput_n, hups, List.map, ARun_nil, dropE_c, inL_n, dropE_n, Int.natCast_nonneg, fa, and_self, opt1, Int.toNat_natCast, g1, run1, List.getElem?_cons_zero, inL_c, beq_self_eq_true, cond_true, pl]) | (subst hK; with_reducible repeat' (first | refine thenQ_n ?_ | refine blockQ_n ?_ | refine thenQ_e ?_ | refine blockQ_t ?_ | refine blockQ_f (by decide) ?_))))
  refine aw_loop (fun k : Nat => ⟨[(6, .ptr 8 0), (7, dI i), (76, .list (rows fv)), (77, dI fv.length), (78, dI i), (83, .list (ints p)), (84, dI p.length), (85, dI k)], [(8, [.list (ints r.g.x), .list (ints r.g.y), .list (rows gv)])], 3000⟩) (fun k => k ≤ p.length ∧ ∀ j, j < k → iat p j ≤ iat q j) (fun k => p.length - k) ⟨0, ⟨by omega, fun j hj => by omega⟩, ?_⟩ ?_
  · unfold dI
    refine wk_to [] [(8, 8)] (by kernel_rfl) (by kernel_rfl) (by kernel_rfl) (by kernel_rfl) (by kernel_rfl) ?_ ?_ <;> repeat' (first | exact trivial | exact vr_val _ | exact vr_list _ | exact vr_ptr _ _ _ rfl | refine And.intro ⟨_, rfl, .inl ⟨_, rfl, by decide, ?_⟩⟩ ?_ | apply And.intro)
  rintro k ⟨hk, hin⟩
  by_cases hk2 : k < p.length
  case neg =>
    obtain rfl : k = p.length := by omega
    (have hg : (987654321 : Nat) - 987654321 = 0 := rfl; have hr := hg; repeat' (first | refine aw_seq ?_ | (refine aw_skip ?_; with_reducible repeat' (first | refine thenQ_n ?_ | refine blockQ_n ?_ | refine thenQ_e ?_ | refine blockQ_t ?_ | refine blockQ_f (by decide) ?_)) | (refine aw_exit ?_; with_reducible repeat' (first | refine thenQ_n ?_ | refine blockQ_n ?_ | refine thenQ_e ?_ | refine blockQ_t ?_ | refine blockQ_f (by decide) ?_)) | refine aw_ret ?_ | refine aw_block ?_ | refine aw_condT rfl ?_ | refine aw_condF rfl ?_ | (refine aw_cond rfl (fun hg => ?_) (fun hg => ?_) <;> (try (have hq := hg; simp only [Bool.not_eq_true', Bool.not_eq_false', Bool.and_eq_true, Bool.and_eq_false_iff, Bool.or_eq_true, Bool.or_eq_false_iff, decide_eq_true_eq, decide_eq_false_iff_not, bne_iff_ne, beq_iff_eq, beq_eq_false_iff_ne, bne_eq_false_iff_eq, ne_eq, Int.not_lt, Int.not_le, Decidable.not_not] at hq)) <;> (try (have hr := hg; simp only [decide_eq_true_eq, decide_eq_false_iff_not] at hr)) <;> (try (exfalso; omega))) | ((first | refine aw_hide fun K hK => aw_region ?_ | refine ago_if (by omega) ?_ | skip); simp (config := {maxSteps := 10000000}) (disch := first | exact okYes (by kernel_rfl) | omega) only [List.length, Nat.zero_add, Nat.reduceMul, Nat.reduceAdd, dI, ARun_none, AOpRun, aexec, FSt.ev, St.F, eget_c, Nat.reduceBEq, ↓eget_h, cond_false, isSh, Bool.false_eq_true, ↓reduceIte, Option.map, abin, AGo_ok, St.app, putO, eput_c, eput_n, hups, List.map, ARun_nil, dropE_c, inL_n, dropE_n, hr, decide_false, fits, beq_self_eq_true, cond_true, inL_c]) | (subst hK; with_reducible repeat' (first | refine thenQ_n ?_ | refine blockQ_n ?_ | refine thenQ_e ?_ | refine blockQ_t ?_ | refine blockQ_f (by decide) ?_))))
    refine ⟨i + 1, ⟨by omega, hstep hin⟩, by omega, ?_⟩
    refine wk_to [] [(8, 8)] (by kernel_rfl) (by kernel_rfl) (by kernel_rfl) (by kernel_rfl) (by kernel_rfl) ?_ ?_ <;> repeat' (first | exact trivial | exact vr_val _ | exact vr_list _ | exact vr_ptr _ _ _ rfl | refine And.intro ⟨_, rfl, .inl ⟨_, rfl, by decide, ?_⟩⟩ ?_ | apply And.intro)
  have g3 := ints_gd p k hk2
  have g4 := ints_gd q k (by omega)
  rw [show p[k]?.getD 0 = iat p k from rfl] at g3
  rw [show q[k]?.getD 0 = iat q k from rfl] at g4
  have kk : (k : Int) < (p.length : Int) := by omega
  have kq : (k : Int) < (q.length : Int) := by omega
  cases q5 : decide (iat p k > iat q k) with
  | true =>
    rw [hnot2 k hk2 (by have := of_decide_eq_true q5; omega)]
    (have hg : (987654321 : Nat) - 987654321 = 0 := rfl; have hr := hg; repeat' (first | refine aw_seq ?_ | (refine aw_skip ?_; with_reducible repeat' (first | refine thenQ_n ?_ | refine blockQ_n ?_ | refine thenQ_e ?_ | refine blockQ_t ?_ | refine blockQ_f (by decide) ?_)) | (refine aw_exit ?_; with_reducible repeat' (first | refine thenQ_n ?_ | refine blockQ_n ?_ | refine thenQ_e ?_ | refine blockQ_t ?_ | refine blockQ_f (by decide) ?_)) | refine aw_ret ?_ | refine aw_block ?_ | refine aw_condT rfl ?_ | refine aw_condF rfl ?_ | ((first | refine aw_hide fun K hK => aw_region ?_ | refine ago_if (by omega) ?_ | skip); simp (config := {maxSteps := 10000000}) (disch := first | exact okYes (by kernel_rfl) | omega) only [List.length, Nat.zero_add, Nat.reduceMul, Nat.reduceAdd, dI, ARun_none, AOpRun, aexec, FSt.ev, St.F, eget_c, Nat.reduceBEq, ↓eget_h, cond_false, isSh, Bool.false_eq_true, ↓reduceIte, Option.map, abin, kk, decide_true, AGo_ok, St.app, putO, eput_c, eput_n, hups, List.map, ARun_nil, dropE_c, inL_n, dropE_n, Int.natCast_nonneg, pg, and_self, opt1, Int.toNat_natCast, g3, run1, List.getElem?_cons_zero, inL_c, beq_self_eq_true, cond_true, hget_c, hget_n, List.getElem?_cons_succ, ga, g2, qg, g4, q5, blockQ, thenQ]) | (subst hK; with_reducible repeat' (first | refine thenQ_n ?_ | refine blockQ_n ?_ | refine thenQ_e ?_ | refine blockQ_t ?_ | refine blockQ_f (by decide) ?_))))
    all_goals (refine end_to [] [] (by first | exact .inl rfl | exact .inr rfl) rfl (by kernel_rfl) (by kernel_rfl) (by kernel_rfl) ?_ ?_ <;> repeat' (first | exact trivial | exact vr_val _))
  | false =>
    have hs2 : ∀ j, j < k + 1 → iat p j ≤ iat q j := fun j hj => by
      rcases (by omega : j < k ∨ j = k) with h | rfl
      · exact hin j h
      · have := of_decide_eq_false q5; omega
    (have hg : (987654321 : Nat) - 987654321 = 0 := rfl; have hr := hg; repeat' (first | refine aw_seq ?_ | (refine aw_skip ?_; with_reducible repeat' (first | refine thenQ_n ?_ | refine blockQ_n ?_ | refine thenQ_e ?_ | refine blockQ_t ?_ | refine blockQ_f (by decide) ?_)) | (refine aw_exit ?_; with_reducible repeat' (first | refine thenQ_n ?_ | refine blockQ_n ?_ | refine thenQ_e ?_ | refine blockQ_t ?_ | refine blockQ_f (by decide) ?_)) | refine aw_ret ?_ | refine aw_block ?_ | refine aw_condT rfl ?_ | refine aw_condF rfl ?_ | ((first | refine aw_hide fun K hK => aw_region ?_ | refine ago_if (by omega) ?_ | skip); simp (config := {maxSteps := 10000000}) (disch := first | exact okYes (by kernel_rfl) | omega) only [List.length, Nat.zero_add, Nat.reduceMul, Nat.reduceAdd, dI, ARun_none, AOpRun, aexec, FSt.ev, St.F, eget_c, Nat.reduceBEq, ↓eget_h, cond_false, isSh, Bool.false_eq_true, ↓reduceIte, Option.map, abin, kk, decide_true, AGo_ok, St.app, putO, eput_c, eput_n, hups, List.map, ARun_nil, dropE_c, inL_n, dropE_n, Int.natCast_nonneg, pg, and_self, opt1, Int.toNat_natCast, g3, run1, List.getElem?_cons_zero, inL_c, beq_self_eq_true, cond_true, hget_c, hget_n, List.getElem?_cons_succ, ga, g2, qg, g4, q5, fits]) | (subst hK; with_reducible repeat' (first | refine thenQ_n ?_ | refine blockQ_n ?_ | refine thenQ_e ?_ | refine blockQ_t ?_ | refine blockQ_f (by decide) ?_))))
    refine ⟨k + 1, ⟨by omega, hs2⟩, by omega, ?_⟩
    refine wk_to [] [(8, 8)] (by kernel_rfl) (by kernel_rfl) (by kernel_rfl) (by kernel_rfl) (by kernel_rfl) ?_ ?_ <;> repeat' (first | exact trivial | exact vr_val _ | exact vr_list _ | exact vr_ptr _ _ _ rfl | refine And.intro ⟨_, rfl, .inl ⟨_, rfl, by decide, ?_⟩⟩ ?_ | apply And.intro)
end Go.Proofs.Ytgibbaadjbohdaa
/- rotor: check, Level, Flow; route: Burn. No conditions. -/
set_option linter.unusedSimpArgs false
set_option linter.unusedVariables false
namespace Go.Proofs.Ytgibbaadjbohdaa
open Go.RowKit Lift

structure Air where
  w : Int × Int
  t : Int × Int
  h : Int × Int
  d : Int × Int
def airC (a : Air) : List D := [dI a.w.1, dI a.w.2, dI a.t.1, dI a.t.2, dI a.h.1, dI a.h.2, dI a.d.1, dI a.d.2]
def airD (a : Air) : D := .agg (airC a)
theorem in_airD (S : Nat → Prop) (a : Air) : In S (airD a) := .agg _ (wals_in rfl)
def airL (a : Air) : List (Int × Int) := [a.w, a.t, a.h, a.d]
def airB (a : Air) : Bool := spVB a.w && (spVB a.t && (spVB a.h && spVB a.d))
def macC (r : Rot) (a : Air) : List D := [.list (ints r.a.x), .list (ints r.a.y), .list (rows r.a.v), .list (ints r.b.x), .list (ints r.b.y), .list (rows r.b.v), .list (ints r.c.x), .list (ints r.c.y), .list (rows r.c.v), .list (ints r.d.x), .list (ints r.d.y), .list (rows r.d.v), .list (ints r.e.x), .list (ints r.e.y), .list (rows r.e.v), .list (ints r.f.x), .list (ints r.f.y), .list (rows r.f.v), .list (ints r.g.x), .list (ints r.g.y), .list (rows r.g.v), .list (ints r.h.x), .list (ints r.h.y), .list (rows r.h.v), dI r.cl, dI r.bu, dI a.w.1, dI a.w.2, dI a.t.1, dI a.t.2, dI a.h.1, dI a.h.2, dI a.d.1, dI a.d.2]
def lkC (t : Tb) (x y : Int × Int) : List D := [.list (ints t.x), .list (ints t.y), .list (rows t.v), dI x.1, dI x.2, dI y.1, dI y.2]
def lyB (t : Tb) (x y : Int × Int) : Bool := decide (x.1 ≥ iat t.x 0) && (decide (x.2 ≤ iat t.x (t.x.length - 1)) && (decide (y.1 ≥ iat t.y 0) && decide (y.2 ≤ iat t.y (t.y.length - 1))))
set_option maxRecDepth 100000 in
theorem roValid_ac (x : Int × Int) : AC Try.prog 120 [.agg [dI x.1, dI x.2]] [] [] (dB (spVB x)) := by
  refine krotor_valid.ac (n0 := 0) (by simp) ⟨in_sp _ _ _, trivial⟩ trivial rfl ?_
  unfold crotor_valid
  have hs := scheck_ac x
  cases h : spVB x with
  | true =>
    rw [h, if_pos rfl] at hs
    refine aw_seq (aw_region ?_)
    simp (config := {maxSteps := 10000000}) (disch := first | exact okYes (by kernel_rfl) | omega) only [thenQ, List.map, dB, List.length, Nat.zero_add, Nat.reduceAdd, Nat.reduceMul, envOf, dI, ARun_none, AOpRun, aexec, D.isBot, FSt.ev, St.F, ↓eget_h, Bool.false_eq_true, Option.isSome, hget_n, or_self, ↓reduceIte, D.cells, AGo_ok, St.app, putO, eput_c, Nat.reduceBEq, eput_n, cond_false, hups, hput_n, ARun_nil, dropE_c, inL_n, dropE_n]
    refine aw_seq (aw_region ?_)
    simp (config := {maxSteps := 10000000}) (disch := first | exact okYes (by kernel_rfl) | omega) only [thenQ, List.length, Nat.zero_add, Nat.reduceAdd, Nat.reduceMul, ARun_none, AOpRun, aexec, FSt.ev, St.F, eget_c, Nat.reduceBEq, ↓eget_h, cond_false, hget_c, beq_self_eq_true, hget_n, cond_true, Nat.reduceLeDiff, ↓reduceIte, List.drop, List.take, AGo_ok, St.app, putO, eput_c, eput_n, hups, List.map, Option.isSome, Bool.false_eq_true, Option.map, fillD, D.isBot, D.cells, ne_eq, not_true_eq_false, Nat.reduceGT, or_self, splice, List.nil_append, List.append_nil, hput_c, hput_n]
    refine acall hs [24] ⟨.vec 24 1 2 (scells [x]) (sps [x]) (by simp) rfl (Nat.le_of_ble_eq_true rfl) (sps_two _) rfl rfl (scells_in _), trivial⟩ (.inr (.val _)) (by intro g hg; simp at hg; subst hg; exact ⟨_, rfl⟩) (by kernel_rfl) ?_
    simp (config := {maxSteps := 10000000}) (disch := first | exact okYes (by kernel_rfl) | omega) only [Nat.reduceAdd, St.app, putO, dI, eput_c, Nat.reduceBEq, eput_n, cond_false, hups, ARun_none, AOpRun, aexec, FSt.ev, St.F, eget_c, ↓eget_h, isSh, Bool.false_eq_true, ↓reduceIte, Option.map, abin, beq_self_eq_true, AGo_ok, List.map, cond_true, ARun_nil, dropE_c, inL_c, inL_n, dropE_n]
    (have hg : (987654321 : Nat) - 987654321 = 0 := rfl; have hr := hg; repeat' (first | refine aw_seq ?_ | (refine aw_skip ?_; with_reducible repeat' (first | refine thenQ_n ?_ | refine blockQ_n ?_ | refine thenQ_e ?_ | refine blockQ_t ?_ | refine blockQ_f (by decide) ?_)) | (refine aw_exit ?_; with_reducible repeat' (first | refine thenQ_n ?_ | refine blockQ_n ?_ | refine thenQ_e ?_ | refine blockQ_t ?_ | refine blockQ_f (by decide) ?_)) | refine aw_ret ?_ | refine aw_block ?_ | refine aw_condT rfl ?_ | refine aw_condF rfl ?_ | ((first | refine aw_hide fun K hK => aw_region ?_ | refine ago_if (by omega) ?_ | skip); fail) | (subst hK; with_reducible repeat' (first | refine thenQ_n ?_ | refine blockQ_n ?_ | refine thenQ_e ?_ | refine blockQ_t ?_ | refine blockQ_f (by decide) ?_))))
    all_goals (refine end_to [] [] (by first | exact .inl rfl | exact .inr rfl) rfl (by kernel_rfl) (by kernel_rfl) (by kernel_rfl) ?_ ?_ <;> repeat' (first | exact trivial | exact vr_val _))
  | false =>
    rw [h, if_neg (by simp)] at hs
    refine aw_seq (aw_region ?_)
    simp (config := {maxSteps := 10000000}) (disch := first | exact okYes (by kernel_rfl) | omega) only [thenQ, List.map, dB, List.length, Nat.zero_add, Nat.reduceAdd, Nat.reduceMul, envOf, dI, ARun_none, AOpRun, aexec, D.isBot, FSt.ev, St.F, ↓eget_h, Bool.false_eq_true, Option.isSome, hget_n, or_self, ↓reduceIte, D.cells, AGo_ok, St.app, putO, eput_c, Nat.reduceBEq, eput_n, cond_false, hups, hput_n, ARun_nil, dropE_c, inL_n, dropE_n]
    refine aw_seq (aw_region ?_)
    simp (config := {maxSteps := 10000000}) (disch := first | exact okYes (by kernel_rfl) | omega) only [thenQ, List.length, Nat.zero_add, Nat.reduceAdd, Nat.reduceMul, ARun_none, AOpRun, aexec, FSt.ev, St.F, eget_c, Nat.reduceBEq, ↓eget_h, cond_false, hget_c, beq_self_eq_true, hget_n, cond_true, Nat.reduceLeDiff, ↓reduceIte, List.drop, List.take, AGo_ok, St.app, putO, eput_c, eput_n, hups, List.map, Option.isSome, Bool.false_eq_true, Option.map, fillD, D.isBot, D.cells, ne_eq, not_true_eq_false, Nat.reduceGT, or_self, splice, List.nil_append, List.append_nil, hput_c, hput_n]
    refine acall hs [24] ⟨.vec 24 1 2 (scells [x]) (sps [x]) (by simp) rfl (Nat.le_of_ble_eq_true rfl) (sps_two _) rfl rfl (scells_in _), trivial⟩ (.inr (.val _)) (by intro g hg; simp at hg; subst hg; exact ⟨_, rfl⟩) (by kernel_rfl) ?_
    simp (config := {maxSteps := 10000000}) (disch := first | exact okYes (by kernel_rfl) | omega) only [Nat.reduceAdd, St.app, putO, dI, eput_c, Nat.reduceBEq, eput_n, cond_false, hups, ARun_none, AOpRun, aexec, FSt.ev, St.F, eget_c, ↓eget_h, isSh, Bool.false_eq_true, ↓reduceIte, Option.map, abin, Int.reduceBEq, AGo_ok, List.map, beq_self_eq_true, cond_true, ARun_nil, dropE_c, inL_c, inL_n, dropE_n]
    (have hg : (987654321 : Nat) - 987654321 = 0 := rfl; have hr := hg; repeat' (first | refine aw_seq ?_ | (refine aw_skip ?_; with_reducible repeat' (first | refine thenQ_n ?_ | refine blockQ_n ?_ | refine thenQ_e ?_ | refine blockQ_t ?_ | refine blockQ_f (by decide) ?_)) | (refine aw_exit ?_; with_reducible repeat' (first | refine thenQ_n ?_ | refine blockQ_n ?_ | refine thenQ_e ?_ | refine blockQ_t ?_ | refine blockQ_f (by decide) ?_)) | refine aw_ret ?_ | refine aw_block ?_ | refine aw_condT rfl ?_ | refine aw_condF rfl ?_ | ((first | refine aw_hide fun K hK => aw_region ?_ | refine ago_if (by omega) ?_ | skip); fail) | (subst hK; with_reducible repeat' (first | refine thenQ_n ?_ | refine blockQ_n ?_ | refine thenQ_e ?_ | refine blockQ_t ?_ | refine blockQ_f (by decide) ?_))))
    all_goals (refine end_to [] [] (by first | exact .inl rfl | exact .inr rfl) rfl (by kernel_rfl) (by kernel_rfl) (by kernel_rfl) ?_ ?_ <;> repeat' (first | exact trivial | exact vr_val _))
set_option maxRecDepth 100000 in
set_option maxHeartbeats 1000000 in
theorem roCheck1_ac (x : Int × Int) : AC Try.prog 121 [.agg [dI x.1, dI x.2]] [] [] (dB (!spVB x)) := by
  refine krotor_check_S1.ac (n0 := 0) (by simp) ⟨in_sp _ _ _, trivial⟩ trivial rfl ?_
  unfold crotor_check_S1
  (have hg : (987654321 : Nat) - 987654321 = 0 := rfl; have hr := hg; repeat' (first | refine aw_seq ?_ | (refine aw_skip ?_; with_reducible repeat' (first | refine thenQ_n ?_ | refine blockQ_n ?_ | refine thenQ_e ?_ | refine blockQ_t ?_ | refine blockQ_f (by decide) ?_)) | (refine aw_exit ?_; with_reducible repeat' (first | refine thenQ_n ?_ | refine blockQ_n ?_ | refine thenQ_e ?_ | refine blockQ_t ?_ | refine blockQ_f (by decide) ?_)) | refine aw_ret ?_ | refine aw_block ?_ | refine aw_condT rfl ?_ | refine aw_condF rfl ?_ | ((first | refine aw_hide fun K hK => aw_region ?_ | refine acall0 (roValid_ac x) ?_ | refine ago_if (by omega) ?_ | skip); simp (config := {maxSteps := 10000000}) (disch := first | exact okYes (by kernel_rfl) | omega) only [List.length, Nat.zero_add, Nat.reduceAdd, Nat.reduceMul, envOf, dI, ARun_none, AOpRun, aexec, D.isBot, FSt.ev, St.F, ↓eget_h, Bool.false_eq_true, Option.isSome, hget_n, or_self, ↓reduceIte, D.cells, AGo_ok, St.app, putO, eput_c, Nat.reduceBEq, eput_n, cond_false, hups, hput_n, List.map, ARun_nil, dropE_c, inL_n, dropE_n, eget_c, hget_c, beq_self_eq_true, cond_true, Nat.reduceLeDiff, List.drop, List.take, dB, inL_c]) | (subst hK; with_reducible repeat' (first | refine thenQ_n ?_ | refine blockQ_n ?_ | refine thenQ_e ?_ | refine blockQ_t ?_ | refine blockQ_f (by decide) ?_))))
  all_goals (refine end_to [] [] (by first | exact .inl rfl | exact .inr rfl) rfl (by kernel_rfl) (by kernel_rfl) (by kernel_rfl) ?_ ?_ <;> repeat' (first | exact trivial | exact vr_val _))
set_option maxRecDepth 100000 in
set_option maxHeartbeats 2000000 in
theorem roLies_ac (t : Tb) (x y : Int × Int) (h : Tbl t.x t.y t.v) (hs : TbSm t) : AC Try.prog 124 [.agg (lkC t x y)] [] [] (dB (lyB t x y)) := by
  refine krotor_looked_lies.ac (n0 := 0) (by simp) ⟨.agg _ (wals_in rfl), trivial⟩ trivial rfl ?_
  unfold crotor_looked_lies lyB
  have x2 := h.ax.two
  have y2 := h.ay.two
  have xl := ints_len t.x
  have yl := ints_len t.y
  have xa := ints_all t.x
  have ya := ints_all t.y
  have h1 := hs.1
  have h2 := hs.2.1
  have gx0 := ints_gd t.x 0 (by omega)
  have gy0 := ints_gd t.y 0 (by omega)
  have gx1 := ints_gd t.x (t.x.length - 1) (by omega)
  have gy1 := ints_gd t.y (t.y.length - 1) (by omega)
  rw [show t.x[0]?.getD 0 = iat t.x 0 from rfl] at gx0
  rw [show t.y[0]?.getD 0 = iat t.y 0 from rfl] at gy0
  rw [show t.x[t.x.length - 1]?.getD 0 = iat t.x (t.x.length - 1) from rfl] at gx1
  rw [show t.y[t.y.length - 1]?.getD 0 = iat t.y (t.y.length - 1) from rfl] at gy1
  have ex : ((t.x.length : Int) - 1).toNat = t.x.length - 1 := by omega
  have ey : ((t.y.length : Int) - 1).toNat = t.y.length - 1 := by omega
  have px : (0 : Int) < (t.x.length : Int) := by omega
  have py : (0 : Int) < (t.y.length : Int) := by omega
  have rx : (0 : Int) ≤ (t.x.length : Int) - 1 := by omega
  have ry : (0 : Int) ≤ (t.y.length : Int) - 1 := by omega
  have lx : (t.x.length : Int) - 1 < (t.x.length : Int) := by omega
  have ly : (t.y.length : Int) - 1 < (t.y.length : Int) := by omega
  unfold lkC
  generalize iat t.x 0 = a0 at *
  generalize iat t.x (t.x.length - 1) = a1 at *
  generalize iat t.y 0 = b0 at *
  generalize iat t.y (t.y.length - 1) = b1 at *
  cases q1 : decide (x.1 ≥ a0) <;> cases q2 : decide (x.2 ≤ a1) <;> cases q3 : decide (y.1 ≥ b0) <;> cases q4 : decide (y.2 ≤ b1)
  all_goals
    (have hg : (987654321 : Nat) - 987654321 = 0 := rfl; have hr := hg; repeat' (first | refine aw_seq ?_ | (refine aw_skip ?_; with_reducible repeat' (first | refine thenQ_n ?_ | refine blockQ_n ?_ | refine thenQ_e ?_ | refine blockQ_t ?_ | refine blockQ_f (by decide) ?_)) | (refine aw_exit ?_; with_reducible repeat' (first | refine thenQ_n ?_ | refine blockQ_n ?_ | refine thenQ_e ?_ | refine blockQ_t ?_ | refine blockQ_f (by decide) ?_)) | refine aw_ret ?_ | refine aw_block ?_ | refine aw_condT rfl ?_ | refine aw_condF rfl ?_ | ((first | refine aw_hide fun K hK => aw_region ?_ | refine ago_if (by omega) ?_ | skip); simp (config := {maxSteps := 10000000}) (disch := first | exact okYes (by kernel_rfl) | omega) only [List.length, Nat.zero_add, Nat.reduceAdd, Nat.reduceMul, envOf, dI, ARun_none, AOpRun, aexec, D.isBot, FSt.ev, St.F, ↓eget_h, Bool.false_eq_true, Option.isSome, hget_n, or_self, ↓reduceIte, D.cells, AGo_ok, St.app, putO, eput_c, Nat.reduceBEq, eput_n, cond_false, hups, hput_n, List.map, ARun_nil, dropE_c, inL_n, dropE_n, eget_c, Option.map, run1, hget_c, beq_self_eq_true, cond_true, List.getElem?_cons_succ, List.getElem?_cons_zero, Int.le_refl, xa, and_self, opt1, Int.toNat_zero, gx0, isSh, abin, q1, ARun_some, AG_ft, inL_c, dB, Bool.and_false, Bool.and_true, AG_tt, xl, fits, rx, ex, gx1, q2, ya, gy0, q3, yl, ry, ey, gy1, q4]) | (subst hK; with_reducible repeat' (first | refine thenQ_n ?_ | refine blockQ_n ?_ | refine thenQ_e ?_ | refine blockQ_t ?_ | refine blockQ_f (by decide) ?_))))
    all_goals (refine end_to [] [] (by first | exact .inl rfl | exact .inr rfl) rfl (by kernel_rfl) (by kernel_rfl) (by kernel_rfl) ?_ ?_ <;> repeat' (first | exact trivial | exact vr_val _))
set_option maxRecDepth 100000 in
theorem roCheck2_ac (t : Tb) (x y : Int × Int) (h : Tbl t.x t.y t.v) (hs : TbSm t) : AC Try.prog 123 [.agg (lkC t x y)] [] [] (dB (!lyB t x y)) := by
  refine krotor_check_S2.ac (n0 := 0) (by simp) ⟨.agg _ (wals_in rfl), trivial⟩ trivial rfl ?_
  unfold crotor_check_S2
  have c := roLies_ac t x y h hs
  unfold lkC at *
  (have hg : (987654321 : Nat) - 987654321 = 0 := rfl; have hr := hg; repeat' (first | refine aw_seq ?_ | (refine aw_skip ?_; with_reducible repeat' (first | refine thenQ_n ?_ | refine blockQ_n ?_ | refine thenQ_e ?_ | refine blockQ_t ?_ | refine blockQ_f (by decide) ?_)) | (refine aw_exit ?_; with_reducible repeat' (first | refine thenQ_n ?_ | refine blockQ_n ?_ | refine thenQ_e ?_ | refine blockQ_t ?_ | refine blockQ_f (by decide) ?_)) | refine aw_ret ?_ | refine aw_block ?_ | refine aw_condT rfl ?_ | refine aw_condF rfl ?_ | ((first | refine aw_hide fun K hK => aw_region ?_ | refine acall0 (c) ?_ | refine ago_if (by omega) ?_ | skip); simp (config := {maxSteps := 10000000}) (disch := first | exact okYes (by kernel_rfl) | omega) only [List.length, Nat.zero_add, Nat.reduceAdd, Nat.reduceMul, envOf, dI, ARun_none, AOpRun, aexec, D.isBot, FSt.ev, St.F, ↓eget_h, Bool.false_eq_true, Option.isSome, hget_n, or_self, ↓reduceIte, D.cells, AGo_ok, St.app, putO, eput_c, Nat.reduceBEq, eput_n, cond_false, hups, hput_n, List.map, ARun_nil, dropE_c, inL_n, dropE_n, eget_c, hget_c, beq_self_eq_true, cond_true, Nat.reduceLeDiff, List.drop, List.take, dB, inL_c]) | (subst hK; with_reducible repeat' (first | refine thenQ_n ?_ | refine blockQ_n ?_ | refine thenQ_e ?_ | refine blockQ_t ?_ | refine blockQ_f (by decide) ?_))))
  all_goals (refine end_to [] [] (by first | exact .inl rfl | exact .inr rfl) rfl (by kernel_rfl) (by kernel_rfl) (by kernel_rfl) ?_ ?_ <;> repeat' (first | exact trivial | exact vr_val _))
end Go.Proofs.Ytgibbaadjbohdaa
/- rotor: check, checkLevel, Level, Flow; route: Burn. No conditions. -/
set_option linter.unusedSimpArgs false
set_option linter.unusedVariables false
namespace Go.Proofs.Ytgibbaadjbohdaa
open Go.RowKit Lift

theorem airL_gd (a : Air) (h : airB a = true) (k : Nat) (hk : k < 4) : spVB ((airL a)[k]?.getD (0, 0)) = true := by
  unfold airB at h
  simp only [Bool.and_eq_true] at h
  rcases (by omega : k = 0 ∨ k = 1 ∨ k = 2 ∨ k = 3) with rfl | rfl | rfl | rfl
  · exact h.1
  · exact h.2.1
  · exact h.2.2.1
  · exact h.2.2.2
theorem sps_gd2 (b : List (Int × Int)) (k : Nat) (h : k < b.length) : (sps b)[k]? = some [dI (b[k]?.getD (0, 0)).1, dI (b[k]?.getD (0, 0)).2] := by simp [sps, h, dI]
set_option maxRecDepth 100000 in
set_option maxHeartbeats 2000000 in
theorem roBound_ac (t : Tb) (x y : Int × Int) (hs : TbSm t) : AC Try.prog 73 [.agg (lkC t x y)] [] [] (.agg [dI (boundR t.x t.y t.v x y).1.1, dI (boundR t.x t.y t.v x y).1.2]) := by
  refine krotor_looked_bound.ac (n0 := 0) (by simp) ⟨.agg _ (wals_in (c := lkC t x y) rfl), trivial⟩ trivial rfl ?_
  have c := bound_ac x y hs.sz
  unfold crotor_looked_bound
  unfold tabD spD lkC at *
  generalize boundR t.x t.y t.v x y = B at *
  obtain ⟨⟨B1, B2⟩, B3⟩ := B
  (have hg : (987654321 : Nat) - 987654321 = 0 := rfl; have hr := hg; repeat' (first | refine aw_seq ?_ | (refine aw_skip ?_; with_reducible repeat' (first | refine thenQ_n ?_ | refine blockQ_n ?_ | refine thenQ_e ?_ | refine blockQ_t ?_ | refine blockQ_f (by decide) ?_)) | (refine aw_exit ?_; with_reducible repeat' (first | refine thenQ_n ?_ | refine blockQ_n ?_ | refine thenQ_e ?_ | refine blockQ_t ?_ | refine blockQ_f (by decide) ?_)) | refine aw_ret ?_ | refine aw_block ?_ | refine aw_condT rfl ?_ | refine aw_condF rfl ?_ | (refine aw_cond rfl (fun hg => ?_) (fun hg => ?_) <;> (try (have hq := hg; simp only [Bool.not_eq_true', Bool.not_eq_false', Bool.and_eq_true, Bool.and_eq_false_iff, Bool.or_eq_true, Bool.or_eq_false_iff, decide_eq_true_eq, decide_eq_false_iff_not, bne_iff_ne, beq_iff_eq, beq_eq_false_iff_ne, bne_eq_false_iff_eq, ne_eq, Int.not_lt, Int.not_le, Decidable.not_not] at hq)) <;> (try (have hr := hg; simp only [decide_eq_true_eq, decide_eq_false_iff_not] at hr)) <;> (try (exfalso; omega))) | (refine ag_bool (fun hg => ?_) (fun hg => ?_) <;> (try (have hq := hg; simp only [Bool.not_eq_true', Bool.not_eq_false', Bool.and_eq_true, Bool.and_eq_false_iff, Bool.or_eq_true, Bool.or_eq_false_iff, decide_eq_true_eq, decide_eq_false_iff_not, bne_iff_ne, beq_iff_eq, beq_eq_false_iff_ne, bne_eq_false_iff_eq, ne_eq, Int.not_lt, Int.not_le, Decidable.not_not] at hq)) <;> (try (have hr := hg; simp only [decide_eq_true_eq, decide_eq_false_iff_not] at hr)) <;> (try (exfalso; omega)) <;> simp (config := {maxSteps := 10000000}) (disch := first | exact okYes (by kernel_rfl) | omega) only [ARun_nil, ARun_none, ARun_some, ARun_skip, AOpRun, AGo_f, AGo_ok, AG_tt, AG_ff, AG_tf, AG_ft, AG_un, aexec, run1, asI, elems, base, opt1, fillD, splice, abin, ash, isSh, foldI, mn2, mx2, ↓eget_h, eget_c, eget_n, eput_c, eput_n, putO, ↓hget_h, hget_c, hget_n, hput_c, hput_n, hdel_c, hdel_n, hups, cond_true, cond_false,  ups, St.F, St.app, FSt.ev, dropE_c, dropE_n, inL_c, inL_n, envOf, thenQ, blockQ, D.isBot, D.isAgg, D.cells, D.leaf, scalarEq, eqCells, isB, Option.map, List.map, List.length, List.all, List.append, List.take, List.drop, List.cons_append, List.nil_append, List.append_nil, Option.isSome, List.getElem?_cons_zero, List.getElem?_cons_succ, if_true, if_false, true_and, and_true, Bool.not_true, Bool.not_false, Bool.true_or, Bool.false_or, Bool.or_true, Bool.or_false, Bool.false_eq_true, ↓reduceIte, Nat.reduceAdd, Nat.reduceMul, Nat.reduceEqDiff, Nat.reduceBEq, Nat.reduceSub, Nat.zero_add, Nat.reduceLeDiff, Nat.reduceGT, Nat.reduceLT, Nat.reduceBNe, okLog_f, reduceCtorEq, or_self, or_false, false_or, or_true, true_or, and_self, and_false, false_and, not_true_eq_false, not_false_eq_true, ne_eq, Bool.and_true, Bool.true_and, Bool.and_false, Bool.false_and, decide_eq_true_eq, decide_true, decide_false, Int.reduceBEq, Int.reduceBNe, Int.reduceLT, Int.reduceLE, Int.reduceAdd, Int.reduceSub, Int.reduceMul, Int.reduceNeg, Int.reduceEq, Int.toNat_zero, Int.reduceToNat, Int.zero_lt_one, Nat.zero_le, Int.le_refl, beq_self_eq_true, bne_self_eq_false, cast_lit, fits, wrap_in, Int.toNat_natCast, Int.natCast_nonneg, dI, dB, hg, hr]) | ((first | refine aw_hide fun K hK => aw_region ?_ | refine acall0 (c) ?_ | refine ago_if (by omega) ?_ | skip); simp (config := {maxSteps := 10000000}) (disch := first | exact okYes (by kernel_rfl) | omega) only [ARun_nil, ARun_none, ARun_some, ARun_skip, AOpRun, AGo_f, AGo_ok, AG_tt, AG_ff, AG_tf, AG_ft, AG_un, aexec, run1, asI, elems, base, opt1, fillD, splice, abin, ash, isSh, foldI, mn2, mx2, ↓eget_h, eget_c, eget_n, eput_c, eput_n, putO, ↓hget_h, hget_c, hget_n, hput_c, hput_n, hdel_c, hdel_n, hups, cond_true, cond_false,  ups, St.F, St.app, FSt.ev, dropE_c, dropE_n, inL_c, inL_n, envOf, thenQ, blockQ, D.isBot, D.isAgg, D.cells, D.leaf, scalarEq, eqCells, isB, Option.map, List.map, List.length, List.all, List.append, List.take, List.drop, List.cons_append, List.nil_append, List.append_nil, Option.isSome, List.getElem?_cons_zero, List.getElem?_cons_succ, if_true, if_false, true_and, and_true, Bool.not_true, Bool.not_false, Bool.true_or, Bool.false_or, Bool.or_true, Bool.or_false, Bool.false_eq_true, ↓reduceIte, Nat.reduceAdd, Nat.reduceMul, Nat.reduceEqDiff, Nat.reduceBEq, Nat.reduceSub, Nat.zero_add, Nat.reduceLeDiff, Nat.reduceGT, Nat.reduceLT, Nat.reduceBNe, okLog_f, reduceCtorEq, or_self, or_false, false_or, or_true, true_or, and_self, and_false, false_and, not_true_eq_false, not_false_eq_true, ne_eq, Bool.and_true, Bool.true_and, Bool.and_false, Bool.false_and, decide_eq_true_eq, decide_true, decide_false, Int.reduceBEq, Int.reduceBNe, Int.reduceLT, Int.reduceLE, Int.reduceAdd, Int.reduceSub, Int.reduceMul, Int.reduceNeg, Int.reduceEq, Int.toNat_zero, Int.reduceToNat, Int.zero_lt_one, Nat.zero_le, Int.le_refl, beq_self_eq_true, bne_self_eq_false, cast_lit, fits, wrap_in, Int.toNat_natCast, Int.natCast_nonneg, dI, dB, hg, hr]) | (subst hK; with_reducible repeat' (first | refine thenQ_n ?_ | refine blockQ_n ?_ | refine thenQ_e ?_ | refine blockQ_t ?_ | refine blockQ_f (by decide) ?_))))
  all_goals (refine end_to [] [] (by first | exact .inl rfl | exact .inr rfl) rfl (by kernel_rfl) (by kernel_rfl) (by kernel_rfl) ?_ ?_ <;> repeat' (first | exact trivial | exact vr_val _ | exact vr_list _ | exact vr_at _ | exact vr_nil | exact vr_cap0 | exact vr_vec _ _ _ _ rfl | exact vr_own _ _ _ _ _ rfl | exact vr_ptr _ _ _ rfl | exact vr_nilv _ _ _ rfl | exact vr_bot _ | exact vr_cap0v _ _ _ rfl | exact vr_cap0l | apply vr_agg | apply vr_tup | apply vr_fn | refine vr_yld _ _ _ rfl ?_ | exact Ren.bot _ | exact Ren.val _ | exact Ren.list _ | exact Ren.at_ _ | exact Ren.ptr _ _ _ rfl | refine Ren.yld _ _ _ _ _ rfl rfl (RenL.get ?_).2 (fun _ _ _ h => h) | refine vr_fl _ _ _ _ _ (by decide) rfl ?_ ?_ ?_ ?_ | refine And.intro ⟨_, rfl, .inl ⟨_, rfl, by decide, ?_⟩⟩ ?_ | refine And.intro ⟨_, rfl, _, rfl, by decide, ?_⟩ ?_ | refine And.intro ⟨_, rfl, .inr ⟨rfl, rfl, of_decide_eq_true (by kernel_rfl)⟩⟩ ?_ | apply And.intro | refine vr_valq ?_ | refine vr_listq ?_ | exact vrl_flat _ (by first | exact icells_in _ | exact rcells_in _ | exact scells_in _ | exact bcells_in _ | assumption)))
end Go.Proofs.Ytgibbaadjbohdaa
/- At each point of a box the value of a table lies between the ends of its bound. In numbers; no conditions. -/
namespace Go.Proofs.Ytgibbaadjbohdaa

def flo (xs ys : List Int) (vs : List (List Int)) (x y : Int) : Int := atN xs ys vs x y / atD xs ys x y
def cei (xs ys : List Int) (vs : List (List Int)) (x y : Int) : Int := -(-(atN xs ys vs x y) / atD xs ys x y)
theorem Axis.cell_or {l : List Int} (h : Axis l) {x : Int} {i : Nat} (hi : i + 2 ≤ l.length) (h1 : l[i]?.getD 0 ≤ x) (h2 : x ≤ l[i+1]?.getD 0) : cellI l x = i ∨ (i = cellI l x + 1 ∧ x = l[i]?.getD 0) := by
  by_cases hc : 0 < i → l[i]?.getD 0 < x
  · exact .inl (h.cellI_eq ⟨hi, hc, fun _ => h2⟩)
  · have hpos : 0 < i := by
      rcases Nat.eq_zero_or_pos i with h0 | h0
      · exact absurd (fun hh => by omega) hc
      · exact h0
    have hx : x = l[i]?.getD 0 := by
      by_cases hlt : l[i]?.getD 0 < x
      · exact absurd (fun _ => hlt) hc
      · omega
    obtain ⟨j, rfl⟩ := Nat.exists_eq_succ_of_ne_zero (by omega : i ≠ 0)
    refine .inr ⟨?_, hx⟩
    have := h.cellI_eq (x := x) (i := j) ⟨by omega, fun _ => by have := h.gap j (by omega); simp only [Nat.succ_eq_add_one] at hx; omega, fun _ => by simp only [Nat.succ_eq_add_one] at hx; omega⟩
    rw [this]
def nX (xs ys : List Int) (vs : List (List Int)) (i k : Nat) (x y : Int) : Int := numF (xs[i+1]?.getD 0 - x) (x - xs[i]?.getD 0) (ys[k+1]?.getD 0 - y) (y - ys[k]?.getD 0)
    ((vs[i]?.getD [])[k]?.getD 0) ((vs[i+1]?.getD [])[k]?.getD 0) ((vs[i]?.getD [])[k+1]?.getD 0) ((vs[i+1]?.getD [])[k+1]?.getD 0)
def dX (xs ys : List Int) (i k : Nat) : Int := (xs[i+1]?.getD 0 - xs[i]?.getD 0) * (ys[k+1]?.getD 0 - ys[k]?.getD 0)
theorem dX_pos {xs ys : List Int} (hx : Axis xs) (hy : Axis ys) {i k : Nat} (hi : i + 2 ≤ xs.length) (hk : k + 2 ≤ ys.length) : 1 ≤ dX xs ys i k := by
  have h1 := hx.gap i (by omega)
  have h2 := hy.gap k (by omega)
  unfold dX
  have := Int.mul_le_mul h1.1 h2.1 (by omega) (by omega)
  omega
/-- the value by whatever part of the axes that the point lies on -/
theorem val_any {xs ys : List Int} {vs : List (List Int)} (hT : Tbl xs ys vs) {x y : Int} {i k : Nat} (hi : i + 2 ≤ xs.length) (hk : k + 2 ≤ ys.length) (x1 : xs[i]?.getD 0 ≤ x) (x2 : x ≤ xs[i+1]?.getD 0) (y1 : ys[k]?.getD 0 ≤ y) (y2 : y ≤ ys[k+1]?.getD 0) :
    atN xs ys vs x y * dX xs ys i k = nX xs ys vs i k x y * atD xs ys x y := by
  have hx := hT.ax.cell_or hi x1 x2
  have hy := hT.ay.cell_or hk y1 y2
  unfold atN atD nX dX numF denF
  simp only
  clear x1 x2 y1 y2
  generalize cellI xs x = i' at *
  generalize cellI ys y = k' at *
  rcases hx with rfl | ⟨rfl, hx2⟩ <;> rcases hy with rfl | ⟨rfl, hy2⟩
  · grind
  · generalize xs[i']?.getD 0 = x0 at *
    generalize xs[i'+1]?.getD 0 = x1 at *
    generalize ys[k']?.getD 0 = y0 at *
    generalize ys[k'+1]?.getD 0 = y1 at *
    generalize ys[k'+1+1]?.getD 0 = y2 at *
    subst hy2
    grind
  · generalize xs[i']?.getD 0 = x0 at *
    generalize xs[i'+1]?.getD 0 = x1 at *
    generalize xs[i'+1+1]?.getD 0 = x2 at *
    generalize ys[k']?.getD 0 = y0 at *
    generalize ys[k'+1]?.getD 0 = y1 at *
    subst hx2
    grind
  · generalize xs[i']?.getD 0 = x0 at *
    generalize xs[i'+1]?.getD 0 = x1 at *
    generalize xs[i'+1+1]?.getD 0 = x2 at *
    generalize ys[k']?.getD 0 = y0 at *
    generalize ys[k'+1]?.getD 0 = y1 at *
    generalize ys[k'+1+1]?.getD 0 = y2 at *
    subst hx2 hy2
    grind
/-- neighbours among the stops of a span -/
theorem stops_near {l : List Int} (h : Axis l) {lo hi x : Int} (h1 : l[0]?.getD 0 ≤ lo) (h2 : hi ≤ l[l.length-1]?.getD 0) (h3 : lo ≤ x) (h4 : x ≤ hi) :
    ∃ (i : Nat) (x1 x2 : Int), i + 2 ≤ l.length ∧ x1 ∈ stopsL l lo hi ∧ x2 ∈ stopsL l lo hi ∧ l[i]?.getD 0 ≤ x1 ∧ x1 ≤ x ∧ x ≤ x2 ∧ x2 ≤ l[i+1]?.getD 0 := by
  obtain ⟨c1, c2, c3⟩ := h.cellI_at x
  generalize cellI l x = i at *
  have a1 : l[i]?.getD 0 ≤ x := by
    rcases Nat.eq_zero_or_pos i with h0 | h0
    · subst h0; omega
    · have := c2 h0; omega
  have a2 : x ≤ l[i+1]?.getD 0 := by
    by_cases hlt : i + 2 < l.length
    · exact c3 hlt
    · have : l.length - 1 = i + 1 := by omega
      rw [this] at h2; omega
  have m1 : l[i]?.getD 0 ∈ l := by simp [show i < l.length by omega]
  have m2 : l[i+1]?.getD 0 ∈ l := by simp [show i + 1 < l.length by omega]
  have hmem : ∀ z, z = lo ∨ (z ∈ l ∧ lo < z ∧ z < hi) ∨ (lo < hi ∧ z = hi) → z ∈ stopsL l lo hi := by
    intro z hz
    unfold stopsL midL
    simp only [List.cons_append, List.mem_cons, List.mem_append, List.mem_filter, Bool.and_eq_true, decide_eq_true_eq]
    rcases hz with hz | ⟨hz1, hz2, hz3⟩ | ⟨hz1, hz2⟩
    · exact .inl hz
    · exact .inr (.inl ⟨hz1, hz2, hz3⟩)
    · exact .inr (.inr (by rw [if_pos hz1]; simp [hz2]))
  refine ⟨i, max lo (l[i]?.getD 0), min hi (l[i+1]?.getD 0), c1, ?_, ?_, by omega, by omega, by omega, by omega⟩
  · by_cases q1 : l[i]?.getD 0 ≤ lo
    · exact hmem _ (.inl (by omega))
    · by_cases q2 : l[i]?.getD 0 < hi
      · have e : max lo (l[i]?.getD 0) = l[i]?.getD 0 := by omega
        rw [e]; exact hmem _ (.inr (.inl ⟨m1, by omega, q2⟩))
      · exact hmem _ (.inr (.inr ⟨by omega, by omega⟩))
  · by_cases q1 : hi ≤ l[i+1]?.getD 0
    · by_cases q2 : lo < hi
      · exact hmem _ (.inr (.inr ⟨q2, by omega⟩))
      · exact hmem _ (.inl (by omega))
    · by_cases q2 : lo < l[i+1]?.getD 0
      · have e : min hi (l[i+1]?.getD 0) = l[i+1]?.getD 0 := by omega
        rw [e]; exact hmem _ (.inr (.inl ⟨m2, q2, by omega⟩))
      · exact hmem _ (.inl (by omega))
/-- linear between two points: between the two values -/
theorem lin {P Q b a x1 x x2 : Int} (h1 : x1 ≤ x) (h2 : x ≤ x2) :
    ((b - x1) * P + (x1 - a) * Q ≤ (b - x) * P + (x - a) * Q ∧ (b - x) * P + (x - a) * Q ≤ (b - x2) * P + (x2 - a) * Q) ∨
    ((b - x2) * P + (x2 - a) * Q ≤ (b - x) * P + (x - a) * Q ∧ (b - x) * P + (x - a) * Q ≤ (b - x1) * P + (x1 - a) * Q) := by
  have e1 : ((b - x) * P + (x - a) * Q) - ((b - x1) * P + (x1 - a) * Q) = (x - x1) * (Q - P) := by grind
  have e2 : ((b - x2) * P + (x2 - a) * Q) - ((b - x) * P + (x - a) * Q) = (x2 - x) * (Q - P) := by grind
  by_cases hq : 0 ≤ Q - P
  · have p1 := Int.mul_nonneg (by omega : 0 ≤ x - x1) hq
    have p2 := Int.mul_nonneg (by omega : 0 ≤ x2 - x) hq
    exact .inl ⟨by omega, by omega⟩
  · have p1 := Int.mul_nonneg (by omega : 0 ≤ x - x1) (by omega : 0 ≤ -(Q - P))
    have p2 := Int.mul_nonneg (by omega : 0 ≤ x2 - x) (by omega : 0 ≤ -(Q - P))
    rw [Int.mul_neg] at p1 p2
    exact .inr ⟨by omega, by omega⟩
theorem fc_mono {n m D : Int} (hD : 1 ≤ D) (h : n ≤ m) : n / D ≤ m / D ∧ -(-n / D) ≤ -(-m / D) := by
  have h1 := Int.ediv_le_ediv (by omega : 0 < D) h
  have h2 := Int.ediv_le_ediv (by omega : 0 < D) (by omega : -m ≤ -n)
  exact ⟨h1, by omega⟩
theorem fc_eq {xs ys : List Int} {vs : List (List Int)} (hT : Tbl xs ys vs) {x y : Int} {i k : Nat} (hx : OnAx xs x) (hy : OnAx ys y) (hi : i + 2 ≤ xs.length) (hk : k + 2 ≤ ys.length) (x1 : xs[i]?.getD 0 ≤ x) (x2 : x ≤ xs[i+1]?.getD 0) (y1 : ys[k]?.getD 0 ≤ y) (y2 : y ≤ ys[k+1]?.getD 0) :
    flo xs ys vs x y = nX xs ys vs i k x y / dX xs ys i k ∧ cei xs ys vs x y = -(-(nX xs ys vs i k x y) / dX xs ys i k) := by
  have hv := val_any hT hi hk x1 x2 y1 y2
  have hb := at_bd hT hx hy
  have hd := dX_pos hT.ax hT.ay hi hk
  exact ⟨floor_cross hb.1 hd hv, ceil_cross hb.1 hd hv⟩
theorem onAx_in {l : List Int} (h : Axis l) {i : Nat} (hi : i + 2 ≤ l.length) {x : Int} (h1 : l[i]?.getD 0 ≤ x) (h2 : x ≤ l[i+1]?.getD 0) : OnAx l x :=
  ⟨by have := h.mono 0 i (by omega) (by omega); omega, by have := h.mono (i + 1) (l.length - 1) (by omega) (by omega); omega⟩
/-- a value lies between those at four stops around it -/
theorem inside {xs ys : List Int} {vs : List (List Int)} (hT : Tbl xs ys vs) {X Y : Int × Int} {x y L H : Int} (a1 : xs[0]?.getD 0 ≤ X.1) (a2 : X.2 ≤ xs[xs.length-1]?.getD 0) (a3 : X.1 ≤ x) (a4 : x ≤ X.2) (b1 : ys[0]?.getD 0 ≤ Y.1) (b2 : Y.2 ≤ ys[ys.length-1]?.getD 0) (b3 : Y.1 ≤ y) (b4 : y ≤ Y.2)
    (hall : ∀ u ∈ stopsL xs X.1 X.2, ∀ v ∈ stopsL ys Y.1 Y.2, L ≤ flo xs ys vs u v ∧ cei xs ys vs u v ≤ H) : L ≤ flo xs ys vs x y ∧ cei xs ys vs x y ≤ H := by
  obtain ⟨i, x1, x2, hi, hx1, hx2, c1, c2, c3, c4⟩ := stops_near hT.ax a1 a2 a3 a4
  obtain ⟨k, y1, y2, hk, hy1, hy2, d1, d2, d3, d4⟩ := stops_near hT.ay b1 b2 b3 b4
  have hD := dX_pos hT.ax hT.ay hi hk
  have val : ∀ u v, xs[i]?.getD 0 ≤ u → u ≤ xs[i+1]?.getD 0 → ys[k]?.getD 0 ≤ v → v ≤ ys[k+1]?.getD 0 → flo xs ys vs u v = nX xs ys vs i k u v / dX xs ys i k ∧ cei xs ys vs u v = -(-(nX xs ys vs i k u v) / dX xs ys i k) :=
    fun u v p1 p2 p3 p4 => fc_eq hT (onAx_in hT.ax hi p1 p2) (onAx_in hT.ay hk p3 p4) hi hk p1 p2 p3 p4
  have hx : ∀ v, (nX xs ys vs i k x1 v ≤ nX xs ys vs i k x v ∧ nX xs ys vs i k x v ≤ nX xs ys vs i k x2 v) ∨ (nX xs ys vs i k x2 v ≤ nX xs ys vs i k x v ∧ nX xs ys vs i k x v ≤ nX xs ys vs i k x1 v) := fun v => by
    have e : ∀ z, nX xs ys vs i k z v = (xs[i+1]?.getD 0 - z) * ((ys[k+1]?.getD 0 - v) * ((vs[i]?.getD [])[k]?.getD 0) + (v - ys[k]?.getD 0) * ((vs[i]?.getD [])[k+1]?.getD 0)) + (z - xs[i]?.getD 0) * ((ys[k+1]?.getD 0 - v) * ((vs[i+1]?.getD [])[k]?.getD 0) + (v - ys[k]?.getD 0) * ((vs[i+1]?.getD [])[k+1]?.getD 0)) := fun z => by
      unfold nX numF; grind
    rw [e, e, e]
    exact lin c2 c3
  have hy : ∀ u, (nX xs ys vs i k u y1 ≤ nX xs ys vs i k u y ∧ nX xs ys vs i k u y ≤ nX xs ys vs i k u y2) ∨ (nX xs ys vs i k u y2 ≤ nX xs ys vs i k u y ∧ nX xs ys vs i k u y ≤ nX xs ys vs i k u y1) := fun u => by
    have e : ∀ z, nX xs ys vs i k u z = (ys[k+1]?.getD 0 - z) * ((xs[i+1]?.getD 0 - u) * ((vs[i]?.getD [])[k]?.getD 0) + (u - xs[i]?.getD 0) * ((vs[i+1]?.getD [])[k]?.getD 0)) + (z - ys[k]?.getD 0) * ((xs[i+1]?.getD 0 - u) * ((vs[i]?.getD [])[k+1]?.getD 0) + (u - xs[i]?.getD 0) * ((vs[i+1]?.getD [])[k+1]?.getD 0)) := fun z => by
      unfold nX numF; grind
    rw [e, e, e]
    exact lin d2 d3
  have at4 : ∀ u v, u ∈ stopsL xs X.1 X.2 → v ∈ stopsL ys Y.1 Y.2 → xs[i]?.getD 0 ≤ u → u ≤ xs[i+1]?.getD 0 → ys[k]?.getD 0 ≤ v → v ≤ ys[k+1]?.getD 0 → L ≤ nX xs ys vs i k u v / dX xs ys i k ∧ -(-(nX xs ys vs i k u v) / dX xs ys i k) ≤ H := fun u v hu hv p1 p2 p3 p4 => by
    have := hall u hu v hv
    rwa [(val u v p1 p2 p3 p4).1, (val u v p1 p2 p3 p4).2] at this
  have row : ∀ u, u ∈ stopsL xs X.1 X.2 → xs[i]?.getD 0 ≤ u → u ≤ xs[i+1]?.getD 0 → L ≤ nX xs ys vs i k u y / dX xs ys i k ∧ -(-(nX xs ys vs i k u y) / dX xs ys i k) ≤ H := fun u hu p1 p2 => by
    have q1 := at4 u y1 hu hy1 p1 p2 d1 (by omega)
    have q2 := at4 u y2 hu hy2 p1 p2 (by omega) d4
    rcases hy u with ⟨r1, r2⟩ | ⟨r1, r2⟩
    · have s1 := fc_mono hD r1; have s2 := fc_mono hD r2; omega
    · have s1 := fc_mono hD r1; have s2 := fc_mono hD r2; omega
  rw [(val x y (by omega) (by omega) (by omega) (by omega)).1, (val x y (by omega) (by omega) (by omega) (by omega)).2]
  have q1 := row x1 hx1 c1 (by omega)
  have q2 := row x2 hx2 (by omega) c4
  rcases hx y with ⟨r1, r2⟩ | ⟨r1, r2⟩
  · have s1 := fc_mono hD r1; have s2 := fc_mono hD r2; omega
  · have s1 := fc_mono hD r1; have s2 := fc_mono hD r2; omega
end Go.Proofs.Ytgibbaadjbohdaa
/- The ends of a bound: no value at a point of the box is beyond them, and each is one. In numbers; no conditions. -/
namespace Go.Proofs.Ytgibbaadjbohdaa

theorem stepE_low (l p : Pt) : (if cmpV p.n p.d l.n l.d < 0 then p else l).n / (if cmpV p.n p.d l.n l.d < 0 then p else l).d ≤ l.n / l.d ∧ (if cmpV p.n p.d l.n l.d < 0 then p else l).n / (if cmpV p.n p.d l.n l.d < 0 then p else l).d ≤ p.n / p.d := by
  rw [← step_low l p, mn_eq]; omega
theorem stepE_top (m p : Pt) : -(-m.n / m.d) ≤ -(-(if 0 < cmpV p.n p.d m.n m.d then p else m).n / (if 0 < cmpV p.n p.d m.n m.d then p else m).d) ∧ -(-p.n / p.d) ≤ -(-(if 0 < cmpV p.n p.d m.n m.d then p else m).n / (if 0 < cmpV p.n p.d m.n m.d then p else m).d) := by
  rw [← step_top m p, mx_eq]; omega
theorem fold_ext : ∀ (ps : List Pt) (l0 m0 l m : Pt), ps.foldl stepE (some (l0, m0)) = some (l, m) →
    (l = l0 ∨ l ∈ ps) ∧ (m = m0 ∨ m ∈ ps) ∧ l.n / l.d ≤ l0.n / l0.d ∧ -(-m0.n / m0.d) ≤ -(-m.n / m.d) ∧ ∀ p ∈ ps, l.n / l.d ≤ p.n / p.d ∧ -(-p.n / p.d) ≤ -(-m.n / m.d)
  | [], l0, m0, l, m, h => by
    simp only [List.foldl_nil, Option.some.injEq, Prod.mk.injEq] at h
    obtain ⟨rfl, rfl⟩ := h
    exact ⟨.inl rfl, .inl rfl, by omega, by omega, by simp⟩
  | q :: ps, l0, m0, l, m, h => by
    rw [List.foldl_cons, stepE_some] at h
    obtain ⟨h1, h2, h3, h4, h5⟩ := fold_ext ps _ _ l m h
    have a := stepE_low l0 q
    have b := stepE_top m0 q
    refine ⟨?_, ?_, by omega, by omega, fun p hp => ?_⟩
    · rcases h1 with h1 | h1
      · by_cases c : cmpV q.n q.d l0.n l0.d < 0
        · rw [if_pos c] at h1; exact .inr (h1 ▸ List.mem_cons_self ..)
        · rw [if_neg c] at h1; exact .inl h1
      · exact .inr (List.mem_cons_of_mem _ h1)
    · rcases h2 with h2 | h2
      · by_cases c : 0 < cmpV q.n q.d m0.n m0.d
        · rw [if_pos c] at h2; exact .inr (h2 ▸ List.mem_cons_self ..)
        · rw [if_neg c] at h2; exact .inl h2
      · exact .inr (List.mem_cons_of_mem _ h2)
    · rcases List.mem_cons.1 hp with rfl | hp
      · exact ⟨by omega, by omega⟩
      · exact h5 p hp
theorem extr_is {ps : List Pt} {l m : Pt} (h : extrE ps = some (l, m)) : l ∈ ps ∧ m ∈ ps ∧ ∀ p ∈ ps, l.n / l.d ≤ p.n / p.d ∧ -(-p.n / p.d) ≤ -(-m.n / m.d) := by
  cases ps with
  | nil => simp [extrE] at h
  | cons q ps =>
    have h' : ps.foldl stepE (some (q, q)) = some (l, m) := h
    obtain ⟨h1, h2, h3, h4, h5⟩ := fold_ext ps q q l m h'
    refine ⟨?_, ?_, fun p hp => ?_⟩
    · rcases h1 with rfl | h1
      · exact List.mem_cons_self ..
      · exact List.mem_cons_of_mem _ h1
    · rcases h2 with rfl | h2
      · exact List.mem_cons_self ..
      · exact List.mem_cons_of_mem _ h2
    · rcases List.mem_cons.1 hp with rfl | hp
      · exact ⟨h3, h4⟩
      · exact h5 p hp
theorem pts_mem {xs ys : List Int} {vs : List (List Int)} {x y : Int × Int} {p : Pt} : p ∈ pts xs ys vs x y ↔ ∃ u ∈ stopsL xs x.1 x.2, ∃ v ∈ stopsL ys y.1 y.2, p = ptAt xs ys vs u v := by
  unfold pts allPts rowPts
  simp only [List.mem_flatMap, List.mem_map]
  constructor
  · rintro ⟨u, hu, v, hv, rfl⟩; exact ⟨u, hu, v, hv, rfl⟩
  · rintro ⟨u, hu, v, hv, rfl⟩; exact ⟨u, hu, v, hv, rfl⟩
theorem stops_in {l : List Int} {lo hi x : Int} (h : lo ≤ hi) (hx : x ∈ stopsL l lo hi) : lo ≤ x ∧ x ≤ hi := by
  unfold stopsL midL at hx
  simp only [List.cons_append, List.mem_cons, List.mem_append, List.mem_filter, Bool.and_eq_true, decide_eq_true_eq] at hx
  rcases hx with rfl | ⟨_, h3, h4⟩ | h5
  · exact ⟨by omega, h⟩
  · omega
  · split at h5
    · simp at h5; omega
    · simp at h5
/-- what a bound is -/
structure BndIs (xs ys : List Int) (vs : List (List Int)) (x y b : Int × Int) : Prop where
  all : ∀ u v, x.1 ≤ u → u ≤ x.2 → y.1 ≤ v → v ≤ y.2 → b.1 ≤ flo xs ys vs u v ∧ cei xs ys vs u v ≤ b.2
  low : ∃ u v, x.1 ≤ u ∧ u ≤ x.2 ∧ y.1 ≤ v ∧ v ≤ y.2 ∧ flo xs ys vs u v = b.1
  top : cei xs ys vs (wst xs ys vs x y).1 (wst xs ys vs x y).2 = b.2 ∧ x.1 ≤ (wst xs ys vs x y).1 ∧ (wst xs ys vs x y).1 ≤ x.2 ∧ y.1 ≤ (wst xs ys vs x y).2 ∧ (wst xs ys vs x y).2 ≤ y.2
theorem bnd_is {xs ys : List Int} {vs : List (List Int)} {x y : Int × Int} (hO : OnT xs ys vs x y) : BndIs xs ys vs x y (bnd xs ys vs x y) := by
  obtain ⟨l, m, hlm⟩ := extrE_ne (pts xs ys vs x y) (allPts_ne xs ys vs x.1 x.2 y.1 y.2)
  obtain ⟨h1, h2, h3⟩ := extr_is hlm
  rw [bnd_eq hlm]
  have val : ∀ u v, u ∈ stopsL xs x.1 x.2 → v ∈ stopsL ys y.1 y.2 → flo xs ys vs u v = (ptAt xs ys vs u v).n / (ptAt xs ys vs u v).d ∧ cei xs ys vs u v = -(-(ptAt xs ys vs u v).n / (ptAt xs ys vs u v).d) ∧ (ptAt xs ys vs u v).x = u ∧ (ptAt xs ys vs u v).y = v := fun u v hu hv => by
    obtain ⟨e1, e2, e3, e4⟩ := ptAt_is (vs := vs) hO.t (OnAx_stops hO.x1 hO.x2 hO.x3 hu) (OnAx_stops hO.y1 hO.y2 hO.y3 hv)
    rw [e1, e2]
    exact ⟨rfl, rfl, e3, e4⟩
  refine ⟨fun u v u1 u2 v1 v2 => ?_, ?_, ?_⟩
  · refine inside hO.t hO.x1 hO.x2 u1 u2 hO.y1 hO.y2 v1 v2 fun a ha b hb => ?_
    obtain ⟨e1, e2, _, _⟩ := val a b ha hb
    rw [e1, e2]
    exact h3 _ (pts_mem.2 ⟨a, ha, b, hb, rfl⟩)
  · obtain ⟨a, ha, b, hb, rfl⟩ := pts_mem.1 h1
    obtain ⟨e1, e2, _, _⟩ := val a b ha hb
    exact ⟨a, b, (stops_in hO.x3 ha).1, (stops_in hO.x3 ha).2, (stops_in hO.y3 hb).1, (stops_in hO.y3 hb).2, e1⟩
  · rw [wst_eq hlm]
    obtain ⟨a, ha, b, hb, rfl⟩ := pts_mem.1 h2
    obtain ⟨e1, e2, e3, e4⟩ := val a b ha hb
    simp only [e3, e4]
    exact ⟨e2, (stops_in hO.x3 ha).1, (stops_in hO.x3 ha).2, (stops_in hO.y3 hb).1, (stops_in hO.y3 hb).2⟩
/-- a part of the box has no wider bound -/
theorem bnd_part {xs ys : List Int} {vs : List (List Int)} {x y x' y' : Int × Int} (hO : OnT xs ys vs x y) (hx1 : x.1 ≤ x'.1) (hx2 : x'.2 ≤ x.2) (hx3 : x'.1 ≤ x'.2) (hy1 : y.1 ≤ y'.1) (hy2 : y'.2 ≤ y.2) (hy3 : y'.1 ≤ y'.2) :
    (bnd xs ys vs x y).1 ≤ (bnd xs ys vs x' y').1 ∧ (bnd xs ys vs x' y').2 ≤ (bnd xs ys vs x y).2 := by
  have hO' : OnT xs ys vs x' y' := ⟨hO.t, by have := hO.x1; omega, by have := hO.x2; omega, hx3, by have := hO.y1; omega, by have := hO.y2; omega, hy3⟩
  have b := bnd_is hO
  have b' := bnd_is hO'
  obtain ⟨u, v, u1, u2, v1, v2, e⟩ := b'.low
  obtain ⟨e2, w1, w2, w3, w4⟩ := b'.top
  have p := (b.all u v (by omega) (by omega) (by omega) (by omega)).1
  have q := (b.all _ _ (by omega : x.1 ≤ (wst xs ys vs x' y').1) (by omega) (by omega : y.1 ≤ (wst xs ys vs x' y').2) (by omega)).2
  rw [e] at p
  rw [e2] at q
  exact ⟨p, q⟩
end Go.Proofs.Ytgibbaadjbohdaa
/- Less air, less fuel: the law in numbers. No conditions. -/
namespace Go.Proofs.Ytgibbaadjbohdaa

theorem at_nn {xs ys : List Int} {vs : List (List Int)} {x y : Int} (hT : Tbl xs ys vs) (hx : OnAx xs x) (hy : OnAx ys y) (h0 : ∀ i k : Nat, 0 ≤ (vs[i]?.getD [])[k]?.getD 0) : 0 ≤ atN xs ys vs x y := by
  have q1 := hT.ax.cell_on hx
  have q2 := hT.ay.cell_on hy
  unfold atN
  generalize cellI xs x = i at *
  generalize cellI ys y = k at *
  have b00 := h0 i k
  have b01 := h0 i (k+1)
  have b10 := h0 (i+1) k
  have b11 := h0 (i+1) (k+1)
  simp only
  obtain ⟨hi, hx0, hx1, hgx, hgx'⟩ := q1
  obtain ⟨hk, hy0, hy1, hgy, hgy'⟩ := q2
  generalize xs[i]?.getD 0 = x0 at *
  generalize xs[i+1]?.getD 0 = x1 at *
  generalize ys[k]?.getD 0 = y0 at *
  generalize ys[k+1]?.getD 0 = y1 at *
  generalize (vs[i]?.getD [])[k]?.getD 0 = z00 at *
  generalize (vs[i]?.getD [])[k+1]?.getD 0 = z01 at *
  generalize (vs[i+1]?.getD [])[k]?.getD 0 = z10 at *
  generalize (vs[i+1]?.getD [])[k+1]?.getD 0 = z11 at *
  have s1 := Int.mul_nonneg (Int.mul_nonneg (show 0 ≤ x1 - x by omega) (show 0 ≤ y1 - y by omega)) b00
  have s2 := Int.mul_nonneg (Int.mul_nonneg (show 0 ≤ x - x0 by omega) (show 0 ≤ y1 - y by omega)) b10
  have s3 := Int.mul_nonneg (Int.mul_nonneg (show 0 ≤ x1 - x by omega) (show 0 ≤ y - y0 by omega)) b01
  have s4 := Int.mul_nonneg (Int.mul_nonneg (show 0 ≤ x - x0 by omega) (show 0 ≤ y - y0 by omega)) b11
  unfold numF
  omega
theorem flo_cei {n d : Int} (h : 1 ≤ d) : n / d ≤ -(-n / d) := by
  have h1 := Int.ediv_mul_le n (b := d) (by omega)
  have h2 : -n / d ≤ -(n / d) := Int.ediv_le_of_le_mul (by omega) (by rw [Int.neg_mul]; omega)
  omega
theorem lyB_on {t : Tb} {x y : Int × Int} (ht : Tbl t.x t.y t.v) (hx : x.1 ≤ x.2) (hy : y.1 ≤ y.2) (hl : lyB t x y = true) : OnT t.x t.y t.v x y := by
  unfold lyB at hl
  simp only [Bool.and_eq_true, decide_eq_true_eq] at hl
  exact ⟨ht, hl.1, hl.2.1, hx, hl.2.2.1, hl.2.2.2, hy⟩
theorem spVB_t {x : Int × Int} (h : spVB x = true) : -1000000 ≤ x.1 ∧ x.1 ≤ x.2 ∧ x.2 ≤ 1000000 := by
  unfold spVB wI at h
  simp only [Bool.and_eq_true, decide_eq_true_eq] at h
  omega
theorem spVB_y {x : Int × Int} (h1 : -1000000 ≤ x.1) (h2 : x.1 ≤ x.2) (h3 : x.2 ≤ 1000000) : spVB x = true := by
  unfold spVB wI
  simp only [Bool.and_eq_true, decide_eq_true_eq]
  omega
theorem bound_on {t : Tb} {x y : Int × Int} (h0 : tabErr t.x t.y t.v = 0) (hx : spVB x = true) (hy : spVB y = true) (hl : lyB t x y = true) : boundR t.x t.y t.v x y = (bnd t.x t.y t.v x y, 0) := by
  have ht : tabB t.x t.y t.v = true := by
    unfold tabErr at h0
    cases h : tabB t.x t.y t.v
    · rw [h] at h0; cases h0
    · rfl
  have hx' : vB x = true := hx
  have hy' : vB y = true := hy
  have hs : spErr [x, y] = 0 := by unfold spErr; simp [hx', hy']
  have hz : (liesB t.x x && liesB t.y y) = true := by
    unfold lyB iat at hl
    unfold liesB
    simp only [Bool.and_eq_true, decide_eq_true_eq] at hl ⊢
    exact ⟨⟨hl.1, hl.2.1⟩, hl.2.2.1, hl.2.2.2⟩
  have hc : cpErr t.x t.y t.v x y = 0 := by
    unfold cpErr
    rw [ht, hs, hz]; rfl
  unfold boundR
  rw [hc]; rfl
end Go.Proofs.Ytgibbaadjbohdaa
/- The margin of power, in numbers: with less weights it is not less. No conditions. -/
namespace Go.Proofs.Ytgibbaadjbohdaa

theorem at_le {xs ys : List Int} {vs : List (List Int)} {x y M : Int} (hT : Tbl xs ys vs) (hx : OnAx xs x) (hy : OnAx ys y) (h0 : ∀ i k : Nat, (vs[i]?.getD [])[k]?.getD 0 ≤ M) : atN xs ys vs x y ≤ M * atD xs ys x y := by
  have q1 := hT.ax.cell_on hx
  have q2 := hT.ay.cell_on hy
  unfold atN atD
  generalize cellI xs x = i at *
  generalize cellI ys y = k at *
  have b00 := h0 i k
  have b01 := h0 i (k+1)
  have b10 := h0 (i+1) k
  have b11 := h0 (i+1) (k+1)
  simp only
  obtain ⟨hi, hx0, hx1, hgx, hgx'⟩ := q1
  obtain ⟨hk, hy0, hy1, hgy, hgy'⟩ := q2
  generalize xs[i]?.getD 0 = x0 at *
  generalize xs[i+1]?.getD 0 = x1 at *
  generalize ys[k]?.getD 0 = y0 at *
  generalize ys[k+1]?.getD 0 = y1 at *
  generalize (vs[i]?.getD [])[k]?.getD 0 = z00 at *
  generalize (vs[i]?.getD [])[k+1]?.getD 0 = z01 at *
  generalize (vs[i+1]?.getD [])[k]?.getD 0 = z10 at *
  generalize (vs[i+1]?.getD [])[k+1]?.getD 0 = z11 at *
  have s1 := Int.mul_nonneg (Int.mul_nonneg (show 0 ≤ x1 - x by omega) (show 0 ≤ y1 - y by omega)) (show 0 ≤ M - z00 by omega)
  have s2 := Int.mul_nonneg (Int.mul_nonneg (show 0 ≤ x - x0 by omega) (show 0 ≤ y1 - y by omega)) (show 0 ≤ M - z10 by omega)
  have s3 := Int.mul_nonneg (Int.mul_nonneg (show 0 ≤ x1 - x by omega) (show 0 ≤ y - y0 by omega)) (show 0 ≤ M - z01 by omega)
  have s4 := Int.mul_nonneg (Int.mul_nonneg (show 0 ≤ x - x0 by omega) (show 0 ≤ y - y0 by omega)) (show 0 ≤ M - z11 by omega)
  unfold numF denF
  generalize x1 - x = a at *
  generalize x - x0 = b at *
  generalize y1 - y = c at *
  generalize y - y0 = d at *
  rw [Int.mul_sub] at s1 s2 s3 s4
  have e : M * ((a + b) * (c + d)) = a * c * M + b * c * M + a * d * M + b * d * M := by
    rw [Int.mul_comm M, Int.add_mul, Int.mul_add, Int.mul_add, Int.add_mul, Int.add_mul, Int.add_mul]
    omega
  rw [e]
  omega
theorem cei_le {n d M : Int} (hd : 1 ≤ d) (h : n ≤ M * d) : -(-n / d) ≤ M := by
  have : -M ≤ -n / d := Int.le_ediv_of_mul_le (by omega) (by rw [Int.neg_mul]; omega)
  omega
open Lift in
theorem bnd_lim {t : Tb} {M : Int} (hl : limB t 0 M = true) (hM : 0 ≤ M) {x y : Int × Int} (hO : OnT t.x t.y t.v x y) : 0 ≤ (bnd t.x t.y t.v x y).1 ∧ (bnd t.x t.y t.v x y).1 ≤ (bnd t.x t.y t.v x y).2 ∧ (bnd t.x t.y t.v x y).2 ≤ M := by
  have hv : ∀ i k : Nat, 0 ≤ (t.v[i]?.getD [])[k]?.getD 0 ∧ (t.v[i]?.getD [])[k]?.getD 0 ≤ M := fun i k => by
    by_cases hi : i < t.v.length
    · by_cases hk : k < (t.v[i]?.getD []).length
      · exact limB_val (t := t) (lo := 0) (hi := M) hl i k hi hk
      · rw [List.getElem?_eq_none (by omega)]; simpa using hM
    · have e : t.v[i]? = none := List.getElem?_eq_none (by omega)
      rw [e]; simpa using hM
  have bi := bnd_is hO
  obtain ⟨u, v, u1, u2, v1, v2, e⟩ := bi.low
  obtain ⟨e2, w1, w2, w3, w4⟩ := bi.top
  have ba := bi.all u v u1 u2 v1 v2
  have ox : OnAx t.x u := ⟨by have := hO.x1; omega, by have := hO.x2; omega⟩
  have oy : OnAx t.y v := ⟨by have := hO.y1; omega, by have := hO.y2; omega⟩
  have ad := (at_bd (vs := t.v) hO.t ox oy).1
  have an := at_nn hO.t ox oy fun i k => (hv i k).1
  have o2 : OnAx t.x (wst t.x t.y t.v x y).1 := ⟨by have := hO.x1; omega, by have := hO.x2; omega⟩
  have o3 : OnAx t.y (wst t.x t.y t.v x y).2 := ⟨by have := hO.y1; omega, by have := hO.y2; omega⟩
  have ad2 := (at_bd (vs := t.v) hO.t o2 o3).1
  have al := at_le hO.t o2 o3 fun i k => (hv i k).2
  have c := cei_le ad2 al
  have f0 : 0 ≤ flo t.x t.y t.v u v := Int.ediv_nonneg an (by omega)
  have fc : flo t.x t.y t.v u v ≤ cei t.x t.y t.v u v := flo_cei ad
  refine ⟨by omega, by omega, ?_⟩
  rw [← e2]
  exact c
open Lift
/-- whether a margin can be told, and the margin -/
def mgB (r : Rot) (a : Air) (s : Int × Int) : Bool := spVB s && (lyB r.a a.w a.t && (lyB r.b s a.d && lyB r.d a.t a.h))
def ndH (r : Rot) (a : Air) (s : Int × Int) : Int := ((bnd r.a.x r.a.y r.a.v a.w a.t).2 * (bnd r.b.x r.b.y r.b.v s a.d).2 + 99).tdiv 100
def ndL (r : Rot) (a : Air) (s : Int × Int) : Int := ((bnd r.a.x r.a.y r.a.v a.w a.t).1 * (bnd r.b.x r.b.y r.b.v s a.d).1).tdiv 100
def mgN (r : Rot) (a : Air) (s : Int × Int) : Int := (bnd r.d.x r.d.y r.d.v a.t a.h).1 - ndH r a s
structure MgOk (r : Rot) (a : Air) (s : Int × Int) : Prop where
  ah : boundR r.a.x r.a.y r.a.v a.w a.t = (bnd r.a.x r.a.y r.a.v a.w a.t, 0)
  ag : boundR r.b.x r.b.y r.b.v s a.d = (bnd r.b.x r.b.y r.b.v s a.d, 0)
  ap : boundR r.d.x r.d.y r.d.v a.t a.h = (bnd r.d.x r.d.y r.d.v a.t a.h, 0)
  h : OnT r.a.x r.a.y r.a.v a.w a.t
  g : OnT r.b.x r.b.y r.b.v s a.d
  p : OnT r.d.x r.d.y r.d.v a.t a.h
  bh : 0 ≤ (bnd r.a.x r.a.y r.a.v a.w a.t).1 ∧ (bnd r.a.x r.a.y r.a.v a.w a.t).1 ≤ (bnd r.a.x r.a.y r.a.v a.w a.t).2 ∧ (bnd r.a.x r.a.y r.a.v a.w a.t).2 ≤ 100000
  bg : 0 ≤ (bnd r.b.x r.b.y r.b.v s a.d).1 ∧ (bnd r.b.x r.b.y r.b.v s a.d).1 ≤ (bnd r.b.x r.b.y r.b.v s a.d).2 ∧ (bnd r.b.x r.b.y r.b.v s a.d).2 ≤ 100
  bp : 0 ≤ (bnd r.d.x r.d.y r.d.v a.t a.h).1 ∧ (bnd r.d.x r.d.y r.d.v a.t a.h).1 ≤ (bnd r.d.x r.d.y r.d.v a.t a.h).2 ∧ (bnd r.d.x r.d.y r.d.v a.t a.h).2 ≤ 100000
theorem lim_tab {t : Tb} {lo hi : Int} (h : limB t lo hi = true) : tabErr t.x t.y t.v = 0 := by
  unfold limB at h
  rw [Bool.and_eq_true] at h
  exact of_decide_eq_true h.1
theorem mg_ok {r : Rot} {a : Air} {s : Int × Int} (hr : RotOk r) (hb : airB a = true) (hm : mgB r a s = true) : MgOk r a s := by
  unfold mgB at hm
  simp only [Bool.and_eq_true] at hm
  obtain ⟨ms, mh, mg, mp⟩ := hm
  unfold airB at hb
  simp only [Bool.and_eq_true] at hb
  obtain ⟨aw, atm, ahh, ad⟩ := hb
  have l0 : limB r.a 0 100000 = true := hr.lim 0 (by omega)
  have l1 : limB r.b 0 100 = true := hr.lim 1 (by omega)
  have l3 : limB r.d 0 100000 = true := hr.lim 3 (by omega)
  have o1 := lyB_on (limB_tbl l0) (spVB_t aw).2.1 (spVB_t atm).2.1 mh
  have o2 := lyB_on (limB_tbl l1) (spVB_t ms).2.1 (spVB_t ad).2.1 mg
  have o3 := lyB_on (limB_tbl l3) (spVB_t atm).2.1 (spVB_t ahh).2.1 mp
  exact ⟨bound_on (lim_tab l0) aw atm mh, bound_on (lim_tab l1) ms ad mg, bound_on (lim_tab l3) atm ahh mp, o1, o2, o3, bnd_lim l0 (by omega) o1, bnd_lim l1 (by omega) o2, bnd_lim l3 (by omega) o3⟩
theorem tdiv100 {a b : Int} (h0 : 0 ≤ a) (h : a ≤ b) : 0 ≤ a.tdiv 100 ∧ a.tdiv 100 ≤ b.tdiv 100 := by
  rw [Int.tdiv_eq_ediv_of_nonneg h0, Int.tdiv_eq_ediv_of_nonneg (by omega : 0 ≤ b)]
  omega
theorem margin_less {r : Rot} {a : Air} {s w : Int × Int} (hr : RotOk r) (hb : airB a = true) (hm : mgB r a s = true) (hw : spVB w = true) (h1 : a.w.1 ≤ w.1) (h2 : w.2 ≤ a.w.2) :
    airB ⟨w, a.t, a.h, a.d⟩ = true ∧ mgB r ⟨w, a.t, a.h, a.d⟩ s = true ∧ mgN r a s ≤ mgN r ⟨w, a.t, a.h, a.d⟩ s := by
  have hb' : airB ⟨w, a.t, a.h, a.d⟩ = true := by
    unfold airB at hb ⊢
    simp only [Bool.and_eq_true] at hb ⊢
    exact ⟨hw, hb.2⟩
  have hm' : mgB r ⟨w, a.t, a.h, a.d⟩ s = true := by
    unfold mgB at hm ⊢
    simp only [Bool.and_eq_true] at hm ⊢
    refine ⟨hm.1, ?_, hm.2.2⟩
    have := hm.2.1
    unfold lyB at this ⊢
    simp only [Bool.and_eq_true, decide_eq_true_eq] at this ⊢
    omega
  have A := mg_ok hr hb hm
  have B := mg_ok hr hb' hm'
  refine ⟨hb', hm', ?_⟩
  have ww := spVB_t hw
  have ht := A.h.y3
  have bp := bnd_part A.h (x' := w) (y' := a.t) h1 h2 ww.2.1 (by omega) (by omega) ht
  have e1 := A.bg
  have e2 := B.bh
  have e3 := A.bh
  unfold mgN ndH
  simp only at e2 ⊢
  have hq : (bnd r.a.x r.a.y r.a.v w a.t).2 * (bnd r.b.x r.b.y r.b.v s a.d).2 ≤ (bnd r.a.x r.a.y r.a.v a.w a.t).2 * (bnd r.b.x r.b.y r.b.v s a.d).2 := Int.mul_le_mul_of_nonneg_right bp.2 (by omega)
  have hp : 0 ≤ (bnd r.a.x r.a.y r.a.v w a.t).2 * (bnd r.b.x r.b.y r.b.v s a.d).2 := Int.mul_nonneg (by omega) (by omega)
  have := tdiv100 (a := (bnd r.a.x r.a.y r.a.v w a.t).2 * (bnd r.b.x r.b.y r.b.v s a.d).2 + 99) (b := (bnd r.a.x r.a.y r.a.v a.w a.t).2 * (bnd r.b.x r.b.y r.b.v s a.d).2 + 99) (by omega) (by omega)
  omega
end Go.Proofs.Ytgibbaadjbohdaa
