/- Texts of the law TopSlung, part 14. No conditions. -/
import Derived.Test.YtgibbaadjbohdaaPTopSlung13
/- TopSlung: the load on the hook (views last). No conditions. -/
set_option linter.unusedSimpArgs false
set_option linter.unusedVariables false
namespace Go.Proofs.Ytgibbaadjbohdaa
open Go.RowKit Lift

theorem ac_view {f : FuncId} {args args' : List D} {d : D} (hA : AC Try.prog f args' [] [] d) (hv : ∀ H, VwL H [] args args') : AC Try.prog f args [] [] d :=
  ⟨hA.1, fun w vs β Z H hs hr hh hfr hp => AC.view (V := []) (H := H) hA (hv H).get.1 (hv H).get.2 (.inl rfl) (by simp) (by simp) hs hr hh hfr hp⟩
def zRot (h : Hst) : Rot := ⟨⟨h.xs, h.ys, h.vs⟩, ⟨[], [], []⟩, ⟨[], [], []⟩, ⟨[], [], []⟩, ⟨[], [], []⟩, ⟨[], [], []⟩, ⟨[], [], []⟩, ⟨[], [], []⟩, 0, 0⟩
theorem zRot_in {h : Hst} (hm : TSm h.xs h.ys h.vs) : RotIn (zRot h) := by
  have hz : TSm [] [] [] := ⟨by decide, by decide, by decide, by intro r hr; cases hr⟩
  intro k hk
  rcases (by omega : k = 0 ∨ k = 1 ∨ k = 2 ∨ k = 3 ∨ k = 4 ∨ k = 5 ∨ k = 6 ∨ k = 7) with rfl | rfl | rfl | rfl | rfl | rfl | rfl | rfl
  · exact hm
  all_goals exact hz
theorem zRot_far (h : Hst) : farRot (zRot h) = farB h.xs h.ys h.vs := by
  have e : farT ⟨[], [], []⟩ = false := by decide
  unfold farRot zRot
  simp only [e, Bool.or_false]
  rfl
theorem vw_nil {H : Heap} {V : List Nat} : Vw H V (.val (.slice none 0 0)) (.list []) := .nil
theorem farZ_ac (h : Hst) (hm : TSm h.xs h.ys h.vs) : AC Try.prog 7 [.agg [.list (ints h.xs), .list (ints h.ys), .list (rows h.vs), .val (.slice none 0 0), .val (.slice none 0 0), .val (.slice none 0 0), .val (.slice none 0 0), .val (.slice none 0 0), .val (.slice none 0 0), .val (.slice none 0 0), .val (.slice none 0 0), .val (.slice none 0 0), .val (.slice none 0 0), .val (.slice none 0 0), .val (.slice none 0 0), .val (.slice none 0 0), .val (.slice none 0 0), .val (.slice none 0 0), .val (.slice none 0 0), .val (.slice none 0 0), .val (.slice none 0 0), .val (.slice none 0 0), .val (.slice none 0 0), .val (.slice none 0 0), dI 0, dI 0]] [] [] (dB (farB h.xs h.ys h.vs)) := by
  have c := farR_ac (zRot h) (zRot_in hm)
  rw [zRot_far] at c
  refine ac_view c fun H => ?_
  have hv : VwL H [] [.list (ints h.xs), .list (ints h.ys), .list (rows h.vs), .val (.slice none 0 0), .val (.slice none 0 0), .val (.slice none 0 0), .val (.slice none 0 0), .val (.slice none 0 0), .val (.slice none 0 0), .val (.slice none 0 0), .val (.slice none 0 0), .val (.slice none 0 0), .val (.slice none 0 0), .val (.slice none 0 0), .val (.slice none 0 0), .val (.slice none 0 0), .val (.slice none 0 0), .val (.slice none 0 0), .val (.slice none 0 0), .val (.slice none 0 0), .val (.slice none 0 0), .val (.slice none 0 0), .val (.slice none 0 0), .val (.slice none 0 0), dI 0, dI 0] (rotC (zRot h)) :=
    ⟨.refl _, .refl _, .refl _, vw_nil, vw_nil, vw_nil, vw_nil, vw_nil, vw_nil, vw_nil, vw_nil, vw_nil, vw_nil, vw_nil, vw_nil, vw_nil, vw_nil, vw_nil, vw_nil, vw_nil, vw_nil, vw_nil, vw_nil, vw_nil, .refl _, .refl _, trivial⟩
  exact ⟨.agg _ _ hv.get.1 hv.get.2, trivial⟩
def hovC (r : Rot) (a : Air) (s : Int × Int) : List D := [.list (ints r.a.x), .list (ints r.a.y), .list (rows r.a.v), .list (ints r.b.x), .list (ints r.b.y), .list (rows r.b.v), .list (ints r.c.x), .list (ints r.c.y), .list (rows r.c.v), .list (ints r.d.x), .list (ints r.d.y), .list (rows r.d.v), .list (ints r.e.x), .list (ints r.e.y), .list (rows r.e.v), .list (ints r.f.x), .list (ints r.f.y), .list (rows r.f.v), .list (ints r.g.x), .list (ints r.g.y), .list (rows r.g.v), .list (ints r.h.x), .list (ints r.h.y), .list (rows r.h.v), dI r.cl, dI r.bu, dI a.w.1, dI a.w.2, dI a.t.1, dI a.t.2, dI a.h.1, dI a.h.2, dI a.d.1, dI a.d.2, dI s.1, dI s.2]
def hgiC (h : Hst) (wd : Int × Int) (l : Bx) : List D := [dI h.cable, .list (ints h.xs), .list (ints h.ys), .list (rows h.vs), dI h.charge, dI wd.1, dI wd.2, .list (sps l)]
theorem slung_now {r : Rot} {a : Air} {s : Int × Int} {M R : Int} (hs : RotSm r) (h0 : rotE r = 0) (ha : spVB a.w = true) (hW : airB ⟨(a.w.1, a.w.2 + M), a.t, a.h, a.d⟩ = true) (hm : mgB r ⟨(a.w.1, a.w.2 + M), a.t, a.h, a.d⟩ s = true) (hG : R ≤ mgN r ⟨(a.w.1, a.w.2 + M), a.t, a.h, a.d⟩ s) (n : Int) (n0 : 0 ≤ n) (n1 : n ≤ M) :
    ∃ G : Int, R ≤ G ∧ AC Try.prog 19 [rotD r, airD ⟨(a.w.1 + n, a.w.2 + n), a.t, a.h, a.d⟩, .agg [dI s.1, dI s.2]] [] [] (.tup [dI G, dI 0]) := by
  have v1 := spVB_t ha
  have hw1 : spVB (a.w.1, a.w.2 + M) = true := by
    unfold airB at hW
    simp only [Bool.and_eq_true] at hW
    exact hW.1
  have v2 := spVB_t hw1
  simp only at v2
  obtain ⟨l1, l2, l3⟩ := margin_less (w := (a.w.1 + n, a.w.2 + n)) (rotE_is h0) hW hm (spVB_y (by simp only; omega) (by simp only; omega) (by simp only; omega)) (by simp only; omega) (by simp only; omega)
  have c := roMargin_ac r ⟨(a.w.1 + n, a.w.2 + n), a.t, a.h, a.d⟩ s hs h0 l1
  have e1 : mgE r ⟨(a.w.1 + n, a.w.2 + n), a.t, a.h, a.d⟩ s = 0 := if_pos l2
  have e2 : mgR r ⟨(a.w.1 + n, a.w.2 + n), a.t, a.h, a.d⟩ s = mgN r ⟨(a.w.1 + n, a.w.2 + n), a.t, a.h, a.d⟩ s := if_pos l2
  rw [e1, e2] at c
  exact ⟨_, Int.le_trans hG l3, c⟩
set_option maxRecDepth 100000 in
set_option maxHeartbeats 16000000 in
theorem lawSlung_ac (r : Rot) (a : Air) (s : Int × Int) (h : Hst) (wd : Int × Int) (l : Bx) (R : Int) (hR : RotIn r) (hH : HSm h) : AC Try.prog 5 [.agg (hovC r a s), .agg (hgiC h wd l), dI R] [] [] (dB true) := by
  refine ktop_TopSlung.ac (n0 := 0) (by simp) ⟨.agg _ (wals_in (c := hovC r a s) rfl), .agg _ (wals_in (c := hgiC h wd l) rfl), .val _, trivial⟩ trivial rfl ?_
  have cf := farR_ac r hR
  have cz := farZ_ac h hH.m
  unfold ctop_TopSlung
  cases hf : farRot r with
  | true =>
    rw [hf] at cf
    unfold rotD rotC hovC hgiC at *
    (have hg : (987654321 : Nat) - 987654321 = 0 := rfl; have hr := hg; repeat' (first | refine aw_seq ?_ | (refine aw_skip ?_; with_reducible repeat' (first | refine thenQ_n ?_ | refine blockQ_n ?_ | refine thenQ_e ?_ | refine blockQ_t ?_ | refine blockQ_f (by decide) ?_)) | (refine aw_exit ?_; with_reducible repeat' (first | refine thenQ_n ?_ | refine blockQ_n ?_ | refine thenQ_e ?_ | refine blockQ_t ?_ | refine blockQ_f (by decide) ?_)) | refine aw_ret ?_ | refine aw_block ?_ | refine aw_condT rfl ?_ | refine aw_condF rfl ?_ | ((first | refine aw_hide fun K hK => aw_region ?_ | refine acall0 (cf) ?_ | refine acall0 (cz) ?_ | refine acall0 (measures_ac) ?_ | refine ago_if (by omega) ?_ | skip); simp (config := {maxSteps := 10000000}) (disch := first | exact okYes (by kernel_rfl) | omega) only [List.length, Nat.zero_add, Nat.reduceAdd, Nat.reduceMul, envOf, dI, ARun_none, AOpRun, aexec, D.isBot, FSt.ev, St.F, ↓eget_h, Bool.false_eq_true, Option.isSome, hget_n, or_self, ↓reduceIte, D.cells, AGo_ok, St.app, putO, eput_c, Nat.reduceBEq, eput_n, cond_false, hups, hput_n, List.map, eget_c, hget_c, hput_c, ARun_nil, dropE_c, inL_n, dropE_n, beq_self_eq_true, cond_true, Nat.reduceLeDiff, List.drop, List.take, dB, ARun_some, AG_tf, inL_c, thenQ]) | (subst hK; with_reducible repeat' (first | refine thenQ_n ?_ | refine blockQ_n ?_ | refine thenQ_e ?_ | refine blockQ_t ?_ | refine blockQ_f (by decide) ?_))))
    all_goals (refine end_to [] [] (by first | exact .inl rfl | exact .inr rfl) rfl (by kernel_rfl) (by kernel_rfl) (by kernel_rfl) ?_ ?_ <;> repeat' (first | exact trivial | exact vr_val _))
  | false =>
  rw [hf] at cf
  have hs := farRot_sm hf
  cases hz : farB h.xs h.ys h.vs with
  | true =>
    rw [hz] at cz
    unfold rotD rotC hovC hgiC at *
    (have hg : (987654321 : Nat) - 987654321 = 0 := rfl; have hr := hg; repeat' (first | refine aw_seq ?_ | (refine aw_skip ?_; with_reducible repeat' (first | refine thenQ_n ?_ | refine blockQ_n ?_ | refine thenQ_e ?_ | refine blockQ_t ?_ | refine blockQ_f (by decide) ?_)) | (refine aw_exit ?_; with_reducible repeat' (first | refine thenQ_n ?_ | refine blockQ_n ?_ | refine thenQ_e ?_ | refine blockQ_t ?_ | refine blockQ_f (by decide) ?_)) | refine aw_ret ?_ | refine aw_block ?_ | refine aw_condT rfl ?_ | refine aw_condF rfl ?_ | ((first | refine aw_hide fun K hK => aw_region ?_ | refine acall0 (cf) ?_ | refine acall0 (cz) ?_ | refine acall0 (measures_ac) ?_ | refine ago_if (by omega) ?_ | skip); simp (config := {maxSteps := 10000000}) (disch := first | exact okYes (by kernel_rfl) | omega) only [List.length, Nat.zero_add, Nat.reduceAdd, Nat.reduceMul, envOf, dI, ARun_none, AOpRun, aexec, D.isBot, FSt.ev, St.F, ↓eget_h, Bool.false_eq_true, Option.isSome, hget_n, or_self, ↓reduceIte, D.cells, AGo_ok, St.app, putO, eput_c, Nat.reduceBEq, eput_n, cond_false, hups, hput_n, List.map, eget_c, hget_c, hput_c, ARun_nil, dropE_c, inL_n, dropE_n, beq_self_eq_true, cond_true, Nat.reduceLeDiff, List.drop, List.take, dB, ARun_some, AG_ff, ↓hget_h, Option.map, fillD, ne_eq, not_true_eq_false, Nat.reduceGT, splice, List.nil_append, List.cons_append, AG_tf, inL_c, thenQ]) | (subst hK; with_reducible repeat' (first | refine thenQ_n ?_ | refine blockQ_n ?_ | refine thenQ_e ?_ | refine blockQ_t ?_ | refine blockQ_f (by decide) ?_))))
    all_goals (refine end_to [] [] (by first | exact .inl rfl | exact .inr rfl) rfl (by kernel_rfl) (by kernel_rfl) (by kernel_rfl) ?_ ?_ <;> repeat' (first | exact trivial | exact vr_val _))
  | false =>
  rw [hz] at cz
  have ll := sps_len l
  cases q1 : decide ((l.length : Int) > 30) with
  | true =>
    unfold rotD rotC hovC hgiC at *
    (have hg : (987654321 : Nat) - 987654321 = 0 := rfl; have hr := hg; repeat' (first | refine aw_seq ?_ | (refine aw_skip ?_; with_reducible repeat' (first | refine thenQ_n ?_ | refine blockQ_n ?_ | refine thenQ_e ?_ | refine blockQ_t ?_ | refine blockQ_f (by decide) ?_)) | (refine aw_exit ?_; with_reducible repeat' (first | refine thenQ_n ?_ | refine blockQ_n ?_ | refine thenQ_e ?_ | refine blockQ_t ?_ | refine blockQ_f (by decide) ?_)) | refine aw_ret ?_ | refine aw_block ?_ | refine aw_condT rfl ?_ | refine aw_condF rfl ?_ | ((first | refine aw_hide fun K hK => aw_region ?_ | refine acall0 (cf) ?_ | refine acall0 (cz) ?_ | refine acall0 (measures_ac) ?_ | refine ago_if (by omega) ?_ | skip); simp (config := {maxSteps := 10000000}) (disch := first | exact okYes (by kernel_rfl) | omega) only [List.length, Nat.zero_add, Nat.reduceAdd, Nat.reduceMul, envOf, dI, ARun_none, AOpRun, aexec, D.isBot, FSt.ev, St.F, ↓eget_h, Bool.false_eq_true, Option.isSome, hget_n, or_self, ↓reduceIte, D.cells, AGo_ok, St.app, putO, eput_c, Nat.reduceBEq, eput_n, cond_false, hups, hput_n, List.map, eget_c, hget_c, hput_c, ARun_nil, dropE_c, inL_n, dropE_n, beq_self_eq_true, cond_true, Nat.reduceLeDiff, List.drop, List.take, dB, ARun_some, AG_ff, ↓hget_h, Option.map, fillD, ne_eq, not_true_eq_false, Nat.reduceGT, splice, List.nil_append, List.cons_append, run1, List.getElem?_cons_succ, List.getElem?_cons_zero, ll, isSh, abin, q1, AG_tf, inL_c, thenQ]) | (subst hK; with_reducible repeat' (first | refine thenQ_n ?_ | refine blockQ_n ?_ | refine thenQ_e ?_ | refine blockQ_t ?_ | refine blockQ_f (by decide) ?_))))
    all_goals (refine end_to [] [] (by first | exact .inl rfl | exact .inr rfl) rfl (by kernel_rfl) (by kernel_rfl) (by kernel_rfl) ?_ ?_ <;> repeat' (first | exact trivial | exact vr_val _))
  | false =>
  have ca := rAir_ac r a hs
  by_cases hA : airE r a = 0
  case neg =>
    have q : (airE r a != 0) = true := by simpa using hA
    generalize airE r a = E at *
    unfold rotD rotC airD airC hovC hgiC at *
    (have hg : (987654321 : Nat) - 987654321 = 0 := rfl; have hr := hg; repeat' (first | refine aw_seq ?_ | (refine aw_skip ?_; with_reducible repeat' (first | refine thenQ_n ?_ | refine blockQ_n ?_ | refine thenQ_e ?_ | refine blockQ_t ?_ | refine blockQ_f (by decide) ?_)) | (refine aw_exit ?_; with_reducible repeat' (first | refine thenQ_n ?_ | refine blockQ_n ?_ | refine thenQ_e ?_ | refine blockQ_t ?_ | refine blockQ_f (by decide) ?_)) | refine aw_ret ?_ | refine aw_block ?_ | refine aw_condT rfl ?_ | refine aw_condF rfl ?_ | ((first | refine aw_hide fun K hK => aw_region ?_ | refine acall0 (cf) ?_ | refine acall0 (cz) ?_ | refine acall0 (ca) ?_ | refine acall0 (measures_ac) ?_ | refine ago_if (by omega) ?_ | skip); simp (config := {maxSteps := 10000000}) (disch := first | exact okYes (by kernel_rfl) | omega) only [List.length, Nat.zero_add, Nat.reduceAdd, Nat.reduceMul, envOf, dI, ARun_none, AOpRun, aexec, D.isBot, FSt.ev, St.F, ↓eget_h, Bool.false_eq_true, Option.isSome, hget_n, or_self, ↓reduceIte, D.cells, AGo_ok, St.app, putO, eput_c, Nat.reduceBEq, eput_n, cond_false, hups, hput_n, List.map, eget_c, hget_c, hput_c, ARun_nil, dropE_c, inL_n, dropE_n, beq_self_eq_true, cond_true, Nat.reduceLeDiff, List.drop, List.take, dB, ARun_some, AG_ff, ↓hget_h, Option.map, fillD, ne_eq, not_true_eq_false, Nat.reduceGT, splice, List.nil_append, List.cons_append, run1, List.getElem?_cons_succ, List.getElem?_cons_zero, ll, isSh, abin, q1, q, AG_tf, inL_c, thenQ]) | (subst hK; with_reducible repeat' (first | refine thenQ_n ?_ | refine blockQ_n ?_ | refine thenQ_e ?_ | refine blockQ_t ?_ | refine blockQ_f (by decide) ?_))))
    all_goals (refine end_to [] [] (by first | exact .inl rfl | exact .inr rfl) rfl (by kernel_rfl) (by kernel_rfl) (by kernel_rfl) ?_ ?_ <;> repeat' (first | exact trivial | exact vr_val _))
  rw [hA] at ca
  obtain ⟨h0, hb⟩ := airE_zero hA
  have cv := rValid_ac s
  cases hv : spVB s with
  | false =>
    rw [hv] at cv
    unfold rotD rotC airD airC hovC hgiC at *
    (have hg : (987654321 : Nat) - 987654321 = 0 := rfl; have hr := hg; repeat' (first | refine aw_seq ?_ | (refine aw_skip ?_; with_reducible repeat' (first | refine thenQ_n ?_ | refine blockQ_n ?_ | refine thenQ_e ?_ | refine blockQ_t ?_ | refine blockQ_f (by decide) ?_)) | (refine aw_exit ?_; with_reducible repeat' (first | refine thenQ_n ?_ | refine blockQ_n ?_ | refine thenQ_e ?_ | refine blockQ_t ?_ | refine blockQ_f (by decide) ?_)) | refine aw_ret ?_ | refine aw_block ?_ | refine aw_condT rfl ?_ | refine aw_condF rfl ?_ | ((first | refine aw_hide fun K hK => aw_region ?_ | refine acall0 (cf) ?_ | refine acall0 (cz) ?_ | refine acall0 (ca) ?_ | refine acall0 (cv) ?_ | refine acall0 (measures_ac) ?_ | refine ago_if (by omega) ?_ | skip); simp (config := {maxSteps := 10000000}) (disch := first | exact okYes (by kernel_rfl) | omega) only [List.length, Nat.zero_add, Nat.reduceAdd, Nat.reduceMul, envOf, dI, ARun_none, AOpRun, aexec, D.isBot, FSt.ev, St.F, ↓eget_h, Bool.false_eq_true, Option.isSome, hget_n, or_self, ↓reduceIte, D.cells, AGo_ok, St.app, putO, eput_c, Nat.reduceBEq, eput_n, cond_false, hups, hput_n, List.map, eget_c, hget_c, hput_c, ARun_nil, dropE_c, inL_n, dropE_n, beq_self_eq_true, cond_true, Nat.reduceLeDiff, List.drop, List.take, dB, ARun_some, AG_ff, ↓hget_h, Option.map, fillD, ne_eq, not_true_eq_false, Nat.reduceGT, splice, List.nil_append, List.cons_append, run1, List.getElem?_cons_succ, List.getElem?_cons_zero, ll, isSh, abin, q1, bne_self_eq_false, Bool.not_false, inL_c, thenQ]) | (subst hK; with_reducible repeat' (first | refine thenQ_n ?_ | refine blockQ_n ?_ | refine thenQ_e ?_ | refine blockQ_t ?_ | refine blockQ_f (by decide) ?_))))
    all_goals (refine end_to [] [] (by first | exact .inl rfl | exact .inr rfl) rfl (by kernel_rfl) (by kernel_rfl) (by kernel_rfl) ?_ ?_ <;> repeat' (first | exact trivial | exact vr_val _))
  | true =>
  rw [hv] at cv
  have c1 := addS_ac a.w (0, mostH l l.length)
  have c3 := fun i => shaul_ac h wd (l.take i) hH
  have c4 := fun L w => scarries_ac h wd L w hH
  have q1' := of_decide_eq_false q1
  have mb := mostH_bd l
  have mu := mostH_up l
  have hgw := fun i (hi : i ≤ l.length) (e : hauE h wd (l.take i) = 0) => slung_hang hi e
  have hst : ∀ i, sps (l.take i) = (sps l).take i := fun i => by simp [sps, List.map_take]
  obtain ⟨mo, hmo⟩ : ∃ f : Nat → Int, f = mostH l := ⟨_, rfl⟩
  rw [← hmo] at c1 mb mu hgw
  have ms := fun i => mostH_s l i
  rw [← hmo] at ms
  have m0 : mo 0 = 0 := by rw [hmo]; rfl
  have hm0 := slung_now (r := r) (a := a) (s := s) (M := mo l.length) (R := R) hs h0
  have hma := roMargin_ac r ⟨(a.w.1, a.w.2 + mo l.length), a.t, a.h, a.d⟩ s hs h0
  generalize hTw : (⟨(a.w.1, a.w.2 + mo l.length), a.t, a.h, a.d⟩ : Air) = tw at hm0
  unfold rotD rotC airD airC hovC hgiC hoD hoC spD at *
  (have hg : (987654321 : Nat) - 987654321 = 0 := rfl; have hr := hg; repeat' (first | refine aw_seq ?_ | (refine aw_skip ?_; with_reducible repeat' (first | refine thenQ_n ?_ | refine blockQ_n ?_ | refine thenQ_e ?_ | refine blockQ_t ?_ | refine blockQ_f (by decide) ?_)) | (refine aw_exit ?_; with_reducible repeat' (first | refine thenQ_n ?_ | refine blockQ_n ?_ | refine thenQ_e ?_ | refine blockQ_t ?_ | refine blockQ_f (by decide) ?_)) | refine aw_ret ?_ | refine aw_block ?_ | refine aw_condT rfl ?_ | refine aw_condF rfl ?_ | ((first | refine aw_hide fun K hK => aw_region ?_ | refine acall0 (cf) ?_ | refine acall0 (cz) ?_ | refine acall0 (ca) ?_ | refine acall0 (cv) ?_ | refine ago_if (by omega) ?_ | skip); simp (config := {maxSteps := 10000000}) (disch := first | exact okYes (by kernel_rfl) | omega) only [List.length, Nat.zero_add, Nat.reduceAdd, Nat.reduceMul, envOf, dI, ARun_none, AOpRun, aexec, D.isBot, FSt.ev, St.F, ↓eget_h, Bool.false_eq_true, Option.isSome, hget_n, or_self, ↓reduceIte, D.cells, AGo_ok, St.app, putO, eput_c, Nat.reduceBEq, eput_n, cond_false, hups, hput_n, List.map, eget_c, hget_c, hput_c, ARun_nil, dropE_c, inL_n, dropE_n, beq_self_eq_true, cond_true, Nat.reduceLeDiff, List.drop, List.take, dB, ARun_some, AG_ff, ↓hget_h, Option.map, fillD, ne_eq, not_true_eq_false, Nat.reduceGT, splice, List.nil_append, List.cons_append, run1, List.getElem?_cons_succ, List.getElem?_cons_zero, ll, isSh, abin, q1, bne_self_eq_false, Bool.not_true, inL_c]) | (subst hK; with_reducible repeat' (first | refine thenQ_n ?_ | refine blockQ_n ?_ | refine thenQ_e ?_ | refine blockQ_t ?_ | refine blockQ_f (by decide) ?_))))
  clear cf cz ca cv
  refine aw_loop (fun i : Nat => ⟨[(2, dI R), (3, .ptr 0 0), (4, .ptr 8 0), (7, dI (mo i)), (8, dI i)], [(0, hovC r a s), (8, hgiC h wd l)], 600⟩) (fun i => i ≤ l.length) (fun i => l.length - i) ⟨0, by omega, ?_⟩ ?_
  · rw [m0]
    unfold dI hovC hgiC
    refine wk_to [] [(0, 0), (8, 8)] (by kernel_rfl) (by kernel_rfl) (by kernel_rfl) (by kernel_rfl) (by kernel_rfl) ?_ ?_ <;> repeat' (first | exact trivial | exact vr_val _ | exact vr_list _ | exact vr_ptr _ _ _ rfl | refine And.intro ⟨_, rfl, .inl ⟨_, rfl, by decide, ?_⟩⟩ ?_ | apply And.intro)
  intro i hle
  unfold hovC hgiC
  by_cases hi2 : i < l.length
  case pos =>
    have g1 := sps_gd l i hi2
    have la := sps_all l
    have ki : (i : Int) < (l.length : Int) := by omega
    have b1 := mb i
    have b2 := ms i
    have nxt : ∃ j, j ≤ l.length ∧ l.length - j < l.length - i ∧ j = i + 1 := ⟨i + 1, by omega, by omega, rfl⟩
    obtain ⟨j, j1, j2, rfl⟩ := nxt
    clear c1 c3 c4 mb mu ms hmo hgw hst hm0 hma hTw
    generalize lo l i = X at *
    generalize hi l i = Y at *
    by_cases k4 : X = 4
    case neg =>
      rw [if_neg (fun h => k4 h.1)] at b2
      have d1 : (X == 4) = false := by simpa using k4
      (have hg : (987654321 : Nat) - 987654321 = 0 := rfl; have hr := hg; repeat' (first | refine aw_seq ?_ | (refine aw_skip ?_; with_reducible repeat' (first | refine thenQ_n ?_ | refine blockQ_n ?_ | refine thenQ_e ?_ | refine blockQ_t ?_ | refine blockQ_f (by decide) ?_)) | (refine aw_exit ?_; with_reducible repeat' (first | refine thenQ_n ?_ | refine blockQ_n ?_ | refine thenQ_e ?_ | refine blockQ_t ?_ | refine blockQ_f (by decide) ?_)) | refine aw_ret ?_ | refine aw_block ?_ | refine aw_condT rfl ?_ | refine aw_condF rfl ?_ | ((first | refine aw_hide fun K hK => aw_region ?_ | refine ago_if (by omega) ?_ | skip); simp (config := {maxSteps := 10000000}) (disch := first | exact okYes (by kernel_rfl) | omega) only [List.length, Nat.zero_add, Nat.reduceAdd, Nat.reduceMul, dI, ARun_none, AOpRun, aexec, FSt.ev, St.F, eget_c, Nat.reduceBEq, ↓eget_h, cond_false, AGo_ok, St.app, putO, eput_c, eput_n, hups, List.map, Option.map, run1, hget_c, ↓hget_h, List.getElem?_cons_succ, List.getElem?_cons_zero, ll, isSh, Bool.false_eq_true, ↓reduceIte, abin, ki, decide_true, ARun_nil, dropE_c, inL_c, inL_n, beq_self_eq_true, cond_true, dropE_n, Int.natCast_nonneg, la, and_self, opt1, Int.toNat_natCast, g1, List.drop, d1, ARun_some, AG_ft, fits]) | (subst hK; with_reducible repeat' (first | refine thenQ_n ?_ | refine blockQ_n ?_ | refine thenQ_e ?_ | refine blockQ_t ?_ | refine blockQ_f (by decide) ?_))))
      refine ⟨i + 1, j1, j2, ?_⟩
      rw [b2]
      try unfold hovC hgiC
      refine wk_to [] [(0, 0), (8, 8)] (by kernel_rfl) (by kernel_rfl) (by kernel_rfl) (by kernel_rfl) (by kernel_rfl) ?_ ?_ <;> repeat' (first | exact trivial | exact vr_val _ | exact vr_list _ | exact vr_ptr _ _ _ rfl | refine And.intro ⟨_, rfl, .inl ⟨_, rfl, by decide, ?_⟩⟩ ?_ | apply And.intro)
    have d1 : (X == 4) = true := by simpa using k4
    by_cases ky : Y ≤ 100000
    case neg =>
      rw [if_neg (fun h => ky h.2)] at b2
      have d2 : decide (Y ≤ 100000) = false := decide_eq_false ky
      (have hg : (987654321 : Nat) - 987654321 = 0 := rfl; have hr := hg; repeat' (first | refine aw_seq ?_ | (refine aw_skip ?_; with_reducible repeat' (first | refine thenQ_n ?_ | refine blockQ_n ?_ | refine thenQ_e ?_ | refine blockQ_t ?_ | refine blockQ_f (by decide) ?_)) | (refine aw_exit ?_; with_reducible repeat' (first | refine thenQ_n ?_ | refine blockQ_n ?_ | refine thenQ_e ?_ | refine blockQ_t ?_ | refine blockQ_f (by decide) ?_)) | refine aw_ret ?_ | refine aw_block ?_ | refine aw_condT rfl ?_ | refine aw_condF rfl ?_ | ((first | refine aw_hide fun K hK => aw_region ?_ | refine ago_if (by omega) ?_ | skip); simp (config := {maxSteps := 10000000}) (disch := first | exact okYes (by kernel_rfl) | omega) only [List.length, Nat.zero_add, Nat.reduceAdd, Nat.reduceMul, dI, ARun_none, AOpRun, aexec, FSt.ev, St.F, eget_c, Nat.reduceBEq, ↓eget_h, cond_false, AGo_ok, St.app, putO, eput_c, eput_n, hups, List.map, Option.map, run1, hget_c, ↓hget_h, List.getElem?_cons_succ, List.getElem?_cons_zero, ll, isSh, Bool.false_eq_true, ↓reduceIte, abin, ki, decide_true, ARun_nil, dropE_c, inL_c, inL_n, beq_self_eq_true, cond_true, dropE_n, Int.natCast_nonneg, la, and_self, opt1, Int.toNat_natCast, g1, List.drop, d1, ARun_some, AG_tt, d2, fits]) | (subst hK; with_reducible repeat' (first | refine thenQ_n ?_ | refine blockQ_n ?_ | refine thenQ_e ?_ | refine blockQ_t ?_ | refine blockQ_f (by decide) ?_))))
      refine ⟨i + 1, j1, j2, ?_⟩
      rw [b2]
      try unfold hovC hgiC
      refine wk_to [] [(0, 0), (8, 8)] (by kernel_rfl) (by kernel_rfl) (by kernel_rfl) (by kernel_rfl) (by kernel_rfl) ?_ ?_ <;> repeat' (first | exact trivial | exact vr_val _ | exact vr_list _ | exact vr_ptr _ _ _ rfl | refine And.intro ⟨_, rfl, .inl ⟨_, rfl, by decide, ?_⟩⟩ ?_ | apply And.intro)
    have d2 : decide (Y ≤ 100000) = true := decide_eq_true ky
    rw [if_pos ⟨k4, ky⟩] at b2
    (have hg : (987654321 : Nat) - 987654321 = 0 := rfl; have hr := hg; repeat' (first | refine aw_seq ?_ | (refine aw_skip ?_; with_reducible repeat' (first | refine thenQ_n ?_ | refine blockQ_n ?_ | refine thenQ_e ?_ | refine blockQ_t ?_ | refine blockQ_f (by decide) ?_)) | (refine aw_exit ?_; with_reducible repeat' (first | refine thenQ_n ?_ | refine blockQ_n ?_ | refine thenQ_e ?_ | refine blockQ_t ?_ | refine blockQ_f (by decide) ?_)) | refine aw_ret ?_ | refine aw_block ?_ | refine aw_condT rfl ?_ | refine aw_condF rfl ?_ | ((first | refine aw_hide fun K hK => aw_region ?_ | refine ago_if (by omega) ?_ | skip); simp (config := {maxSteps := 10000000}) (disch := first | exact okYes (by kernel_rfl) | omega) only [List.length, Nat.zero_add, Nat.reduceAdd, Nat.reduceMul, dI, ARun_none, AOpRun, aexec, FSt.ev, St.F, eget_c, Nat.reduceBEq, ↓eget_h, cond_false, AGo_ok, St.app, putO, eput_c, eput_n, hups, List.map, Option.map, run1, hget_c, ↓hget_h, List.getElem?_cons_succ, List.getElem?_cons_zero, ll, isSh, Bool.false_eq_true, ↓reduceIte, abin, ki, decide_true, ARun_nil, dropE_c, inL_c, inL_n, beq_self_eq_true, cond_true, dropE_n, Int.natCast_nonneg, la, and_self, opt1, Int.toNat_natCast, g1, List.drop, d1, ARun_some, AG_tt, d2, foldI, mx2, fits]) | (subst hK; with_reducible repeat' (first | refine thenQ_n ?_ | refine blockQ_n ?_ | refine thenQ_e ?_ | refine blockQ_t ?_ | refine blockQ_f (by decide) ?_))))
    refine ⟨i + 1, j1, j2, ?_⟩
    rw [b2]
    try unfold hovC hgiC
    refine wk_to [] [(0, 0), (8, 8)] (by kernel_rfl) (by kernel_rfl) (by kernel_rfl) (by kernel_rfl) (by kernel_rfl) ?_ ?_ <;> repeat' (first | exact trivial | exact vr_val _ | exact vr_list _ | exact vr_ptr _ _ _ rfl | refine And.intro ⟨_, rfl, .inl ⟨_, rfl, by decide, ?_⟩⟩ ?_ | apply And.intro)
  obtain rfl : i = l.length := by omega
  have bm := mb l.length
  by_cases he : (addR a.w (0, mo l.length)).2 = 0
  case neg =>
    have q : ((addR a.w (0, mo l.length)).2 != 0) = true := by simpa using he
    generalize addR a.w (0, mo l.length) = A at *
    clear c3 c4 mb mu ms hmo hgw hst hm0 hma hTw
    (have hg : (987654321 : Nat) - 987654321 = 0 := rfl; have hr := hg; repeat' (first | refine aw_seq ?_ | (refine aw_skip ?_; with_reducible repeat' (first | refine thenQ_n ?_ | refine blockQ_n ?_ | refine thenQ_e ?_ | refine blockQ_t ?_ | refine blockQ_f (by decide) ?_)) | (refine aw_exit ?_; with_reducible repeat' (first | refine thenQ_n ?_ | refine blockQ_n ?_ | refine thenQ_e ?_ | refine blockQ_t ?_ | refine blockQ_f (by decide) ?_)) | refine aw_ret ?_ | refine aw_block ?_ | refine aw_condT rfl ?_ | refine aw_condF rfl ?_ | (refine aw_cond rfl (fun hg => ?_) (fun hg => ?_) <;> (try (have hq := hg; simp only [Bool.not_eq_true', Bool.not_eq_false', Bool.and_eq_true, Bool.and_eq_false_iff, Bool.or_eq_true, Bool.or_eq_false_iff, decide_eq_true_eq, decide_eq_false_iff_not, bne_iff_ne, beq_iff_eq, beq_eq_false_iff_ne, bne_eq_false_iff_eq, ne_eq, Int.not_lt, Int.not_le, Decidable.not_not] at hq)) <;> (try (have hr := hg; simp only [decide_eq_true_eq, decide_eq_false_iff_not] at hr)) <;> (try (exfalso; omega))) | ((first | refine aw_hide fun K hK => aw_region ?_ | refine acall0 (c1) ?_ | refine acall0 (measures_ac) ?_ | refine ago_if (by omega) ?_ | skip); simp (config := {maxSteps := 10000000}) (disch := first | exact okYes (by kernel_rfl) | omega) only [List.length, Nat.zero_add, Nat.reduceAdd, Nat.reduceMul, dI, ARun_none, AOpRun, aexec, FSt.ev, St.F, eget_c, Nat.reduceBEq, ↓eget_h, cond_false, AGo_ok, St.app, putO, eput_c, eput_n, hups, List.map, Option.map, run1, hget_c, ↓hget_h, List.getElem?_cons_succ, List.getElem?_cons_zero, ll, isSh, Bool.false_eq_true, ↓reduceIte, abin, ARun_nil, dropE_c, inL_c, inL_n, beq_self_eq_true, cond_true, dropE_n, hr, decide_false, hget_n, Nat.reduceLeDiff, List.drop, List.take, fillD, D.isBot, D.cells, ne_eq, not_true_eq_false, Nat.reduceGT, or_self, splice, List.cons_append, List.nil_append, List.append_nil, opt1, Option.isSome, hput_c, hput_n, List.all, D.leaf, Bool.and_true, and_self, q, dB, thenQ]) | (subst hK; with_reducible repeat' (first | refine thenQ_n ?_ | refine blockQ_n ?_ | refine thenQ_e ?_ | refine blockQ_t ?_ | refine blockQ_f (by decide) ?_))))
    all_goals (refine end_to [] [] (by first | exact .inl rfl | exact .inr rfl) rfl (by kernel_rfl) (by kernel_rfl) (by kernel_rfl) ?_ ?_ <;> repeat' (first | exact trivial | exact vr_val _))
  obtain ⟨ha1, _, ha3, ha4⟩ := addR_zero he
  simp only [Int.add_zero] at ha3 ha4
  rw [he, ha3] at c1
  have v1 := spVB_t ha1
  have v2 := spVB_t ha4
  simp only at v2
  have hbw : airB ⟨(a.w.1, a.w.2 + mo l.length), a.t, a.h, a.d⟩ = true := by
    unfold airB at hb ⊢
    simp only [Bool.and_eq_true] at hb ⊢
    exact ⟨ha4, hb.2⟩
  replace hma := hma hbw
  replace hm0 := hm0 ha1
  rw [← hTw] at hm0
  replace hm0 := hm0 hbw
  clear hTw
  clear tw
  cases hm : mgB r ⟨(a.w.1, a.w.2 + mo l.length), a.t, a.h, a.d⟩ s with
  | false =>
    have e1 : mgE r ⟨(a.w.1, a.w.2 + mo l.length), a.t, a.h, a.d⟩ s = 1 := if_neg (by rw [hm]; decide)
    rw [e1] at hma
    clear hm0
    generalize mgR r ⟨(a.w.1, a.w.2 + mo l.length), a.t, a.h, a.d⟩ s = G at *
    clear c3 c4 mb mu ms hmo hgw hst
    (have hg : (987654321 : Nat) - 987654321 = 0 := rfl; have hr := hg; repeat' (first | refine aw_seq ?_ | (refine aw_skip ?_; with_reducible repeat' (first | refine thenQ_n ?_ | refine blockQ_n ?_ | refine thenQ_e ?_ | refine blockQ_t ?_ | refine blockQ_f (by decide) ?_)) | (refine aw_exit ?_; with_reducible repeat' (first | refine thenQ_n ?_ | refine blockQ_n ?_ | refine thenQ_e ?_ | refine blockQ_t ?_ | refine blockQ_f (by decide) ?_)) | refine aw_ret ?_ | refine aw_block ?_ | refine aw_condT rfl ?_ | refine aw_condF rfl ?_ | (refine aw_cond rfl (fun hg => ?_) (fun hg => ?_) <;> (try (have hq := hg; simp only [Bool.not_eq_true', Bool.not_eq_false', Bool.and_eq_true, Bool.and_eq_false_iff, Bool.or_eq_true, Bool.or_eq_false_iff, decide_eq_true_eq, decide_eq_false_iff_not, bne_iff_ne, beq_iff_eq, beq_eq_false_iff_ne, bne_eq_false_iff_eq, ne_eq, Int.not_lt, Int.not_le, Decidable.not_not] at hq)) <;> (try (have hr := hg; simp only [decide_eq_true_eq, decide_eq_false_iff_not] at hr)) <;> (try (exfalso; omega))) | ((first | refine aw_hide fun K hK => aw_region ?_ | refine acall0 (c1) ?_ | refine acall0 (hma) ?_ | refine acall0 (measures_ac) ?_ | refine ago_if (by omega) ?_ | skip); simp (config := {maxSteps := 10000000}) (disch := first | exact okYes (by kernel_rfl) | omega) only [List.length, Nat.zero_add, Nat.reduceAdd, Nat.reduceMul, dI, ARun_none, AOpRun, aexec, FSt.ev, St.F, eget_c, Nat.reduceBEq, ↓eget_h, cond_false, AGo_ok, St.app, putO, eput_c, eput_n, hups, List.map, Option.map, run1, hget_c, ↓hget_h, List.getElem?_cons_succ, List.getElem?_cons_zero, ll, isSh, Bool.false_eq_true, ↓reduceIte, abin, ARun_nil, dropE_c, inL_c, inL_n, beq_self_eq_true, cond_true, dropE_n, hr, decide_false, hget_n, Nat.reduceLeDiff, List.drop, List.take, fillD, D.isBot, D.cells, ne_eq, not_true_eq_false, Nat.reduceGT, or_self, splice, List.cons_append, List.nil_append, List.append_nil, opt1, Option.isSome, hput_c, hput_n, List.all, D.leaf, Bool.and_true, and_self, bne_self_eq_false, Int.reduceBNe, ARun_some, AG_tf, dB, thenQ]) | (subst hK; with_reducible repeat' (first | refine thenQ_n ?_ | refine blockQ_n ?_ | refine thenQ_e ?_ | refine blockQ_t ?_ | refine blockQ_f (by decide) ?_))))
    all_goals (refine end_to [] [] (by first | exact .inl rfl | exact .inr rfl) rfl (by kernel_rfl) (by kernel_rfl) (by kernel_rfl) ?_ ?_ <;> repeat' (first | exact trivial | exact vr_val _))
  | true =>
  have e1 : mgE r ⟨(a.w.1, a.w.2 + mo l.length), a.t, a.h, a.d⟩ s = 0 := if_pos hm
  have e2 : mgR r ⟨(a.w.1, a.w.2 + mo l.length), a.t, a.h, a.d⟩ s = mgN r ⟨(a.w.1, a.w.2 + mo l.length), a.t, a.h, a.d⟩ s := if_pos hm
  rw [e1, e2] at hma
  replace hm0 := hm0 hm
  clear e1 e2 hm hbw he ha3 ha4
  generalize mgN r ⟨(a.w.1, a.w.2 + mo l.length), a.t, a.h, a.d⟩ s = G at *
  by_cases hG : R ≤ G
  case neg =>
    have d1 : decide (G < R) = true := decide_eq_true (by omega)
    clear c3 c4 mb mu ms hmo hgw hst hm0
    (have hg : (987654321 : Nat) - 987654321 = 0 := rfl; have hr := hg; repeat' (first | refine aw_seq ?_ | (refine aw_skip ?_; with_reducible repeat' (first | refine thenQ_n ?_ | refine blockQ_n ?_ | refine thenQ_e ?_ | refine blockQ_t ?_ | refine blockQ_f (by decide) ?_)) | (refine aw_exit ?_; with_reducible repeat' (first | refine thenQ_n ?_ | refine blockQ_n ?_ | refine thenQ_e ?_ | refine blockQ_t ?_ | refine blockQ_f (by decide) ?_)) | refine aw_ret ?_ | refine aw_block ?_ | refine aw_condT rfl ?_ | refine aw_condF rfl ?_ | (refine aw_cond rfl (fun hg => ?_) (fun hg => ?_) <;> (try (have hq := hg; simp only [Bool.not_eq_true', Bool.not_eq_false', Bool.and_eq_true, Bool.and_eq_false_iff, Bool.or_eq_true, Bool.or_eq_false_iff, decide_eq_true_eq, decide_eq_false_iff_not, bne_iff_ne, beq_iff_eq, beq_eq_false_iff_ne, bne_eq_false_iff_eq, ne_eq, Int.not_lt, Int.not_le, Decidable.not_not] at hq)) <;> (try (have hr := hg; simp only [decide_eq_true_eq, decide_eq_false_iff_not] at hr)) <;> (try (exfalso; omega))) | ((first | refine aw_hide fun K hK => aw_region ?_ | refine acall0 (c1) ?_ | refine acall0 (hma) ?_ | refine acall0 (measures_ac) ?_ | refine ago_if (by omega) ?_ | skip); simp (config := {maxSteps := 10000000}) (disch := first | exact okYes (by kernel_rfl) | omega) only [List.length, Nat.zero_add, Nat.reduceAdd, Nat.reduceMul, dI, ARun_none, AOpRun, aexec, FSt.ev, St.F, eget_c, Nat.reduceBEq, ↓eget_h, cond_false, AGo_ok, St.app, putO, eput_c, eput_n, hups, List.map, Option.map, run1, hget_c, ↓hget_h, List.getElem?_cons_succ, List.getElem?_cons_zero, ll, isSh, Bool.false_eq_true, ↓reduceIte, abin, ARun_nil, dropE_c, inL_c, inL_n, beq_self_eq_true, cond_true, dropE_n, hr, decide_false, hget_n, Nat.reduceLeDiff, List.drop, List.take, fillD, D.isBot, D.cells, ne_eq, not_true_eq_false, Nat.reduceGT, or_self, splice, List.cons_append, List.nil_append, List.append_nil, opt1, Option.isSome, hput_c, hput_n, List.all, D.leaf, Bool.and_true, and_self, bne_self_eq_false, ARun_some, AG_ff, d1, dB, thenQ]) | (subst hK; with_reducible repeat' (first | refine thenQ_n ?_ | refine blockQ_n ?_ | refine thenQ_e ?_ | refine blockQ_t ?_ | refine blockQ_f (by decide) ?_))))
    all_goals (refine end_to [] [] (by first | exact .inl rfl | exact .inr rfl) rfl (by kernel_rfl) (by kernel_rfl) (by kernel_rfl) ?_ ?_ <;> repeat' (first | exact trivial | exact vr_val _))
  have d1 : decide (G < R) = false := decide_eq_false (by omega)
  replace hm0 := hm0 hG
  (have hg : (987654321 : Nat) - 987654321 = 0 := rfl; have hr := hg; repeat' (first | refine aw_seq ?_ | (refine aw_skip ?_; with_reducible repeat' (first | refine thenQ_n ?_ | refine blockQ_n ?_ | refine thenQ_e ?_ | refine blockQ_t ?_ | refine blockQ_f (by decide) ?_)) | (refine aw_exit ?_; with_reducible repeat' (first | refine thenQ_n ?_ | refine blockQ_n ?_ | refine thenQ_e ?_ | refine blockQ_t ?_ | refine blockQ_f (by decide) ?_)) | refine aw_ret ?_ | refine aw_block ?_ | refine aw_condT rfl ?_ | refine aw_condF rfl ?_ | (refine aw_cond rfl (fun hg => ?_) (fun hg => ?_) <;> (try (have hq := hg; simp only [Bool.not_eq_true', Bool.not_eq_false', Bool.and_eq_true, Bool.and_eq_false_iff, Bool.or_eq_true, Bool.or_eq_false_iff, decide_eq_true_eq, decide_eq_false_iff_not, bne_iff_ne, beq_iff_eq, beq_eq_false_iff_ne, bne_eq_false_iff_eq, ne_eq, Int.not_lt, Int.not_le, Decidable.not_not] at hq)) <;> (try (have hr := hg; simp only [decide_eq_true_eq, decide_eq_false_iff_not] at hr)) <;> (try (exfalso; omega))) | ((first | refine aw_hide fun K hK => aw_region ?_ | refine acall0 (c1) ?_ | refine acall0 (hma) ?_ | refine ago_if (by omega) ?_ | skip); simp (config := {maxSteps := 10000000}) (disch := first | exact okYes (by kernel_rfl) | omega) only [List.length, Nat.zero_add, Nat.reduceAdd, Nat.reduceMul, dI, ARun_none, AOpRun, aexec, FSt.ev, St.F, eget_c, Nat.reduceBEq, ↓eget_h, cond_false, AGo_ok, St.app, putO, eput_c, eput_n, hups, List.map, Option.map, run1, hget_c, ↓hget_h, List.getElem?_cons_succ, List.getElem?_cons_zero, ll, isSh, Bool.false_eq_true, ↓reduceIte, abin, ARun_nil, dropE_c, inL_c, inL_n, beq_self_eq_true, cond_true, dropE_n, hr, decide_false, hget_n, Nat.reduceLeDiff, List.drop, List.take, fillD, D.isBot, D.cells, ne_eq, not_true_eq_false, Nat.reduceGT, or_self, splice, List.cons_append, List.nil_append, List.append_nil, opt1, Option.isSome, hput_c, hput_n, List.all, D.leaf, Bool.and_true, and_self, bne_self_eq_false, ARun_some, AG_ff, d1]) | (subst hK; with_reducible repeat' (first | refine thenQ_n ?_ | refine blockQ_n ?_ | refine thenQ_e ?_ | refine blockQ_t ?_ | refine blockQ_f (by decide) ?_))))
  clear c1 hma
  refine aw_loop (fun i : Nat => ⟨[(2, dI R), (3, .ptr 0 0), (4, .ptr 8 0), (7, dI (mo l.length)), (14, dI i)], [(0, hovC r a s), (8, hgiC h wd l)], 4000⟩) (fun i => i ≤ l.length + 1) (fun i => l.length + 1 - i) ⟨0, by omega, ?_⟩ ?_
  · unfold dI hovC hgiC
    refine wk_to [] [(0, 0), (8, 8)] (by kernel_rfl) (by kernel_rfl) (by kernel_rfl) (by kernel_rfl) (by kernel_rfl) ?_ ?_ <;> repeat' (first | exact trivial | exact vr_val _ | exact vr_list _ | exact vr_ptr _ _ _ rfl | refine And.intro ⟨_, rfl, .inl ⟨_, rfl, by decide, ?_⟩⟩ ?_ | apply And.intro)
  intro i hle
  unfold hovC hgiC
  by_cases hi2 : i < l.length + 1
  case neg =>
    obtain rfl : i = l.length + 1 := by omega
    clear c3 c4 mb mu ms hmo hgw hst hm0
    (have hg : (987654321 : Nat) - 987654321 = 0 := rfl; have hr := hg; repeat' (first | refine aw_seq ?_ | (refine aw_skip ?_; with_reducible repeat' (first | refine thenQ_n ?_ | refine blockQ_n ?_ | refine thenQ_e ?_ | refine blockQ_t ?_ | refine blockQ_f (by decide) ?_)) | (refine aw_exit ?_; with_reducible repeat' (first | refine thenQ_n ?_ | refine blockQ_n ?_ | refine thenQ_e ?_ | refine blockQ_t ?_ | refine blockQ_f (by decide) ?_)) | refine aw_ret ?_ | refine aw_block ?_ | refine aw_condT rfl ?_ | refine aw_condF rfl ?_ | (refine aw_cond rfl (fun hg => ?_) (fun hg => ?_) <;> (try (have hq := hg; simp only [Bool.not_eq_true', Bool.not_eq_false', Bool.and_eq_true, Bool.and_eq_false_iff, Bool.or_eq_true, Bool.or_eq_false_iff, decide_eq_true_eq, decide_eq_false_iff_not, bne_iff_ne, beq_iff_eq, beq_eq_false_iff_ne, bne_eq_false_iff_eq, ne_eq, Int.not_lt, Int.not_le, Decidable.not_not] at hq)) <;> (try (have hr := hg; simp only [decide_eq_true_eq, decide_eq_false_iff_not] at hr)) <;> (try (exfalso; omega))) | ((first | refine aw_hide fun K hK => aw_region ?_ | refine acall0 (measures_ac) ?_ | refine ago_if (by omega) ?_ | skip); simp (config := {maxSteps := 10000000}) (disch := first | exact okYes (by kernel_rfl) | omega) only [List.length, Nat.zero_add, Nat.reduceAdd, Nat.reduceMul, dI, ARun_none, AOpRun, aexec, FSt.ev, St.F, eget_c, Nat.reduceBEq, ↓eget_h, cond_false, AGo_ok, St.app, putO, eput_c, eput_n, hups, List.map, Option.map, run1, hget_c, ↓hget_h, List.getElem?_cons_succ, List.getElem?_cons_zero, ll, isSh, Bool.false_eq_true, ↓reduceIte, abin, ARun_nil, dropE_c, inL_c, inL_n, beq_self_eq_true, cond_true, dropE_n, hr, decide_false, dB]) | (subst hK; with_reducible repeat' (first | refine thenQ_n ?_ | refine blockQ_n ?_ | refine thenQ_e ?_ | refine blockQ_t ?_ | refine blockQ_f (by decide) ?_))))
    all_goals (refine end_to [] [] (by first | exact .inl rfl | exact .inr rfl) rfl (by kernel_rfl) (by kernel_rfl) (by kernel_rfl) ?_ ?_ <;> repeat' (first | exact trivial | exact vr_val _))
  have la := sps_all l
  have d0 : decide ((i : Int) ≤ l.length) = true := decide_eq_true (by omega)
  have tn : ((i : Int)).toNat = i := Int.toNat_natCast i
  have hil : (0 : Int) ≤ i ∧ (i : Int) ≤ l.length := by omega
  have hil2 : i ≤ l.length := by omega
  replace c3 := c3 i
  have hst' := (hst i).symm
  have tl : (sps (l.take i)).length = i := by rw [sps_len]; simp; omega
  replace hgw := hgw i hil2
  have nxt : ∃ j, j ≤ l.length + 1 ∧ l.length + 1 - j < l.length + 1 - i ∧ j = i + 1 := ⟨i + 1, by omega, by omega, rfl⟩
  obtain ⟨j, j1, j2, rfl⟩ := nxt
  replace mu := mu i (l.length - i)
  rw [show i + (l.length - i) = l.length by omega] at mu
  clear mb ms hmo hst
  generalize l.take i = L2 at *
  have ta := sps_all L2
  have tf := sps_flat L2
  have tlf := scells_leaf L2
  have hFl : ∀ (H : Hng) (a b : Int), Flat (.tup [.agg (hgC H), dI a, dI b]) := fun H a b => .tup _ fun d hd => by
    simp only [List.mem_cons, List.not_mem_nil, or_false] at hd
    rcases hd with rfl | rfl | rfl
    · exact .agg _ fun d hd => by
        simp only [hgC, List.mem_cons, List.not_mem_nil, or_false] at hd
        rcases hd with rfl | rfl | rfl | rfl | rfl <;> exact .val _
    · exact .val _
    · exact .val _
  by_cases e : hauE h wd L2 = 0
  case neg =>
    have q : (hauE h wd L2 != 0) = true := by simpa using e
    clear c4 hgw hm0
    generalize hauE h wd L2 = E at *
    generalize hauN h wd L2 = N0 at *
    generalize hauK h wd L2 = H at *
    (have hg : (987654321 : Nat) - 987654321 = 0 := rfl; have hr := hg; repeat' (first | refine aw_seq ?_ | (refine aw_skip ?_; with_reducible repeat' (first | refine thenQ_n ?_ | refine blockQ_n ?_ | refine thenQ_e ?_ | refine blockQ_t ?_ | refine blockQ_f (by decide) ?_)) | (refine aw_exit ?_; with_reducible repeat' (first | refine thenQ_n ?_ | refine blockQ_n ?_ | refine thenQ_e ?_ | refine blockQ_t ?_ | refine blockQ_f (by decide) ?_)) | refine aw_ret ?_ | refine aw_block ?_ | refine aw_condT rfl ?_ | refine aw_condF rfl ?_ | ((first | refine aw_hide fun K hK => aw_region ?_ | refine acall (c3) [4112] ⟨.refl _, .refl _, vecVw (g := 4112) (n := i) (L := sps L2) (c := scells L2) rfl (sps_two _) tl (sps_flat _) (scells_in _), trivial⟩ (.inr (hFl _ _ _)) (by simp only [List.mem_cons, List.not_mem_nil, or_false, forall_eq_or_imp, forall_eq]; first | exact ⟨_, rfl⟩ | exact ⟨⟨_, rfl⟩, ⟨_, rfl⟩⟩) (by kernel_rfl) ?_ | refine acall0 (measures_ac) ?_ | refine ago_if (by omega) ?_ | skip); simp (config := {maxSteps := 10000000}) (disch := first | exact okYes (by kernel_rfl) | omega) only [List.length, Nat.zero_add, Nat.reduceAdd, Nat.reduceMul, dI, ARun_none, AOpRun, aexec, FSt.ev, St.F, eget_c, Nat.reduceBEq, ↓eget_h, cond_false, AGo_ok, St.app, putO, eput_c, eput_n, hups, List.map, Option.map, run1, hget_c, ↓hget_h, List.getElem?_cons_succ, List.getElem?_cons_zero, ll, isSh, Bool.false_eq_true, ↓reduceIte, abin, d0, ARun_nil, dropE_c, inL_c, inL_n, beq_self_eq_true, cond_true, dropE_n, Nat.reduceLeDiff, List.drop, List.take, Option.isSome, hget_n, fillD, hput_c, hput_n, asI, Int.le_refl, Int.natCast_nonneg, la, and_true, true_and, Int.sub_zero, tn, Int.toNat_zero, hst', base, Nat.zero_le, and_self, elems, ta, tl, tf, tlf, ups, List.nil_append, List.cons_append, hdel_c, hdel_n, hgC, dB, opt1, D.isBot, D.cells, List.all, D.leaf, Bool.and_true, splice, List.append_nil, q, thenQ, blockQ]) | (subst hK; with_reducible repeat' (first | refine thenQ_n ?_ | refine blockQ_n ?_ | refine thenQ_e ?_ | refine blockQ_t ?_ | refine blockQ_f (by decide) ?_))))
    all_goals (refine end_to [] [] (by first | exact .inl rfl | exact .inr rfl) rfl (by kernel_rfl) (by kernel_rfl) (by kernel_rfl) ?_ ?_ <;> repeat' (first | exact trivial | exact vr_val _))
  obtain ⟨H, hH1, hH2, hH3, hH4⟩ := hgw e
  rw [e, hH1] at c3
  obtain ⟨G2, g1, g2⟩ := hm0 H.wt hH2 (by omega)
  replace c4 := c4 H.len H.wt
  clear hgw hm0 hH1 e
  generalize hauN h wd L2 = N0 at *
  generalize crE h wd H.len H.wt = ce at *
  generalize crB h wd H.len H.wt = cb at *
  obtain ⟨hlen, hwt, hsi, hcy, hcu⟩ := H
  simp only at hH2 hH3 hH4 g2 c4
  have d2 : decide (hwt < 0) = false := decide_eq_false (by omega)
  have d3 : decide (hwt > mo l.length) = false := decide_eq_false (by omega)
  have d4 : decide (G2 < R) = false := decide_eq_false (by omega)
  generalize mo l.length = M at *
  by_cases hw : hwt = 0
  case pos =>
    subst hw
    clear c4 hH4
    (have hg : (987654321 : Nat) - 987654321 = 0 := rfl; have hr := hg; repeat' (first | refine aw_seq ?_ | (refine aw_skip ?_; with_reducible repeat' (first | refine thenQ_n ?_ | refine blockQ_n ?_ | refine thenQ_e ?_ | refine blockQ_t ?_ | refine blockQ_f (by decide) ?_)) | (refine aw_exit ?_; with_reducible repeat' (first | refine thenQ_n ?_ | refine blockQ_n ?_ | refine thenQ_e ?_ | refine blockQ_t ?_ | refine blockQ_f (by decide) ?_)) | refine aw_ret ?_ | refine aw_block ?_ | refine aw_condT rfl ?_ | refine aw_condF rfl ?_ | ((first | refine aw_hide fun K hK => aw_region ?_ | refine acall (c3) [4112] ⟨.refl _, .refl _, vecVw (g := 4112) (n := i) (L := sps L2) (c := scells L2) rfl (sps_two _) tl (sps_flat _) (scells_in _), trivial⟩ (.inr (hFl _ _ _)) (by simp only [List.mem_cons, List.not_mem_nil, or_false, forall_eq_or_imp, forall_eq]; first | exact ⟨_, rfl⟩ | exact ⟨⟨_, rfl⟩, ⟨_, rfl⟩⟩) (by kernel_rfl) ?_ | refine acall0 (g2) ?_ | refine ago_if (by omega) ?_ | skip); simp (config := {maxSteps := 10000000}) (disch := first | exact okYes (by kernel_rfl) | omega) only [List.length, Nat.zero_add, Nat.reduceAdd, Nat.reduceMul, dI, ARun_none, AOpRun, aexec, FSt.ev, St.F, eget_c, Nat.reduceBEq, ↓eget_h, cond_false, AGo_ok, St.app, putO, eput_c, eput_n, hups, List.map, Option.map, run1, hget_c, ↓hget_h, List.getElem?_cons_succ, List.getElem?_cons_zero, ll, isSh, Bool.false_eq_true, ↓reduceIte, abin, d0, ARun_nil, dropE_c, inL_c, inL_n, beq_self_eq_true, cond_true, dropE_n, Nat.reduceLeDiff, List.drop, List.take, Option.isSome, hget_n, fillD, hput_c, hput_n, asI, Int.le_refl, Int.natCast_nonneg, la, and_true, true_and, Int.sub_zero, tn, Int.toNat_zero, hst', base, Nat.zero_le, and_self, elems, ta, tl, tf, tlf, ups, List.nil_append, List.cons_append, hdel_c, hdel_n, hgC, dB, opt1, D.isBot, D.cells, List.all, D.leaf, Bool.and_true, splice, List.append_nil, bne_self_eq_false, Int.reduceLT, decide_false, ARun_some, AG_ff, d3, fits, ne_eq, not_true_eq_false, Nat.reduceGT, or_self, d4]) | (subst hK; with_reducible repeat' (first | refine thenQ_n ?_ | refine blockQ_n ?_ | refine thenQ_e ?_ | refine blockQ_t ?_ | refine blockQ_f (by decide) ?_))))
    refine ⟨i + 1, j1, j2, ?_⟩
    try unfold hovC hgiC
    refine wk_to [] [(0, 0), (8, 8)] (by kernel_rfl) (by kernel_rfl) (by kernel_rfl) (by kernel_rfl) (by kernel_rfl) ?_ ?_ <;> repeat' (first | exact trivial | exact vr_val _ | exact vr_list _ | exact vr_ptr _ _ _ rfl | refine And.intro ⟨_, rfl, .inl ⟨_, rfl, by decide, ?_⟩⟩ ?_ | apply And.intro)
  have d5 : (hwt == 0) = false := by simpa using hw
  obtain ⟨rfl, rfl⟩ := hH4 (by omega)
  (have hg : (987654321 : Nat) - 987654321 = 0 := rfl; have hr := hg; repeat' (first | refine aw_seq ?_ | (refine aw_skip ?_; with_reducible repeat' (first | refine thenQ_n ?_ | refine blockQ_n ?_ | refine thenQ_e ?_ | refine blockQ_t ?_ | refine blockQ_f (by decide) ?_)) | (refine aw_exit ?_; with_reducible repeat' (first | refine thenQ_n ?_ | refine blockQ_n ?_ | refine thenQ_e ?_ | refine blockQ_t ?_ | refine blockQ_f (by decide) ?_)) | refine aw_ret ?_ | refine aw_block ?_ | refine aw_condT rfl ?_ | refine aw_condF rfl ?_ | ((first | refine aw_hide fun K hK => aw_region ?_ | refine acall (c3) [4112] ⟨.refl _, .refl _, vecVw (g := 4112) (n := i) (L := sps L2) (c := scells L2) rfl (sps_two _) tl (sps_flat _) (scells_in _), trivial⟩ (.inr (hFl _ _ _)) (by simp only [List.mem_cons, List.not_mem_nil, or_false, forall_eq_or_imp, forall_eq]; first | exact ⟨_, rfl⟩ | exact ⟨⟨_, rfl⟩, ⟨_, rfl⟩⟩) (by kernel_rfl) ?_ | refine acall0 (g2) ?_ | refine acall0 (c4) ?_ | refine ago_if (by omega) ?_ | skip); simp (config := {maxSteps := 10000000}) (disch := first | exact okYes (by kernel_rfl) | omega) only [List.length, Nat.zero_add, Nat.reduceAdd, Nat.reduceMul, dI, ARun_none, AOpRun, aexec, FSt.ev, St.F, eget_c, Nat.reduceBEq, ↓eget_h, cond_false, AGo_ok, St.app, putO, eput_c, eput_n, hups, List.map, Option.map, run1, hget_c, ↓hget_h, List.getElem?_cons_succ, List.getElem?_cons_zero, ll, isSh, Bool.false_eq_true, ↓reduceIte, abin, d0, ARun_nil, dropE_c, inL_c, inL_n, beq_self_eq_true, cond_true, dropE_n, Nat.reduceLeDiff, List.drop, List.take, Option.isSome, hget_n, fillD, hput_c, hput_n, asI, Int.le_refl, Int.natCast_nonneg, la, and_true, true_and, Int.sub_zero, tn, Int.toNat_zero, hst', base, Nat.zero_le, and_self, elems, ta, tl, tf, tlf, ups, List.nil_append, List.cons_append, hdel_c, hdel_n, hgC, dB, opt1, D.isBot, D.cells, List.all, D.leaf, Bool.and_true, splice, List.append_nil, bne_self_eq_false, d2, ARun_some, AG_ff, d3, fits, ne_eq, not_true_eq_false, Nat.reduceGT, or_self, d4, d5, Bool.not_true]) | (subst hK; with_reducible repeat' (first | refine thenQ_n ?_ | refine blockQ_n ?_ | refine thenQ_e ?_ | refine blockQ_t ?_ | refine blockQ_f (by decide) ?_))))
  refine ⟨i + 1, j1, j2, ?_⟩
  try unfold hovC hgiC
  refine wk_to [] [(0, 0), (8, 8)] (by kernel_rfl) (by kernel_rfl) (by kernel_rfl) (by kernel_rfl) (by kernel_rfl) ?_ ?_ <;> repeat' (first | exact trivial | exact vr_val _ | exact vr_list _ | exact vr_ptr _ _ _ rfl | refine And.intro ⟨_, rfl, .inl ⟨_, rfl, by decide, ?_⟩⟩ ?_ | apply And.intro)
end Go.Proofs.Ytgibbaadjbohdaa
/- Arguments that came in: what their cells are. No conditions. -/
namespace Go.Proofs.Ytgibbaadjbohdaa
open Go.RowKit Lift

theorem in_ints {l : List (List D)} (h : ∀ x ∈ l, CfL [.int] x) : ∃ xs, l = ints xs ∧ ∀ x ∈ xs, -9223372036854775808 ≤ x ∧ x ≤ 9223372036854775807 := by
  induction l with
  | nil => exact ⟨[], rfl, by simp⟩
  | cons x l ih =>
    obtain ⟨xs, rfl, hx⟩ := ih fun y hy => h y (List.mem_cons_of_mem _ hy)
    have h0 := h x (List.mem_cons_self ..)
    cases h0 with
    | int n ss ds h1 h2 h3 =>
      cases h3
      exact ⟨n :: xs, rfl, fun y hy => by
        rcases List.mem_cons.1 hy with rfl | hy
        · exact ⟨h1, h2⟩
        · exact hx y hy⟩
theorem in_rows {l : List (List D)} (h : ∀ x ∈ l, CfL [.sl [.int]] x) : ∃ vs, l = rows vs ∧ ∀ r ∈ vs, r.length ≤ maxLen := by
  induction l with
  | nil => exact ⟨[], rfl, by simp⟩
  | cons x l ih =>
    obtain ⟨vs, rfl, hx⟩ := ih fun y hy => h y (List.mem_cons_of_mem _ hy)
    have h0 := h x (List.mem_cons_self ..)
    cases h0 with
    | sl e k ss ds h1 h2 h3 =>
      cases h3
      obtain ⟨xs, rfl, _⟩ := in_ints h2
      exact ⟨xs :: vs, rfl, fun y hy => by
        rcases List.mem_cons.1 hy with rfl | hy
        · simpa [ints] using h1
        · exact hx y hy⟩
theorem in_2 {ds : List D} (h : CfL [.int, .int] ds) : ∃ a b : Int, ds = [dI a, dI b] ∧ (-9223372036854775808 ≤ a ∧ a ≤ 9223372036854775807) ∧ -9223372036854775808 ≤ b ∧ b ≤ 9223372036854775807 := by
  cases h with
  | int a ss ds h1 h2 h =>
    cases h with
    | int b ss ds h3 h4 h => cases h; exact ⟨a, b, rfl, ⟨h1, h2⟩, h3, h4⟩
end Go.Proofs.Ytgibbaadjbohdaa
/- Heads of what came in. No conditions. -/
namespace Go.Proofs.Ytgibbaadjbohdaa
open Go.RowKit Lift

theorem fin_int {ss : List Sh} {ds : List D} (h : CfL (.int :: ss) ds) : ∃ (a : Int) (r : List D), ds = dI a :: r ∧ CfL ss r := by
  cases h with
  | int a ss ds h1 h2 h3 => exact ⟨a, ds, rfl, h3⟩
theorem fin_sl {e ss : List Sh} {ds : List D} (h : CfL (.sl e :: ss) ds) : ∃ (l : List (List D)) (r : List D), ds = .list l :: r ∧ CfL ss r ∧ l.length ≤ maxLen ∧ ∀ x ∈ l, CfL e x := by
  cases h with
  | sl e l ss ds h1 h2 h3 => exact ⟨l, ds, rfl, h3, h1, h2⟩
theorem fin_tab {ss : List Sh} {ds : List D} (h : CfL (.sl [.int] :: .sl [.int] :: .sl [.sl [.int]] :: ss) ds) : ∃ (t : Tb) (r : List D), ds = .list (ints t.x) :: .list (ints t.y) :: .list (rows t.v) :: r ∧ CfL ss r ∧ TbIn t := by
  obtain ⟨l1, _, rfl, e1, n1, h1⟩ := fin_sl h
  obtain ⟨l2, _, rfl, e2, n2, h2⟩ := fin_sl e1
  obtain ⟨l3, r, rfl, e3, n3, h3⟩ := fin_sl e2
  obtain ⟨xs, rfl, _⟩ := in_ints h1
  obtain ⟨ys, rfl, _⟩ := in_ints h2
  obtain ⟨vs, rfl, hr⟩ := in_rows h3
  exact ⟨⟨xs, ys, vs⟩, r, rfl, e3, by simpa [ints] using n1, by simpa [ints] using n2, by simpa [rows] using n3, hr⟩
end Go.Proofs.Ytgibbaadjbohdaa
/- Boxes that came in. No conditions. -/
namespace Go.Proofs.Ytgibbaadjbohdaa
open Go.RowKit Lift Go.ChangeShapes Go.WideShapes Go.ChangeAt Go.Joins

theorem notagg_int {P : Program} {w : World} {r : Reach} {b0 : Nat} {t : TypeId} {k : IntKind} {v : Value} (ht : P.underlying t = some (.int k)) (hv : Value.okWide P w r b0 t v) : ∀ cs, v ≠ .agg cs := by
  rintro cs rfl
  simp [Value.okWide, Cell.okWide, Cell.ok, ht] at hv
theorem in_sps {l : List (List D)} (h : ∀ x ∈ l, CfL [.int, .int] x) : ∃ b, l = sps b ∧ ∀ x ∈ b, (-9223372036854775808 ≤ x.1 ∧ x.1 ≤ 9223372036854775807) ∧ -9223372036854775808 ≤ x.2 ∧ x.2 ≤ 9223372036854775807 := by
  induction l with
  | nil => exact ⟨[], rfl, by simp⟩
  | cons x l ih =>
    obtain ⟨b, rfl, hb⟩ := ih fun y hy => h y (List.mem_cons_of_mem _ hy)
    obtain ⟨u, v, rfl, hu, hv⟩ := in_2 (h x (List.mem_cons_self ..))
    exact ⟨(u, v) :: b, rfl, fun y hy => by
      rcases List.mem_cons.1 hy with rfl | hy
      · exact ⟨hu, hv⟩
      · exact hb y hy⟩
end Go.Proofs.Ytgibbaadjbohdaa
/- Arguments that came in: a hover and a hoisting. No conditions. -/
namespace Go.Proofs.Ytgibbaadjbohdaa
open Go.RowKit Lift

abbrev hovSh : List Sh := [.sl [.int], .sl [.int], .sl [.sl [.int]], .sl [.int], .sl [.int], .sl [.sl [.int]], .sl [.int], .sl [.int], .sl [.sl [.int]], .sl [.int], .sl [.int], .sl [.sl [.int]], .sl [.int], .sl [.int], .sl [.sl [.int]], .sl [.int], .sl [.int], .sl [.sl [.int]], .sl [.int], .sl [.int], .sl [.sl [.int]], .sl [.int], .sl [.int], .sl [.sl [.int]], .int, .int, .int, .int, .int, .int, .int, .int, .int, .int, .int, .int]
theorem in_hov {ds : List D} (h : CfL hovSh ds) : ∃ (r : Rot) (a : Air) (s : Int × Int), ds = hovC r a s ∧ RotIn r := by
  have e0 := h
  obtain ⟨t0, _, rfl, e1, k0⟩ := fin_tab e0
  obtain ⟨t1, _, rfl, e2, k1⟩ := fin_tab e1
  obtain ⟨t2, _, rfl, e3, k2⟩ := fin_tab e2
  obtain ⟨t3, _, rfl, e4, k3⟩ := fin_tab e3
  obtain ⟨t4, _, rfl, e5, k4⟩ := fin_tab e4
  obtain ⟨t5, _, rfl, e6, k5⟩ := fin_tab e5
  obtain ⟨t6, _, rfl, e7, k6⟩ := fin_tab e6
  obtain ⟨t7, _, rfl, e8, k7⟩ := fin_tab e7
  obtain ⟨a0, _, rfl, e9⟩ := fin_int e8
  obtain ⟨a1, _, rfl, e10⟩ := fin_int e9
  obtain ⟨a2, _, rfl, e11⟩ := fin_int e10
  obtain ⟨a3, _, rfl, e12⟩ := fin_int e11
  obtain ⟨a4, _, rfl, e13⟩ := fin_int e12
  obtain ⟨a5, _, rfl, e14⟩ := fin_int e13
  obtain ⟨a6, _, rfl, e15⟩ := fin_int e14
  obtain ⟨a7, _, rfl, e16⟩ := fin_int e15
  obtain ⟨a8, _, rfl, e17⟩ := fin_int e16
  obtain ⟨a9, _, rfl, e18⟩ := fin_int e17
  obtain ⟨a10, _, rfl, e19⟩ := fin_int e18
  obtain ⟨a11, _, rfl, e20⟩ := fin_int e19
  cases e20
  refine ⟨⟨t0, t1, t2, t3, t4, t5, t6, t7, a0, a1⟩, ⟨(a2, a3), (a4, a5), (a6, a7), (a8, a9)⟩, (a10, a11), rfl, ?_⟩
  intro k hk
  rcases (by omega : k = 0 ∨ k = 1 ∨ k = 2 ∨ k = 3 ∨ k = 4 ∨ k = 5 ∨ k = 6 ∨ k = 7) with rfl | rfl | rfl | rfl | rfl | rfl | rfl | rfl <;> assumption
theorem in_hoi {ds : List D} (h : CfL [.int, .sl [.int], .sl [.int], .sl [.sl [.int]], .int, .int, .int, .sl [.int, .int]] ds) : ∃ (h : Hst) (wd : Int × Int) (l : Bx), ds = hgiC h wd l ∧ HSm h := by
  obtain ⟨ca, _, rfl, e1⟩ := fin_int h
  obtain ⟨l1, _, rfl, e2, n1, h1⟩ := fin_sl e1
  obtain ⟨l2, _, rfl, e3, n2, h2⟩ := fin_sl e2
  obtain ⟨l3, _, rfl, e4, n3, h3⟩ := fin_sl e3
  obtain ⟨ch, _, rfl, e5⟩ := fin_int e4
  obtain ⟨w1, _, rfl, e6⟩ := fin_int e5
  obtain ⟨w2, _, rfl, e7⟩ := fin_int e6
  obtain ⟨l4, _, rfl, e8, n4, h4⟩ := fin_sl e7
  cases e8
  obtain ⟨xs, rfl, hx⟩ := in_ints h1
  obtain ⟨ys, rfl, hy⟩ := in_ints h2
  obtain ⟨vs, rfl, hr⟩ := in_rows h3
  obtain ⟨l, rfl, _⟩ := in_sps h4
  exact ⟨⟨ca, xs, ys, vs, ch⟩, (w1, w2), l, rfl, ⟨by simpa [ints] using n1, by simpa [ints] using n2, by simpa [rows] using n3, hr⟩, hx, hy⟩
end Go.Proofs.Ytgibbaadjbohdaa
