/- Texts of the law TopDescends, part 12. No conditions. -/
import Derived.Test.YtbncpngjclabhaaGreatPTopDescends11
import Derived.Test.YtbncpngjclabhaaGreatRows
set_option linter.unusedSimpArgs false
set_option linter.unusedVariables false
set_option maxRecDepth 100000
set_option maxHeartbeats 16000000
/- The document's check of a rotor and an air, whole; the size of a rotor. No conditions. -/
namespace Go.Proofs.YtbncpngjclabhaaGreat
open Go.RowKit Lift

theorem rCheck2_ac (r : Rot) (hs : RotSm r) : AC Tryz.prog 75 [rotD r] [] [] (dI (rotE r)) := by
  refine kref02_Check.ac (n0 := 0) (by simp) ⟨in_rotD _ _,trivial⟩ trivial rfl ?_
  have hno : ∀ {k},k < 8 → limB (tbK r k) (loK k) (hiK k) = false → rotE r = 20 := fun hk h => rotE_no fun ho => by rw [ho.lim _ hk] at h; cases h
  have hsf : TbSm r.f := hs 5 (by omega)
  have hsg : TbSm r.g := hs 6 (by omega)

  have c0 := rFill_ac r.a 0 100000 (hs 0 (by omega))
  have c1 := rFill_ac r.b 0 100 (hs 1 (by omega))
  have c2 := rFill_ac r.c 0 100000 (hs 2 (by omega))
  have c3 := rFill_ac r.d 0 100000 (hs 3 (by omega))
  have c4 := rFill_ac r.e 0 10000 (hs 4 (by omega))
  have c5 := rFill_ac r.f 0 10000 (hs 5 (by omega))
  have c6 := rFill_ac r.g 0 10000 (hs 6 (by omega))
  have c7 := rFill_ac r.h 1 10000 (hs 7 (by omega))
  unfold cref02_Check rotD rotC
  cases p0 : limB r.a 0 100000 with
  | false =>
    rw [p0] at c0
    rw [hno (k := 0) (by omega) p0]
    (repeat' (first | (with_reducible first | refine thenQ_n ?_ | refine blockQ_n ?_ | refine thenQ_e ?_ | refine blockQ_t ?_ | refine blockQ_f (by decide) ?_) | apply aw_seq | apply aw_skip | apply aw_exit | apply aw_ret | apply aw_block | apply aw_condT rfl | apply aw_condF rfl | ((first | refine aw_hide fun K hK => aw_region ?_ | refine acall0 (c0) ?_ | refine ago_if (by omega) ?_ | skip); simp (disch := first | exact okY | omega) only [ZU,Nat.reduceAdd,Nat.reduceMul,dI,AOpRun,aexec,D.isBot,↓eget_h,or_self,↓reduceIte,D.cells,Nat.reduceBEq,Nat.reduceLeDiff,List.drop,List.take,dB,ARun_some,AG_tf]) | subst hK))
    all_goals (refine end_q [] [] ?_ ?_ <;> repeat' (first | exact trivial | exact vr_val _))
  | true =>
  rw [p0] at c0
  cases p1 : limB r.b 0 100 with
  | false =>
    rw [p1] at c1
    rw [hno (k := 1) (by omega) p1]
    (repeat' (first | (with_reducible first | refine thenQ_n ?_ | refine blockQ_n ?_ | refine thenQ_e ?_ | refine blockQ_t ?_ | refine blockQ_f (by decide) ?_) | apply aw_seq | apply aw_skip | apply aw_exit | apply aw_ret | apply aw_block | apply aw_condT rfl | apply aw_condF rfl | ((first | refine aw_hide fun K hK => aw_region ?_ | refine acall0 (c0) ?_ | refine acall0 (c1) ?_ | refine ago_if (by omega) ?_ | skip); simp (disch := first | exact okY | omega) only [ZU,Nat.reduceAdd,Nat.reduceMul,dI,AOpRun,aexec,D.isBot,↓eget_h,or_self,↓reduceIte,D.cells,Nat.reduceBEq,Nat.reduceLeDiff,List.drop,List.take,dB,ARun_some,AG_ff,AG_tf]) | subst hK))
    all_goals (refine end_q [] [] ?_ ?_ <;> repeat' (first | exact trivial | exact vr_val _))
  | true =>
  rw [p1] at c1
  cases p2 : limB r.c 0 100000 with
  | false =>
    rw [p2] at c2
    rw [hno (k := 2) (by omega) p2]
    (repeat' (first | (with_reducible first | refine thenQ_n ?_ | refine blockQ_n ?_ | refine thenQ_e ?_ | refine blockQ_t ?_ | refine blockQ_f (by decide) ?_) | apply aw_seq | apply aw_skip | apply aw_exit | apply aw_ret | apply aw_block | apply aw_condT rfl | apply aw_condF rfl | ((first | refine aw_hide fun K hK => aw_region ?_ | refine acall0 (c0) ?_ | refine acall0 (c1) ?_ | refine acall0 (c2) ?_ | refine ago_if (by omega) ?_ | skip); simp (disch := first | exact okY | omega) only [ZU,Nat.reduceAdd,Nat.reduceMul,dI,AOpRun,aexec,D.isBot,↓eget_h,or_self,↓reduceIte,D.cells,Nat.reduceBEq,Nat.reduceLeDiff,List.drop,List.take,dB,ARun_some,AG_ff,AG_tf]) | subst hK))
    all_goals (refine end_q [] [] ?_ ?_ <;> repeat' (first | exact trivial | exact vr_val _))
  | true =>
  rw [p2] at c2
  cases p3 : limB r.d 0 100000 with
  | false =>
    rw [p3] at c3
    rw [hno (k := 3) (by omega) p3]
    (repeat' (first | (with_reducible first | refine thenQ_n ?_ | refine blockQ_n ?_ | refine thenQ_e ?_ | refine blockQ_t ?_ | refine blockQ_f (by decide) ?_) | apply aw_seq | apply aw_skip | apply aw_exit | apply aw_ret | apply aw_block | apply aw_condT rfl | apply aw_condF rfl | ((first | refine aw_hide fun K hK => aw_region ?_ | refine acall0 (c0) ?_ | refine acall0 (c1) ?_ | refine acall0 (c2) ?_ | refine acall0 (c3) ?_ | refine ago_if (by omega) ?_ | skip); simp (disch := first | exact okY | omega) only [ZU,Nat.reduceAdd,Nat.reduceMul,dI,AOpRun,aexec,D.isBot,↓eget_h,or_self,↓reduceIte,D.cells,Nat.reduceBEq,Nat.reduceLeDiff,List.drop,List.take,dB,ARun_some,AG_ff]) | subst hK))
    all_goals (refine end_q [] [] ?_ ?_ <;> repeat' (first | exact trivial | exact vr_val _))
  | true =>
  rw [p3] at c3
  cases p4 : limB r.e 0 10000 with
  | false =>
    rw [p4] at c4
    rw [hno (k := 4) (by omega) p4]
    (repeat' (first | (with_reducible first | refine thenQ_n ?_ | refine blockQ_n ?_ | refine thenQ_e ?_ | refine blockQ_t ?_ | refine blockQ_f (by decide) ?_) | apply aw_seq | apply aw_skip | apply aw_exit | apply aw_ret | apply aw_block | apply aw_condT rfl | apply aw_condF rfl | ((first | refine aw_hide fun K hK => aw_region ?_ | refine acall0 (c0) ?_ | refine acall0 (c1) ?_ | refine acall0 (c2) ?_ | refine acall0 (c3) ?_ | refine acall0 (c4) ?_ | refine ago_if (by omega) ?_ | skip); simp (disch := first | exact okY | omega) only [ZU,Nat.reduceAdd,Nat.reduceMul,dI,AOpRun,aexec,D.isBot,↓eget_h,or_self,↓reduceIte,D.cells,Nat.reduceBEq,Nat.reduceLeDiff,List.drop,List.take,dB,ARun_some,AG_ff,AG_tf]) | subst hK))
    all_goals (refine end_q [] [] ?_ ?_ <;> repeat' (first | exact trivial | exact vr_val _))
  | true =>
  rw [p4] at c4
  cases p5 : limB r.f 0 10000 with
  | false =>
    rw [p5] at c5
    rw [hno (k := 5) (by omega) p5]
    (repeat' (first | (with_reducible first | refine thenQ_n ?_ | refine blockQ_n ?_ | refine thenQ_e ?_ | refine blockQ_t ?_ | refine blockQ_f (by decide) ?_) | apply aw_seq | apply aw_skip | apply aw_exit | apply aw_ret | apply aw_block | apply aw_condT rfl | apply aw_condF rfl | ((first | refine aw_hide fun K hK => aw_region ?_ | refine acall0 (c0) ?_ | refine acall0 (c1) ?_ | refine acall0 (c2) ?_ | refine acall0 (c3) ?_ | refine acall0 (c4) ?_ | refine acall0 (c5) ?_ | refine ago_if (by omega) ?_ | skip); simp (disch := first | exact okY | omega) only [ZU,Nat.reduceAdd,Nat.reduceMul,dI,AOpRun,aexec,D.isBot,↓eget_h,or_self,↓reduceIte,D.cells,Nat.reduceBEq,Nat.reduceLeDiff,List.drop,List.take,dB,ARun_some,AG_ff,AG_tf]) | subst hK))
    all_goals (refine end_q [] [] ?_ ?_ <;> repeat' (first | exact trivial | exact vr_val _))
  | true =>
  rw [p5] at c5
  cases p6 : limB r.g 0 10000 with
  | false =>
    rw [p6] at c6
    rw [hno (k := 6) (by omega) p6]
    (repeat' (first | (with_reducible first | refine thenQ_n ?_ | refine blockQ_n ?_ | refine thenQ_e ?_ | refine blockQ_t ?_ | refine blockQ_f (by decide) ?_) | apply aw_seq | apply aw_skip | apply aw_exit | apply aw_ret | apply aw_block | apply aw_condT rfl | apply aw_condF rfl | ((first | refine aw_hide fun K hK => aw_region ?_ | refine acall0 (c0) ?_ | refine acall0 (c1) ?_ | refine acall0 (c2) ?_ | refine acall0 (c3) ?_ | refine acall0 (c4) ?_ | refine acall0 (c5) ?_ | refine acall0 (c6) ?_ | refine ago_if (by omega) ?_ | skip); simp (disch := first | exact okY | omega) only [ZU,Nat.reduceAdd,Nat.reduceMul,dI,AOpRun,aexec,D.isBot,↓eget_h,or_self,↓reduceIte,D.cells,Nat.reduceBEq,Nat.reduceLeDiff,List.drop,List.take,dB,ARun_some,AG_ff,AG_tf]) | subst hK))
    all_goals (refine end_q [] [] ?_ ?_ <;> repeat' (first | exact trivial | exact vr_val _))
  | true =>
  rw [p6] at c6
  cases p7 : limB r.h 1 10000 with
  | false =>
    rw [p7] at c7
    rw [hno (k := 7) (by omega) p7]
    (repeat' (first | (with_reducible first | refine thenQ_n ?_ | refine blockQ_n ?_ | refine thenQ_e ?_ | refine blockQ_t ?_ | refine blockQ_f (by decide) ?_) | apply aw_seq | apply aw_skip | apply aw_exit | apply aw_ret | apply aw_block | apply aw_condT rfl | apply aw_condF rfl | ((first | refine aw_hide fun K hK => aw_region ?_ | refine acall0 (c0) ?_ | refine acall0 (c1) ?_ | refine acall0 (c2) ?_ | refine acall0 (c3) ?_ | refine acall0 (c4) ?_ | refine acall0 (c5) ?_ | refine acall0 (c6) ?_ | refine acall0 (c7) ?_ | refine ago_if (by omega) ?_ | skip); simp (disch := first | exact okY | omega) only [ZU,Nat.reduceAdd,Nat.reduceMul,dI,AOpRun,aexec,D.isBot,↓eget_h,or_self,↓reduceIte,D.cells,Nat.reduceBEq,Nat.reduceLeDiff,List.drop,List.take,dB,ARun_some,AG_ff]) | subst hK))
    all_goals (refine end_q [] [] ?_ ?_ <;> repeat' (first | exact trivial | exact vr_val _))
  | true =>
  rw [p7] at c7
  have hin : ∀ k,k < 8 → limB (tbK r k) (loK k) (hiK k) = true := fun k hk => by
    rcases (by omega : k = 0 ∨ k = 1 ∨ k = 2 ∨ k = 3 ∨ k = 4 ∨ k = 5 ∨ k = 6 ∨ k = 7) with rfl | rfl | rfl | rfl | rfl | rfl | rfl | rfl <;> assumption
  clear hno
  have tf : Tbl r.f.x r.f.y r.f.v := limB_tbl p5
  have tg : Tbl r.g.x r.g.y r.g.v := limB_tbl p6
  have ce := rSame2_ac r.f.x r.g.x (by have := hsf.1; omega) (by have := hsg.1; omega)
  have cf := rSame2_ac r.f.y r.g.y (by have := hsf.2.1; omega) (by have := hsg.2.1; omega)
  have d1 := rFrom2_ac r.cl 1 1000
  have d2 := rFrom2_ac r.bu 1 1000
  by_cases ex : r.f.x = r.g.x
  case neg =>
    rw [rotE_no fun h => ex h.ex]
    rw [decide_eq_false ex] at ce
    (repeat' (first | (with_reducible first | refine thenQ_n ?_ | refine blockQ_n ?_ | refine thenQ_e ?_ | refine blockQ_t ?_ | refine blockQ_f (by decide) ?_) | apply aw_seq | apply aw_skip | apply aw_exit | apply aw_ret | apply aw_block | apply aw_condT rfl | apply aw_condF rfl | ((first | refine aw_hide fun K hK => aw_region ?_ | refine acall0 (c0) ?_ | refine acall0 (c1) ?_ | refine acall0 (c2) ?_ | refine acall0 (c3) ?_ | refine acall0 (c4) ?_ | refine acall0 (c5) ?_ | refine acall0 (c6) ?_ | refine acall0 (c7) ?_ | refine acall0 (ce) ?_ | refine ago_if (by omega) ?_ | skip); simp (disch := first | exact okY | omega) only [ZU,Nat.reduceAdd,Nat.reduceMul,dI,AOpRun,aexec,D.isBot,↓eget_h,or_self,↓reduceIte,D.cells,Nat.reduceBEq,Nat.reduceLeDiff,List.drop,List.take,dB,ARun_some,AG_ff,run1,AG_tf]) | subst hK))
    all_goals (refine end_q [] [] ?_ ?_ <;> repeat' (first | exact trivial | exact vr_val _))
  rw [decide_eq_true ex] at ce
  by_cases ey : r.f.y = r.g.y
  case neg =>
    rw [rotE_no fun h => ey h.ey]
    rw [decide_eq_false ey] at cf
    (repeat' (first | (with_reducible first | refine thenQ_n ?_ | refine blockQ_n ?_ | refine thenQ_e ?_ | refine blockQ_t ?_ | refine blockQ_f (by decide) ?_) | apply aw_seq | apply aw_skip | apply aw_exit | apply aw_ret | apply aw_block | apply aw_condT rfl | apply aw_condF rfl | ((first | refine aw_hide fun K hK => aw_region ?_ | refine acall0 (c0) ?_ | refine acall0 (c1) ?_ | refine acall0 (c2) ?_ | refine acall0 (c3) ?_ | refine acall0 (c4) ?_ | refine acall0 (c5) ?_ | refine acall0 (c6) ?_ | refine acall0 (c7) ?_ | refine acall0 (ce) ?_ | refine acall0 (cf) ?_ | refine ago_if (by omega) ?_ | skip); simp (disch := first | exact okY | omega) only [ZU,Nat.reduceAdd,Nat.reduceMul,dI,AOpRun,aexec,D.isBot,↓eget_h,or_self,↓reduceIte,D.cells,Nat.reduceBEq,Nat.reduceLeDiff,List.drop,List.take,dB,ARun_some,AG_ff,run1,AG_tf]) | subst hK))
    all_goals (refine end_q [] [] ?_ ?_ <;> repeat' (first | exact trivial | exact vr_val _))
  rw [decide_eq_true ey] at cf
  cases q1 : wI r.cl 1 1000 with
  | false =>
    rw [rotE_no fun h => by rw [h.cl] at q1; cases q1]
    rw [q1] at d1
    (repeat' (first | (with_reducible first | refine thenQ_n ?_ | refine blockQ_n ?_ | refine thenQ_e ?_ | refine blockQ_t ?_ | refine blockQ_f (by decide) ?_) | apply aw_seq | apply aw_skip | apply aw_exit | apply aw_ret | apply aw_block | apply aw_condT rfl | apply aw_condF rfl | ((first | refine aw_hide fun K hK => aw_region ?_ | refine acall0 (c0) ?_ | refine acall0 (c1) ?_ | refine acall0 (c2) ?_ | refine acall0 (c3) ?_ | refine acall0 (c4) ?_ | refine acall0 (c5) ?_ | refine acall0 (c6) ?_ | refine acall0 (c7) ?_ | refine acall0 (ce) ?_ | refine acall0 (cf) ?_ | refine acall0 (d1) ?_ | refine ago_if (by omega) ?_ | skip); simp (disch := first | exact okY | omega) only [ZU,Nat.reduceAdd,Nat.reduceMul,dI,AOpRun,aexec,D.isBot,↓eget_h,or_self,↓reduceIte,D.cells,Nat.reduceBEq,Nat.reduceLeDiff,List.drop,List.take,dB,ARun_some,AG_ff,run1,AG_tf]) | subst hK))
    all_goals (refine end_q [] [] ?_ ?_ <;> repeat' (first | exact trivial | exact vr_val _))
  | true =>
  rw [q1] at d1
  cases q2 : wI r.bu 1 1000 with
  | false =>
    rw [rotE_no fun h => by rw [h.bu] at q2; cases q2]
    rw [q2] at d2
    (repeat' (first | (with_reducible first | refine thenQ_n ?_ | refine blockQ_n ?_ | refine thenQ_e ?_ | refine blockQ_t ?_ | refine blockQ_f (by decide) ?_) | apply aw_seq | apply aw_skip | apply aw_exit | apply aw_ret | apply aw_block | apply aw_condT rfl | apply aw_condF rfl | ((first | refine aw_hide fun K hK => aw_region ?_ | refine acall0 (c0) ?_ | refine acall0 (c1) ?_ | refine acall0 (c2) ?_ | refine acall0 (c3) ?_ | refine acall0 (c4) ?_ | refine acall0 (c5) ?_ | refine acall0 (c6) ?_ | refine acall0 (c7) ?_ | refine acall0 (ce) ?_ | refine acall0 (cf) ?_ | refine acall0 (d1) ?_ | refine acall0 (d2) ?_ | refine ago_if (by omega) ?_ | skip); simp (disch := first | exact okY | omega) only [ZU,Nat.reduceAdd,Nat.reduceMul,dI,AOpRun,aexec,D.isBot,↓eget_h,or_self,↓reduceIte,D.cells,Nat.reduceBEq,Nat.reduceLeDiff,List.drop,List.take,dB,ARun_some,AG_ff,run1]) | subst hK))
    all_goals (refine end_q [] [] ?_ ?_ <;> repeat' (first | exact trivial | exact vr_val _))
  | true =>
  rw [q2] at d2
  have fl := rows_len r.f.v
  have fa := rows_all r.f.v
  have gl := rows_len r.g.v
  have ga := rows_all r.g.v
  have fxl := ints_len r.f.x
  have fyl := ints_len r.f.y
  have hfl : r.f.v.length = r.f.x.length := tf.len
  have hgl : r.g.v.length = r.f.x.length := by rw [tg.len,ex]
  have hfr : ∀ i,i < r.f.x.length → (r.f.v[i]?.getD []).length = r.f.y.length := fun i hi => tf.row i (by omega)
  have hgr : ∀ i,i < r.f.x.length → (r.g.v[i]?.getD []).length = r.f.y.length := fun i hi => by rw [tg.row i (by omega),ey]
  have hx15 := hsf.1
  have hy15 := hsf.2.1
  have hyes : (∀ i,i < r.f.x.length → ∀ k,k < r.f.y.length → iat (r.f.v[i]?.getD []) k ≤ iat (r.g.v[i]?.getD []) k) → rotE r = 0 := fun hle => rotE_ok ⟨hin,ex,ey,q1,q2,fun i hi k hk => hle i (by omega) k (by rw [hfr i (by omega)] at hk; omega)⟩
  have hnot : (¬ ∀ i,i < r.f.x.length → ∀ k,k < r.f.y.length → iat (r.f.v[i]?.getD []) k ≤ iat (r.g.v[i]?.getD []) k) → rotE r = 20 := fun hle => rotE_no fun h => hle fun i hi k hk => h.le i (by omega) k (by rw [hfr i hi]; omega)
  clear hin hs hsg hsf tf tg
  refine aw_seq (aw_region ?_)
  simp (disch := first | exact okY | omega) only [ZU,dI,Nat.reduceAdd,Nat.reduceMul,AOpRun,aexec,D.isBot,↓eget_h,or_self,↓reduceIte,D.cells,Nat.reduceBEq]
  refine aw_wk (s' := ⟨[(1,.ptr 0 0)],[(0,rotC r)],400⟩) ?_ ?_
  · unfold rotC dI
    refine wk_q [] [(0,0)] ?_ ?_ <;> repeat' (first | exact trivial | exact vr_val _ | exact vr_list _ | exact vr_ptr _ _ _ rfl | refine And.intro ⟨_,rfl,.inl ⟨_,rfl,by decide,?_⟩⟩ ?_ | apply And.intro)
  try unfold rotC
  (repeat' (first | (with_reducible first | refine thenQ_n ?_ | refine blockQ_n ?_ | refine thenQ_e ?_ | refine blockQ_t ?_ | refine blockQ_f (by decide) ?_) | apply aw_seq | apply aw_skip | apply aw_exit | apply aw_ret | apply aw_block | apply aw_condT rfl | apply aw_condF rfl | ((first | refine aw_hide fun K hK => aw_region ?_ | refine acall0 (c0) ?_ | refine acall0 (c1) ?_ | refine acall0 (c2) ?_ | refine acall0 (c3) ?_ | refine acall0 (c4) ?_ | refine acall0 (c5) ?_ | refine acall0 (c6) ?_ | refine acall0 (c7) ?_ | refine acall0 (ce) ?_ | refine acall0 (cf) ?_ | refine acall0 (d1) ?_ | refine acall0 (d2) ?_ | refine ago_if (by omega) ?_ | skip); simp (disch := first | exact okY | omega) only [ZU,Nat.reduceAdd,Nat.reduceMul,dI,AOpRun,aexec,↓eget_h,Nat.reduceBEq,Nat.reduceLeDiff,↓reduceIte,List.drop,List.take,dB,ARun_some,AG_ff,run1]) | subst hK))
  clear c0 c1 c2 c3 c4 c5 c6 c7 ce cf d1 d2
  refine aw_loop (fun i : Nat => ⟨[(1,.ptr 0 0),(3,dI i)],[(0,rotC r)],4000⟩) (fun i => i ≤ r.f.x.length ∧ ∀ j,j < i → ∀ k,k < r.f.y.length → iat (r.f.v[j]?.getD []) k ≤ iat (r.g.v[j]?.getD []) k) (fun i => r.f.x.length - i) ⟨0,⟨by omega,fun j hj => by omega⟩,?_⟩ ?_
  · unfold rotC dI
    refine wk_q [] [(0,0)] ?_ ?_ <;> repeat' (first | exact trivial | exact vr_val _ | exact vr_list _ | exact vr_ptr _ _ _ rfl | refine And.intro ⟨_,rfl,.inl ⟨_,rfl,by decide,?_⟩⟩ ?_ | apply And.intro)
  rintro i ⟨hi,hout⟩
  by_cases hi2 : i < r.f.x.length
  case neg =>
    obtain rfl : i = r.f.x.length := by omega
    rw [hyes hout]
    try unfold rotC
    (have hg : (987654321 : Nat) - 987654321 = 0 := rfl; have hr := hg; repeat' (first | (with_reducible first | refine thenQ_n ?_ | refine blockQ_n ?_ | refine thenQ_e ?_ | refine blockQ_t ?_ | refine blockQ_f (by decide) ?_) | apply aw_seq | apply aw_skip | apply aw_exit | apply aw_ret | apply aw_block | apply aw_condT rfl | apply aw_condF rfl | (refine aw_cond rfl (fun hg => ?_) (fun hg => ?_) <;> (try (have hq := hg; simp only [Bool.not_eq_true',Bool.not_eq_false',Bool.and_eq_true,Bool.and_eq_false_iff,Bool.or_eq_true,Bool.or_eq_false_iff,decide_eq_true_eq,decide_eq_false_iff_not,bne_iff_ne,beq_iff_eq,beq_eq_false_iff_ne,bne_eq_false_iff_eq,ne_eq,Int.not_lt,Int.not_le,Decidable.not_not] at hq)) <;> (try (have hr := hg; simp only [decide_eq_true_eq,decide_eq_false_iff_not] at hr)) <;> (try (exfalso; omega))) | ((first | refine aw_hide fun K hK => aw_region ?_ | refine ago_if (by omega) ?_ | skip); simp (disch := first | exact okY | omega) only [ZU,Nat.reduceAdd,Nat.reduceMul,dI,AOpRun,aexec,Nat.reduceBEq,↓eget_h,run1,fxl,isSh,↓reduceIte,abin,hr,decide_false]) | subst hK))
    all_goals (refine end_q [] [] ?_ ?_ <;> repeat' (first | exact trivial | exact vr_val _))
  have ki : (i : Int) < (r.f.x.length : Int) := by omega
  have kif : (i : Int) < (r.f.v.length : Int) := by omega
  have kig : (i : Int) < (r.g.v.length : Int) := by omega
  have g1 := rows_gd r.f.v i (by omega)
  have g2 := rows_gd r.g.v i (by omega)
  have hrf := hfr i hi2
  have hrg := hgr i hi2
  have hnot2 : ∀ k,k < r.f.y.length → ¬ iat (r.f.v[i]?.getD []) k ≤ iat (r.g.v[i]?.getD []) k → rotE r = 20 := fun k hk hn => hnot fun hle => hn (hle i hi2 k hk)
  have hstep : (∀ k,k < r.f.y.length → iat (r.f.v[i]?.getD []) k ≤ iat (r.g.v[i]?.getD []) k) → ∀ j,j < i + 1 → ∀ k,k < r.f.y.length → iat (r.f.v[j]?.getD []) k ≤ iat (r.g.v[j]?.getD []) k := fun h j hj => by
    rcases (by omega : j < i ∨ j = i) with h1 | rfl
    · exact hout j h1
    · exact h
  clear hout hyes hnot hfr hgr
  generalize r.f.v[i]?.getD [] = p at *
  generalize r.g.v[i]?.getD [] = q at *
  have pl := ints_len p
  have pg := ints_all p
  have ql := ints_len q
  have qg := ints_all q
  try unfold rotC
  (repeat' (first | (with_reducible first | refine thenQ_n ?_ | refine blockQ_n ?_ | refine thenQ_e ?_ | refine blockQ_t ?_ | refine blockQ_f (by decide) ?_) | apply aw_seq | apply aw_skip | apply aw_exit | apply aw_ret | apply aw_block | apply aw_condT rfl | apply aw_condF rfl | ((first | refine aw_hide fun K hK => aw_region ?_ | refine ago_if (by omega) ?_ | skip); simp (disch := first | exact okY | omega) only [ZU,Nat.reduceAdd,Nat.reduceMul,dI,AOpRun,aexec,Nat.reduceBEq,↓eget_h,run1,fxl,isSh,↓reduceIte,abin,ki]) | subst hK))
  refine aw_loop (fun k : Nat => ⟨[(1,.ptr 0 0),(3,dI i),(4,dI k)],[(0,rotC r)],8000⟩) (fun k => k ≤ r.f.y.length ∧ ∀ j,j < k → iat p j ≤ iat q j) (fun k => r.f.y.length - k) ⟨0,⟨by omega,fun j hj => by omega⟩,?_⟩ ?_
  · unfold rotC dI
    refine wk_q [] [(0,0)] ?_ ?_ <;> repeat' (first | exact trivial | exact vr_val _ | exact vr_list _ | exact vr_ptr _ _ _ rfl | refine And.intro ⟨_,rfl,.inl ⟨_,rfl,by decide,?_⟩⟩ ?_ | apply And.intro)
  rintro k ⟨hk,hin⟩
  by_cases hk2 : k < r.f.y.length
  case neg =>
    obtain rfl : k = r.f.y.length := by omega
    try unfold rotC
    (have hg : (987654321 : Nat) - 987654321 = 0 := rfl; have hr := hg; repeat' (first | (with_reducible first | refine thenQ_n ?_ | refine blockQ_n ?_ | refine thenQ_e ?_ | refine blockQ_t ?_ | refine blockQ_f (by decide) ?_) | apply aw_seq | apply aw_skip | apply aw_exit | apply aw_ret | apply aw_block | apply aw_condT rfl | apply aw_condF rfl | (refine aw_cond rfl (fun hg => ?_) (fun hg => ?_) <;> (try (have hq := hg; simp only [Bool.not_eq_true',Bool.not_eq_false',Bool.and_eq_true,Bool.and_eq_false_iff,Bool.or_eq_true,Bool.or_eq_false_iff,decide_eq_true_eq,decide_eq_false_iff_not,bne_iff_ne,beq_iff_eq,beq_eq_false_iff_ne,bne_eq_false_iff_eq,ne_eq,Int.not_lt,Int.not_le,Decidable.not_not] at hq)) <;> (try (have hr := hg; simp only [decide_eq_true_eq,decide_eq_false_iff_not] at hr)) <;> (try (exfalso; omega))) | ((first | refine aw_hide fun K hK => aw_region ?_ | refine ago_if (by omega) ?_ | skip); simp (disch := first | exact okY | omega) only [ZU,Nat.reduceAdd,Nat.reduceMul,dI,AOpRun,aexec,Nat.reduceBEq,↓eget_h,run1,fyl,isSh,↓reduceIte,abin,hr,decide_false,fits]) | subst hK))
    refine ⟨i + 1,⟨by omega,hstep hin⟩,by omega,?_⟩
    try unfold rotC
    refine wk_q [] [(0,0)] ?_ ?_ <;> repeat' (first | exact trivial | exact vr_val _ | exact vr_list _ | exact vr_ptr _ _ _ rfl | refine And.intro ⟨_,rfl,.inl ⟨_,rfl,by decide,?_⟩⟩ ?_ | apply And.intro)
  have g3 := ints_gd p k (by omega)
  have g4 := ints_gd q k (by omega)
  rw [show p[k]?.getD 0 = iat p k from rfl] at g3
  rw [show q[k]?.getD 0 = iat q k from rfl] at g4
  have kk : (k : Int) < (r.f.y.length : Int) := by omega
  have kp : (k : Int) < (p.length : Int) := by omega
  have kq : (k : Int) < (q.length : Int) := by omega
  try unfold rotC
  cases q5 : decide (iat p k > iat q k) with
  | true =>
    rw [hnot2 k hk2 (by have := of_decide_eq_true q5; omega)]
    (repeat' (first | (with_reducible first | refine thenQ_n ?_ | refine blockQ_n ?_ | refine thenQ_e ?_ | refine blockQ_t ?_ | refine blockQ_f (by decide) ?_) | apply aw_seq | apply aw_skip | apply aw_exit | apply aw_ret | apply aw_block | apply aw_condT rfl | apply aw_condF rfl | ((first | refine aw_hide fun K hK => aw_region ?_ | refine ago_if (by omega) ?_ | skip); simp (disch := first | exact okY | omega) only [ZU,Nat.reduceAdd,Nat.reduceMul,dI,AOpRun,aexec,Nat.reduceBEq,↓eget_h,run1,fyl,isSh,↓reduceIte,abin,kk,fa,opt1,g1,pg,g3,ga,g2,qg,g4,q5,blockQ]) | subst hK))
    all_goals (refine end_q [] [] ?_ ?_ <;> repeat' (first | exact trivial | exact vr_val _))
  | false =>
    have hs2 : ∀ j,j < k + 1 → iat p j ≤ iat q j := fun j hj => by
      rcases (by omega : j < k ∨ j = k) with h | rfl
      · exact hin j h
      · have := of_decide_eq_false q5; omega
    (repeat' (first | (with_reducible first | refine thenQ_n ?_ | refine blockQ_n ?_ | refine thenQ_e ?_ | refine blockQ_t ?_ | refine blockQ_f (by decide) ?_) | apply aw_seq | apply aw_skip | apply aw_exit | apply aw_ret | apply aw_block | apply aw_condT rfl | apply aw_condF rfl | ((first | refine aw_hide fun K hK => aw_region ?_ | refine ago_if (by omega) ?_ | skip); simp (disch := first | exact okY | omega) only [ZU,Nat.reduceAdd,Nat.reduceMul,dI,AOpRun,aexec,Nat.reduceBEq,↓eget_h,run1,fyl,isSh,↓reduceIte,abin,kk,fa,opt1,g1,pg,g3,ga,g2,qg,g4,q5,fits]) | subst hK))
    refine ⟨k + 1,⟨by omega,hs2⟩,by omega,?_⟩
    try unfold rotC
    refine wk_q [] [(0,0)] ?_ ?_ <;> repeat' (first | exact trivial | exact vr_val _ | exact vr_list _ | exact vr_ptr _ _ _ rfl | refine And.intro ⟨_,rfl,.inl ⟨_,rfl,by decide,?_⟩⟩ ?_ | apply And.intro)
end Go.Proofs.YtbncpngjclabhaaGreat
/- law02: the air; what is too far. No conditions. -/
namespace Go.Proofs.YtbncpngjclabhaaGreat
open Go.RowKit Lift

noncomputable def airE (r : Rot) (a : Air) : Int := if rotE r = 0 then (if airB a = true then 0 else 21) else rotE r
theorem rAir_ac (r : Rot) (a : Air) (hs : RotSm r) : AC Tryz.prog 51 [rotD r,airD a] [] [] (dI (airE r a)) := by
  refine kref02_CheckAir.ac (n0 := 0) (by simp) ⟨in_rotD _ _,in_airD _ _,trivial⟩ trivial rfl ?_
  have c0 := rCheck2_ac r hs
  have v1 := rValid_ac a.w
  have v2 := rValid_ac a.t
  have v3 := rValid_ac a.h
  have v4 := rValid_ac a.d
  unfold cref02_CheckAir airE airB
  unfold rotD rotC airD airC at *
  by_cases h0 : rotE r = 0
  case neg =>
    rw [if_neg h0]
    have q : (rotE r != 0) = true := by simpa using h0
    generalize rotE r = E at *
    (repeat' (first | (with_reducible first | refine thenQ_n ?_ | refine blockQ_n ?_ | refine thenQ_e ?_ | refine blockQ_t ?_ | refine blockQ_f (by decide) ?_) | apply aw_seq | apply aw_skip | apply aw_exit | apply aw_ret | apply aw_block | apply aw_condT rfl | apply aw_condF rfl | ((first | refine aw_hide fun K hK => aw_region ?_ | refine acall0 (c0) ?_ | refine ago_if (by omega) ?_ | skip); simp (disch := first | exact okY | omega) only [ZU,Nat.reduceAdd,Nat.reduceMul,dI,AOpRun,aexec,D.isBot,↓eget_h,or_self,↓reduceIte,D.cells,Nat.reduceBEq,Nat.reduceLeDiff,List.drop,List.take,isSh,abin,q]) | subst hK))
    all_goals (refine end_q [] [] ?_ ?_ <;> repeat' (first | exact trivial | exact vr_val _))
  rw [h0] at c0 ⊢
  rw [if_pos rfl]
  cases b1 : spVB a.w <;> cases b2 : spVB a.t <;> cases b3 : spVB a.h <;> cases b4 : spVB a.d
  all_goals
    rw [b1] at v1
    rw [b2] at v2
    rw [b3] at v3
    rw [b4] at v4
    (repeat' (first | (with_reducible first | refine thenQ_n ?_ | refine blockQ_n ?_ | refine thenQ_e ?_ | refine blockQ_t ?_ | refine blockQ_f (by decide) ?_) | apply aw_seq | apply aw_skip | apply aw_exit | apply aw_ret | apply aw_block | apply aw_condT rfl | apply aw_condF rfl | ((first | refine aw_hide fun K hK => aw_region ?_ | refine acall0 (c0) ?_ | refine acall0 (v1) ?_ | refine acall0 (v2) ?_ | refine acall0 (v3) ?_ | refine acall0 (v4) ?_ | refine ago_if (by omega) ?_ | skip); simp (disch := first | exact okY | omega) only [ZU,Nat.reduceAdd,Nat.reduceMul,dI,AOpRun,aexec,D.isBot,↓eget_h,or_self,↓reduceIte,D.cells,Nat.reduceBEq,Nat.reduceLeDiff,List.drop,List.take,isSh,abin,bne_self_eq_false,↓hget_h,dB,ARun_some,AG_tf,Bool.and_false,AG_ff]) | subst hK))
    all_goals (refine end_q [] [] ?_ ?_ <;> repeat' (first | exact trivial | exact vr_val _))
def farT (t : Tb) : Bool := farB t.x t.y t.v
def farRot (r : Rot) : Bool := farT r.a || (farT r.b || (farT r.c || (farT r.d || (farT r.e || (farT r.f || (farT r.g || farT r.h))))))
def TbIn (t : Tb) : Prop := TSm t.x t.y t.v
def RotIn (r : Rot) : Prop := ∀ k,k < 8 → TbIn (tbK r k)
theorem farT_sm {t : Tb} (h : farT t = false) : TbSm t := by
  unfold farT farB rowFar at h
  simp only [Bool.or_eq_false_iff,decide_eq_false_iff_not,List.any_eq_false,decide_eq_true_eq] at h
  exact ⟨by omega,by omega,by omega,fun r hr => by have := h.2 r hr; omega⟩
theorem farRot_sm {r : Rot} (h : farRot r = false) : RotSm r := by
  unfold farRot at h
  simp only [Bool.or_eq_false_iff] at h
  obtain ⟨h0,h1,h2,h3,h4,h5,h6,h7⟩ := h
  intro k hk
  rcases (by omega : k = 0 ∨ k = 1 ∨ k = 2 ∨ k = 3 ∨ k = 4 ∨ k = 5 ∨ k = 6 ∨ k = 7) with rfl | rfl | rfl | rfl | rfl | rfl | rfl | rfl <;> apply farT_sm <;> assumption
theorem farR_ac (r : Rot) (hs : RotIn r) : AC Tryz.prog 10 [rotD r] [] [] (dB (farRot r)) := by
  refine klaw02_Far.ac (n0 := 0) (by simp) ⟨in_rotD _ _,trivial⟩ trivial rfl ?_
  have c0 := farT_ac (hs 0 (by omega))
  have c1 := farT_ac (hs 1 (by omega))
  have c2 := farT_ac (hs 2 (by omega))
  have c3 := farT_ac (hs 3 (by omega))
  have c4 := farT_ac (hs 4 (by omega))
  have c5 := farT_ac (hs 5 (by omega))
  have c6 := farT_ac (hs 6 (by omega))
  have c7 := farT_ac (hs 7 (by omega))
  unfold tbK tabD at *
  unfold farRot farT
  unfold claw02_Far rotD rotC
  cases p0 : farB r.a.x r.a.y r.a.v with
  | true =>
    simp only [p0] at c0
    (repeat' (first | (with_reducible first | refine thenQ_n ?_ | refine blockQ_n ?_ | refine thenQ_e ?_ | refine blockQ_t ?_ | refine blockQ_f (by decide) ?_) | apply aw_seq | apply aw_skip | apply aw_exit | apply aw_ret | apply aw_block | apply aw_condT rfl | apply aw_condF rfl | ((first | refine aw_hide fun K hK => aw_region ?_ | refine acall0 (c0) ?_ | refine ago_if (by omega) ?_ | skip); simp (disch := first | exact okY | omega) only [ZU,Nat.reduceAdd,Nat.reduceMul,dI,AOpRun,aexec,D.isBot,↓eget_h,or_self,↓reduceIte,D.cells,Nat.reduceBEq,Nat.reduceLeDiff,List.drop,List.take,dB,ARun_some,AG_tf,Bool.true_or]) | subst hK))
    all_goals (refine end_q [] [] ?_ ?_ <;> repeat' (first | exact trivial | exact vr_val _))
  | false =>
  simp only [p0] at c0
  cases p1 : farB r.b.x r.b.y r.b.v with
  | true =>
    simp only [p1] at c1
    (repeat' (first | (with_reducible first | refine thenQ_n ?_ | refine blockQ_n ?_ | refine thenQ_e ?_ | refine blockQ_t ?_ | refine blockQ_f (by decide) ?_) | apply aw_seq | apply aw_skip | apply aw_exit | apply aw_ret | apply aw_block | apply aw_condT rfl | apply aw_condF rfl | ((first | refine aw_hide fun K hK => aw_region ?_ | refine acall0 (c0) ?_ | refine acall0 (c1) ?_ | refine ago_if (by omega) ?_ | skip); simp (disch := first | exact okY | omega) only [ZU,Nat.reduceAdd,Nat.reduceMul,dI,AOpRun,aexec,D.isBot,↓eget_h,or_self,↓reduceIte,D.cells,Nat.reduceBEq,Nat.reduceLeDiff,List.drop,List.take,dB,ARun_some,AG_ff,AG_tf,Bool.true_or,Bool.or_true]) | subst hK))
    all_goals (refine end_q [] [] ?_ ?_ <;> repeat' (first | exact trivial | exact vr_val _))
  | false =>
  simp only [p1] at c1
  cases p2 : farB r.c.x r.c.y r.c.v with
  | true =>
    simp only [p2] at c2
    (repeat' (first | (with_reducible first | refine thenQ_n ?_ | refine blockQ_n ?_ | refine thenQ_e ?_ | refine blockQ_t ?_ | refine blockQ_f (by decide) ?_) | apply aw_seq | apply aw_skip | apply aw_exit | apply aw_ret | apply aw_block | apply aw_condT rfl | apply aw_condF rfl | ((first | refine aw_hide fun K hK => aw_region ?_ | refine acall0 (c0) ?_ | refine acall0 (c1) ?_ | refine acall0 (c2) ?_ | refine ago_if (by omega) ?_ | skip); simp (disch := first | exact okY | omega) only [ZU,Nat.reduceAdd,Nat.reduceMul,dI,AOpRun,aexec,D.isBot,↓eget_h,or_self,↓reduceIte,D.cells,Nat.reduceBEq,Nat.reduceLeDiff,List.drop,List.take,dB,ARun_some,AG_ff,AG_tf,Bool.true_or,Bool.or_true]) | subst hK))
    all_goals (refine end_q [] [] ?_ ?_ <;> repeat' (first | exact trivial | exact vr_val _))
  | false =>
  simp only [p2] at c2
  cases p3 : farB r.d.x r.d.y r.d.v with
  | true =>
    simp only [p3] at c3
    (repeat' (first | (with_reducible first | refine thenQ_n ?_ | refine blockQ_n ?_ | refine thenQ_e ?_ | refine blockQ_t ?_ | refine blockQ_f (by decide) ?_) | apply aw_seq | apply aw_skip | apply aw_exit | apply aw_ret | apply aw_block | apply aw_condT rfl | apply aw_condF rfl | ((first | refine aw_hide fun K hK => aw_region ?_ | refine acall0 (c0) ?_ | refine acall0 (c1) ?_ | refine acall0 (c2) ?_ | refine acall0 (c3) ?_ | refine ago_if (by omega) ?_ | skip); simp (disch := first | exact okY | omega) only [ZU,Nat.reduceAdd,Nat.reduceMul,dI,AOpRun,aexec,D.isBot,↓eget_h,or_self,↓reduceIte,D.cells,Nat.reduceBEq,Nat.reduceLeDiff,List.drop,List.take,dB,ARun_some,AG_ff,AG_tf,Bool.true_or,Bool.or_true]) | subst hK))
    all_goals (refine end_q [] [] ?_ ?_ <;> repeat' (first | exact trivial | exact vr_val _))
  | false =>
  simp only [p3] at c3
  cases p4 : farB r.e.x r.e.y r.e.v with
  | true =>
    simp only [p4] at c4
    (repeat' (first | (with_reducible first | refine thenQ_n ?_ | refine blockQ_n ?_ | refine thenQ_e ?_ | refine blockQ_t ?_ | refine blockQ_f (by decide) ?_) | apply aw_seq | apply aw_skip | apply aw_exit | apply aw_ret | apply aw_block | apply aw_condT rfl | apply aw_condF rfl | ((first | refine aw_hide fun K hK => aw_region ?_ | refine acall0 (c0) ?_ | refine acall0 (c1) ?_ | refine acall0 (c2) ?_ | refine acall0 (c3) ?_ | refine acall0 (c4) ?_ | refine ago_if (by omega) ?_ | skip); simp (disch := first | exact okY | omega) only [ZU,Nat.reduceAdd,Nat.reduceMul,dI,AOpRun,aexec,D.isBot,↓eget_h,or_self,↓reduceIte,D.cells,Nat.reduceBEq,Nat.reduceLeDiff,List.drop,List.take,dB,ARun_some,AG_ff,AG_tf,Bool.true_or,Bool.or_true]) | subst hK))
    all_goals (refine end_q [] [] ?_ ?_ <;> repeat' (first | exact trivial | exact vr_val _))
  | false =>
  simp only [p4] at c4
  cases p5 : farB r.f.x r.f.y r.f.v with
  | true =>
    simp only [p5] at c5
    (repeat' (first | (with_reducible first | refine thenQ_n ?_ | refine blockQ_n ?_ | refine thenQ_e ?_ | refine blockQ_t ?_ | refine blockQ_f (by decide) ?_) | apply aw_seq | apply aw_skip | apply aw_exit | apply aw_ret | apply aw_block | apply aw_condT rfl | apply aw_condF rfl | ((first | refine aw_hide fun K hK => aw_region ?_ | refine acall0 (c0) ?_ | refine acall0 (c1) ?_ | refine acall0 (c2) ?_ | refine acall0 (c3) ?_ | refine acall0 (c4) ?_ | refine acall0 (c5) ?_ | refine ago_if (by omega) ?_ | skip); simp (disch := first | exact okY | omega) only [ZU,Nat.reduceAdd,Nat.reduceMul,dI,AOpRun,aexec,D.isBot,↓eget_h,or_self,↓reduceIte,D.cells,Nat.reduceBEq,Nat.reduceLeDiff,List.drop,List.take,dB,ARun_some,AG_ff,AG_tf,Bool.true_or,Bool.or_true]) | subst hK))
    all_goals (refine end_q [] [] ?_ ?_ <;> repeat' (first | exact trivial | exact vr_val _))
  | false =>
  simp only [p5] at c5
  cases p6 : farB r.g.x r.g.y r.g.v with
  | true =>
    simp only [p6] at c6
    (repeat' (first | (with_reducible first | refine thenQ_n ?_ | refine blockQ_n ?_ | refine thenQ_e ?_ | refine blockQ_t ?_ | refine blockQ_f (by decide) ?_) | apply aw_seq | apply aw_skip | apply aw_exit | apply aw_ret | apply aw_block | apply aw_condT rfl | apply aw_condF rfl | ((first | refine aw_hide fun K hK => aw_region ?_ | refine acall0 (c0) ?_ | refine acall0 (c1) ?_ | refine acall0 (c2) ?_ | refine acall0 (c3) ?_ | refine acall0 (c4) ?_ | refine acall0 (c5) ?_ | refine acall0 (c6) ?_ | refine ago_if (by omega) ?_ | skip); simp (disch := first | exact okY | omega) only [ZU,Nat.reduceAdd,Nat.reduceMul,dI,AOpRun,aexec,D.isBot,↓eget_h,or_self,↓reduceIte,D.cells,Nat.reduceBEq,Nat.reduceLeDiff,List.drop,List.take,dB,ARun_some,AG_ff,AG_tf,Bool.true_or,Bool.or_true]) | subst hK))
    all_goals (refine end_q [] [] ?_ ?_ <;> repeat' (first | exact trivial | exact vr_val _))
  | false =>
  simp only [p6] at c6
  cases p7 : farB r.h.x r.h.y r.h.v with
  | true =>
    simp only [p7] at c7
    (repeat' (first | (with_reducible first | refine thenQ_n ?_ | refine blockQ_n ?_ | refine thenQ_e ?_ | refine blockQ_t ?_ | refine blockQ_f (by decide) ?_) | apply aw_seq | apply aw_skip | apply aw_exit | apply aw_ret | apply aw_block | apply aw_condT rfl | apply aw_condF rfl | ((first | refine aw_hide fun K hK => aw_region ?_ | refine acall0 (c0) ?_ | refine acall0 (c1) ?_ | refine acall0 (c2) ?_ | refine acall0 (c3) ?_ | refine acall0 (c4) ?_ | refine acall0 (c5) ?_ | refine acall0 (c6) ?_ | refine acall0 (c7) ?_ | refine ago_if (by omega) ?_ | skip); simp (disch := first | exact okY | omega) only [ZU,Nat.reduceAdd,Nat.reduceMul,dI,AOpRun,aexec,D.isBot,↓eget_h,or_self,↓reduceIte,D.cells,Nat.reduceBEq,Nat.reduceLeDiff,List.drop,List.take,dB,ARun_some,AG_ff,Bool.or_true]) | subst hK))
    all_goals (refine end_q [] [] ?_ ?_ <;> repeat' (first | exact trivial | exact vr_val _))
  | false =>
  simp only [p7] at c7
  (repeat' (first | (with_reducible first | refine thenQ_n ?_ | refine blockQ_n ?_ | refine thenQ_e ?_ | refine blockQ_t ?_ | refine blockQ_f (by decide) ?_) | apply aw_seq | apply aw_skip | apply aw_exit | apply aw_ret | apply aw_block | apply aw_condT rfl | apply aw_condF rfl | ((first | refine aw_hide fun K hK => aw_region ?_ | refine acall0 (c0) ?_ | refine acall0 (c1) ?_ | refine acall0 (c2) ?_ | refine acall0 (c3) ?_ | refine acall0 (c4) ?_ | refine acall0 (c5) ?_ | refine acall0 (c6) ?_ | refine acall0 (c7) ?_ | refine ago_if (by omega) ?_ | skip); simp (disch := first | exact okY | omega) only [ZU,Nat.reduceAdd,Nat.reduceMul,dI,AOpRun,aexec,D.isBot,↓eget_h,or_self,↓reduceIte,D.cells,Nat.reduceBEq,Nat.reduceLeDiff,List.drop,List.take,dB,ARun_some,AG_ff,Bool.or_false]) | subst hK))
  all_goals (refine end_q [] [] ?_ ?_ <;> repeat' (first | exact trivial | exact vr_val _))
end Go.Proofs.YtbncpngjclabhaaGreat
/- The functions' bodies, translated. Written by a program; no conditions. -/
namespace Go.Proofs.YtbncpngjclabhaaGreat
open Go.RowKit Lift

def cref03_CheckPose : ACode :=
 (.seq
 (.region false [oo 4 (.box (.tmp 0)),
 oo 5 (.box (.tmp 1)),
 oo 6 (.box (.tmp 2)),
 oo 7 (.box (.tmp 3)),
 oo 8 (.mv (kI 0))] [])
 (.seq
 (.seq
 (.region false [oo 11 (.loadN 33 (.tmp 4)),
 oo 12 (.loadN 8 (.tmp 5)),
 oo 13 (.loadN 4 (.tmp 6)),
 oo 14 (.call (.func 11) [(.tmp 11),(.tmp 12),(.tmp 13)]),
 om 9 14] [11,12,13,14])
 (.seq
 (.region false [om 15 9,
 oo 16 (.bin .neq (.tmp 15) (kI 0))] [15])
 (.cond (.tmp 16)
 (.seq
 (.region false [om 17 9,
 om 8 17] [17])
 .ret)
 .skip)))
 (.seq
 (.region false [oo 18 (.loadN 33 (.tmp 4)),
 oo 19 (.loadN 8 (.tmp 5)),
 oo 20 (.loadN 4 (.tmp 6)),
 oo 21 (.call (.func 12) [(.tmp 18),(.tmp 19),(.tmp 20)]),
 oo 10 (.mem [(.val (.slice none 0 0)),(.val (.slice none 0 0)),(.val (.slice none 0 0)),(.val (.slice none 0 0)),(.val (.slice none 0 0)),(.val (.slice none 0 0)),(.val (.slice none 0 0)),(.val (.slice none 0 0)),(.val (.slice none 0 0)),(.val (.slice none 0 0)),(.val (.slice none 0 0)),(.val (.slice none 0 0)),(.val (.slice none 0 0)),(.val (.slice none 0 0)),(.val (.slice none 0 0)),(.val (.slice none 0 0)),(.val (.slice none 0 0)),(.val (.slice none 0 0)),(.val (.slice none 0 0)),(.val (.slice none 0 0)),(.val (.slice none 0 0)),(.val (.slice none 0 0)),(.val (.slice none 0 0)),(.val (.slice none 0 0)),(.val (.int .i64 0)),(.val (.int .i64 0)),(.val (.int .i64 0)),(.val (.int .i64 0)),(.val (.int .i64 0)),(.val (.int .i64 0)),(.val (.int .i64 0)),(.val (.int .i64 0)),(.val (.int .i64 0)),(.val (.int .i64 0)),(.val (.int .i64 0)),(.val (.int .i64 0)),(.val (.slice none 0 0)),(.val (.slice none 0 0)),(.val (.slice none 0 0)),(.val (.slice none 0 0)),(.val (.slice none 0 0))]),
 on (.store 41 (.tmp 10) (.tmp 21))] [18,19,20,21])
 (.seq
 (.seq
 (.region false [oo 22 (.loadN 41 (.tmp 10)),
 oo 23 (.loadN 3 (.tmp 7)),
 oo 24 (.call (.func 13) [(.tmp 22),(.tmp 23)]),
 oo 25 (.un .not (.tmp 24)),
 om 26 25,
 og 27 26 false (.fad 2 (.tmp 7)) [],
 og 28 26 false (.load1 (.tmp 27)) [],
 og 29 26 false (.bin .eql (.tmp 28) (kI 0)) [],
 og 30 26 false (.mv (.tmp 29)) [],
 og 31 30 true (.loadN 41 (.tmp 10)) [],
 og 32 30 true (.loadN 3 (.tmp 7)) [],
 og 33 30 true (.call (.func 14) [(.tmp 31),(.tmp 32)]) [],
 og 34 30 true (.un .not (.tmp 33)) [],
 og 35 26 false (.pick (.tmp 30) (.tmp 34) (.const (.bool false))) [],
 oo 36 (.pick (.tmp 26) (.const (.bool true)) (.tmp 35))] [22,23,24,25,26,27,28,29,30,31,32,33,34,35])
 (.cond (.tmp 36)
 (.seq
 (.region false [oo 8 (.mv (kI 32))] [])
 .ret)
 .skip))
 (.seq
 (.region false [oo 8 (.mv (kI 0))] [])
 .ret)))))
theorem kref03_CheckPose : IsCode Tryz.prog 5 37 cref03_CheckPose [.tmp 8] :=
 ⟨Tryz.f5,_,[36,16,0,1,2,3,4,5,6,9,10,7,8],Tryz.func5,rfl,by decide,rfl,by kernel_rfl,by kernel_rfl⟩
def cref03_CheckAll : ACode :=
 (.seq
 (.region false [oo 3 (.box (.tmp 0)),
 oo 4 (.box (.tmp 1)),
 oo 5 (.box (.tmp 2)),
 oo 6 (.mv (kI 0))] [])
 (.seq
 (.seq
 (.region false [oo 8 (.loadN 33 (.tmp 3)),
 oo 9 (.loadN 8 (.tmp 4)),
 oo 10 (.call (.func 28) [(.tmp 8),(.tmp 9)]),
 om 7 10] [8,9,10])
 (.seq
 (.region false [om 11 7,
 oo 12 (.bin .neq (.tmp 11) (kI 0))] [11])
 (.cond (.tmp 12)
 (.seq
 (.region false [om 13 7,
 om 6 13] [13])
 .ret)
 .skip)))
 (.seq
 (.region false [oo 14 (.loadN 4 (.tmp 5)),
 oo 15 (.call (.func 29) [(.tmp 14)]),
 om 6 15] [14,15])
 .ret)))
theorem kref03_CheckAll : IsCode Tryz.prog 11 16 cref03_CheckAll [.tmp 6] :=
 ⟨Tryz.f11,_,[12,0,1,2,3,4,7,5,6],Tryz.func11,rfl,by decide,rfl,by kernel_rfl,by kernel_rfl⟩
def cref03_In : ACode :=
 (.seq
 (.region false [oo 3 (.box (.tmp 0)),
 oo 4 (.box (.tmp 1)),
 oo 5 (.box (.tmp 2)),
 oo 6 (.mem [(.val (.slice none 0 0)),(.val (.slice none 0 0)),(.val (.slice none 0 0)),(.val (.slice none 0 0)),(.val (.slice none 0 0)),(.val (.slice none 0 0)),(.val (.slice none 0 0)),(.val (.slice none 0 0)),(.val (.slice none 0 0)),(.val (.slice none 0 0)),(.val (.slice none 0 0)),(.val (.slice none 0 0)),(.val (.slice none 0 0)),(.val (.slice none 0 0)),(.val (.slice none 0 0)),(.val (.slice none 0 0)),(.val (.slice none 0 0)),(.val (.slice none 0 0)),(.val (.slice none 0 0)),(.val (.slice none 0 0)),(.val (.slice none 0 0)),(.val (.slice none 0 0)),(.val (.slice none 0 0)),(.val (.slice none 0 0)),(.val (.int .i64 0)),(.val (.int .i64 0)),(.val (.int .i64 0)),(.val (.int .i64 0)),(.val (.int .i64 0)),(.val (.int .i64 0)),(.val (.int .i64 0)),(.val (.int .i64 0)),(.val (.int .i64 0)),(.val (.int .i64 0)),(.val (.int .i64 0)),(.val (.int .i64 0)),(.val (.slice none 0 0)),(.val (.slice none 0 0)),(.val (.slice none 0 0)),(.val (.slice none 0 0)),(.val (.slice none 0 0))])] [])
 (.seq
 (.region true [oo 12 (.loadN 33 (.tmp 3)),
 oo 13 (.loadN 4 (.tmp 5)),
 oo 14 (.loadN 33 (.tmp 3)),
 oo 15 (.loadN 8 (.tmp 4)),
 oa 16 (.call (.func 30) [(.tmp 14),(.tmp 15),(.const (.bool false))]) [2,3],
 oo 17 (.loadN 33 (.tmp 3)),
 oo 18 (.loadN 8 (.tmp 4)),
 oa 19 (.call (.func 30) [(.tmp 17),(.tmp 18),(.const (.bool true))]) [5,6,4,2,3],
 oo 20 (.mksl 1 8 [(.val (.int .i64 0))] (kI 7371) (kI 7371)),
 oa 21 (.build [(.val (.slice none 0 0)),(.val (.slice none 0 0)),(.val (.slice none 0 0)),(.val (.slice none 0 0)),(.val (.slice none 0 0)),(.val (.slice none 0 0)),(.val (.slice none 0 0)),(.val (.slice none 0 0)),(.val (.slice none 0 0)),(.val (.slice none 0 0)),(.val (.slice none 0 0)),(.val (.slice none 0 0)),(.val (.slice none 0 0)),(.val (.slice none 0 0)),(.val (.slice none 0 0)),(.val (.slice none 0 0)),(.val (.slice none 0 0)),(.val (.slice none 0 0)),(.val (.slice none 0 0)),(.val (.slice none 0 0)),(.val (.slice none 0 0)),(.val (.slice none 0 0)),(.val (.slice none 0 0)),(.val (.slice none 0 0)),(.val (.int .i64 0)),(.val (.int .i64 0)),(.val (.int .i64 0)),(.val (.int .i64 0)),(.val (.int .i64 0)),(.val (.int .i64 0)),(.val (.int .i64 0)),(.val (.int .i64 0)),(.val (.int .i64 0)),(.val (.int .i64 0)),(.val (.int .i64 0)),(.val (.int .i64 0)),(.val (.slice none 0 0)),(.val (.slice none 0 0)),(.val (.slice none 0 0)),(.val (.slice none 0 0)),(.val (.slice none 0 0))] [(0,33,(.tmp 12)),(33,4,(.tmp 13)),(37,1,(.tmp 16)),(38,1,(.tmp 19)),(40,1,(.tmp 20))]) [0,1,4,2,3,7,5,6,8],
 oo 7 (.mem [(.val (.slice none 0 0)),(.val (.slice none 0 0)),(.val (.slice none 0 0)),(.val (.slice none 0 0)),(.val (.slice none 0 0)),(.val (.slice none 0 0)),(.val (.slice none 0 0)),(.val (.slice none 0 0)),(.val (.slice none 0 0)),(.val (.slice none 0 0)),(.val (.slice none 0 0)),(.val (.slice none 0 0)),(.val (.slice none 0 0)),(.val (.slice none 0 0)),(.val (.slice none 0 0)),(.val (.slice none 0 0)),(.val (.slice none 0 0)),(.val (.slice none 0 0)),(.val (.slice none 0 0)),(.val (.slice none 0 0)),(.val (.slice none 0 0)),(.val (.slice none 0 0)),(.val (.slice none 0 0)),(.val (.slice none 0 0)),(.val (.int .i64 0)),(.val (.int .i64 0)),(.val (.int .i64 0)),(.val (.int .i64 0)),(.val (.int .i64 0)),(.val (.int .i64 0)),(.val (.int .i64 0)),(.val (.int .i64 0)),(.val (.int .i64 0)),(.val (.int .i64 0)),(.val (.int .i64 0)),(.val (.int .i64 0)),(.val (.slice none 0 0)),(.val (.slice none 0 0)),(.val (.slice none 0 0)),(.val (.slice none 0 0)),(.val (.slice none 0 0))]),
 ⟨none,.store 41 (.tmp 7) (.tmp 21),none,[10,9,0,1,4,2,3,7,5,6,8]⟩] [12,13,14,15,16,17,18,19,20,21])
 (.seq
 (.region false [oo 22 (.fad 0 (.tmp 3)),
 oo 23 (.fad 15 (.tmp 22)),
 oo 24 (.fad 0 (.tmp 23)),
 oo 25 (.load1 (.tmp 24)),
 oo 26 (.fad 0 (.tmp 3)),
 oo 27 (.fad 15 (.tmp 26)),
 oo 28 (.fad 0 (.tmp 27)),
 oo 29 (.load1 (.tmp 28)),
 oo 30 (.len_ (.tmp 29)),
 oo 31 (.bin .sub (.tmp 30) (kI 1)),
 oo 32 (.iadS 1 (.tmp 25) (.tmp 31)),
 oo 33 (.load1 (.tmp 32)),
 om 8 33] [22,23,24,25,26,27,28,29,30,31,32,33])
 (.seq
 (.seq
 (.region false [oo 9 (.mv (kI 0))] [])
 (.block 0
 (.loop
 (.seq
 (.seq
 (.region false [om 34 9,
 oo 35 (.fad 29 (.tmp 3)),
 oo 36 (.load1 (.tmp 35)),
 oo 37 (.bin .leq (.tmp 34) (.tmp 36))] [34,35,36])
 (.cond (.tmp 37)
 .skip
 (.exit 0)))
 (.seq
 (.block 1
 (.seq
 (.region false [oo 40 (.fad 30 (.tmp 3)),
 oo 41 (.load1 (.tmp 40)),
 oo 42 (.bin .add (.tmp 41) (kI 1)),
 oo 43 (.mksl 1 1 [(.val (.bool false))] (.tmp 42) (.tmp 42)),
 om 10 43] [40,41,42,43])
 (.seq
 (.seq
 (.region false [oo 11 (.mv (kI 1))] [])
 (.block 2
 (.loop
 (.seq
 (.seq
 (.region false [om 44 11,
 oo 45 (.fad 30 (.tmp 3)),
 oo 46 (.load1 (.tmp 45)),
 oo 47 (.bin .leq (.tmp 44) (.tmp 46)),
 om 48 47,
 og 49 48 true (.mv (.tmp 9)) [],
 og 50 48 true (.fad 27 (.tmp 3)) [],
 og 51 48 true (.load1 (.tmp 50)) [],
 og 52 48 true (.bin .mul (.tmp 49) (.tmp 51)) [],
 og 53 48 true (.mv (.tmp 8)) [],
 og 54 48 true (.bin .leq (.tmp 52) (.tmp 53)) [],
 oo 55 (.pick (.tmp 48) (.tmp 54) (.const (.bool false)))] [44,45,46,47,48,49,50,51,52,53,54])
 (.cond (.tmp 55)
 .skip
 (.exit 2)))
 (.seq
 (.block 3
 (.region true [om 59 10,
 om 60 11,
 oo 61 (.fad 0 (.tmp 3)),
 oa 62 (.loadN 26 (.tmp 61)) [2],
 oo 63 (.loadN 8 (.tmp 4)),
 om 64 9,
 oo 65 (.fad 27 (.tmp 3)),
 oa 66 (.load1 (.tmp 65)) [6],
 oa 67 (.bin .mul (.tmp 64) (.tmp 66)) [5,7,6],
 oa 68 (.call (.func 32) [(.tmp 67)]) [8,5,7,6],
 om 69 11,
 oo 70 (.fad 28 (.tmp 3)),
 oa 71 (.load1 (.tmp 70)) [11],
 oa 72 (.bin .mul (.tmp 69) (.tmp 71)) [10,12,11],
 oa 73 (.call (.func 32) [(.tmp 72)]) [13,10,12,11,9,8,5,7,6],
 oa 74 (.call (.func 31) [(.tmp 62),(.tmp 63),(.tmp 68),(.tmp 73)]) [3,2,4,9,8,5,7,6,14,13,10,12,11],
 oa 58 (.mv (.tmp 74)) [15,3,2,4,9,8,5,7,6,14,13,10,12,11],
 oa 75 (.ext (.tmp 58) 0) [16,15,3,2,4,9,8,5,7,6,14,13,10,12,11],
 oa 76 (.ext (.tmp 58) 1) [16,15,3,2,4,9,8,5,7,6,14,13,10,12,11],
 oa 77 (.iadS 1 (.tmp 59) (.tmp 60)) [0,1,2,3,4,5,6,7,8,9,10,11,12,13,14,15,16,17],
 ⟨none,.store 1 (.tmp 77) (.tmp 75),none,[19,0,1,2,3,4,5,6,7,8,9,10,11,12,13,14,15,16,17]⟩] [59,60,61,62,63,64,65,66,67,68,69,70,71,72,73,74,58,75,76,77]))
 (.region false [om 56 11,
 oo 57 (.bin .add (.tmp 56) (kI 1)),
 om 11 57] [56,57]))))))
 (.region false [oo 78 (.fad 39 (.tmp 7)),
 oo 79 (.load1 (.tmp 78)),
 om 80 10,
 oo 81 (.buildSl 1 1 [(.val (.slice none 0 0))] [(0,1,(.tmp 80))]),
 oo 82 (.app 1 24 (.tmp 79) (.tmp 81)),
 oo 83 (.fad 39 (.tmp 7)),
 on (.store 1 (.tmp 83) (.tmp 82))] [78,79,80,81,82,83]))))
 (.region false [om 38 9,
 oo 39 (.bin .add (.tmp 38) (kI 1)),
 om 9 39] [38,39]))))))
 (.seq
 (.region false [oo 84 (.loadN 41 (.tmp 7)),
 on (.store 41 (.tmp 6) (.tmp 84))] [84])
 .ret)))))
theorem kref03_In : IsCode Tryz.prog 12 85 cref03_In [.cellN 6 41] :=
 ⟨Tryz.f12,_,[55,37,0,1,2,3,5,4,9,11,8,10,7,6],Tryz.func12,rfl,by decide,rfl,by kernel_rfl,by kernel_rfl⟩
def cref03_Air_valid : ACode :=
 (.seq
 (.region false [oo 2 (.box (.tmp 0)),
 oo 3 (.box (.tmp 1)),
 oo 4 (.mv (.const (.bool false)))] [])
 (.seq
 (.region false [oo 5 (.fad 0 (.tmp 3)),
 oo 6 (.load1 (.tmp 5)),
 oo 7 (.call (.func 33) [(.tmp 6),(kI (-40)),(kI 40)]),
 om 8 7,
 og 9 8 true (.fad 1 (.tmp 3)) [],
 og 10 8 true (.load1 (.tmp 9)) [],
 og 11 8 true (.fad 0 (.tmp 2)) [],
 og 12 8 true (.fad 29 (.tmp 11)) [],
 og 13 8 true (.load1 (.tmp 12)) [],
 og 14 8 true (.call (.func 33) [(.tmp 10),(kI 0),(.tmp 13)]) [],
 oo 15 (.pick (.tmp 8) (.tmp 14) (.const (.bool false))),
 om 16 15,
 og 17 16 true (.fad 2 (.tmp 3)) [],
 og 18 16 true (.load1 (.tmp 17)) [],
 og 19 16 true (.call (.func 33) [(.tmp 18),(kI 0),(kI 12)]) [],
 oo 20 (.pick (.tmp 16) (.tmp 19) (.const (.bool false))),
 om 4 20] [5,6,7,8,9,10,11,12,13,14,15,16,17,18,19,20])
 .ret))
theorem kref03_Air_valid : IsCode Tryz.prog 13 21 cref03_Air_valid [.tmp 4] :=
 ⟨Tryz.f13,_,[0,1,3,2,4],Tryz.func13,rfl,by decide,rfl,by kernel_rfl,by kernel_rfl⟩
def cref03_Air_Down : ACode :=
 (.seq
 (.region false [oo 2 (.box (.tmp 0)),
 oo 3 (.box (.tmp 1)),
 oo 4 (.mv (.const (.bool false)))] [])
 (.seq
 (.region false [oo 5 (.fad 2 (.tmp 3)),
 oo 6 (.load1 (.tmp 5)),
 oo 7 (.bin .eql (.tmp 6) (kI 0)),
 om 8 7,
 og 9 8 true (.fad 1 (.tmp 3)) [],
 og 10 8 true (.load1 (.tmp 9)) [],
 og 11 8 true (.fad 0 (.tmp 2)) [],
 og 12 8 true (.fad 31 (.tmp 11)) [],
 og 13 8 true (.load1 (.tmp 12)) [],
 og 14 8 true (.bin .leq (.tmp 10) (.tmp 13)) [],
 oo 15 (.pick (.tmp 8) (.tmp 14) (.const (.bool false))),
 om 16 15,
 og 17 16 true (.fad 0 (.tmp 3)) [],
 og 18 16 true (.load1 (.tmp 17)) [],
 og 19 16 true (.fad 33 (.tmp 2)) [],
 og 20 16 true (.fad 0 (.tmp 19)) [],
 og 21 16 true (.load1 (.tmp 20)) [],
 og 22 16 true (.call (.func 33) [(.tmp 18),(kI 0),(.tmp 21)]) [],
 oo 23 (.pick (.tmp 16) (.tmp 22) (.const (.bool false))),
 om 4 23] [5,6,7,8,9,10,11,12,13,14,15,16,17,18,19,20,21,22,23])
 .ret))
theorem kref03_Air_Down : IsCode Tryz.prog 14 24 cref03_Air_Down [.tmp 4] :=
 ⟨Tryz.f14,_,[0,1,3,2,4],Tryz.func14,rfl,by decide,rfl,by kernel_rfl,by kernel_rfl⟩
def cref03_CheckAir : ACode :=
 (.seq
 (.region false [oo 2 (.box (.tmp 0)),
 oo 3 (.box (.tmp 1)),
 oo 4 (.mv (kI 0))] [])
 (.seq
 (.seq
 (.region false [oo 8 (.loadN 33 (.tmp 2)),
 oo 9 (.call (.func 50) [(.tmp 8)]),
 om 5 9] [8,9])
 (.seq
 (.region false [om 10 5,
 oo 11 (.bin .neq (.tmp 10) (kI 0))] [10])
 (.cond (.tmp 11)
 (.seq
 (.region false [om 12 5,
 om 4 12] [12])
 .ret)
 .skip)))
 (.seq
 (.seq
 (.region false [oo 13 (.fad 0 (.tmp 2)),
 oo 14 (.loadN 26 (.tmp 13)),
 oo 15 (.loadN 8 (.tmp 3)),
 oo 16 (.call (.func 51) [(.tmp 14),(.tmp 15)]),
 om 6 16] [13,14,15,16])
 (.seq
 (.region false [om 17 6,
 oo 18 (.bin .neq (.tmp 17) (kI 0))] [17])
 (.cond (.tmp 18)
 (.seq
 (.region false [om 19 6,
 om 4 19] [19])
 .ret)
 .skip)))
 (.seq
 (.region false [oo 20 (.fad 0 (.tmp 2)),
 oo 21 (.loadN 26 (.tmp 20)),
 oo 7 (.mem [(.val (.slice none 0 0)),(.val (.slice none 0 0)),(.val (.slice none 0 0)),(.val (.slice none 0 0)),(.val (.slice none 0 0)),(.val (.slice none 0 0)),(.val (.slice none 0 0)),(.val (.slice none 0 0)),(.val (.slice none 0 0)),(.val (.slice none 0 0)),(.val (.slice none 0 0)),(.val (.slice none 0 0)),(.val (.slice none 0 0)),(.val (.slice none 0 0)),(.val (.slice none 0 0)),(.val (.slice none 0 0)),(.val (.slice none 0 0)),(.val (.slice none 0 0)),(.val (.slice none 0 0)),(.val (.slice none 0 0)),(.val (.slice none 0 0)),(.val (.slice none 0 0)),(.val (.slice none 0 0)),(.val (.slice none 0 0)),(.val (.int .i64 0)),(.val (.int .i64 0))]),
 on (.store 26 (.tmp 7) (.tmp 21))] [20,21])
 (.seq
 (.seq
 (.region false [oo 22 (.fad 9 (.tmp 7)),
 oo 23 (.fad 0 (.tmp 22)),
 oo 24 (.load1 (.tmp 23)),
 oo 25 (.fad 2 (.tmp 3)),
 oo 26 (.loadN 2 (.tmp 25)),
 oo 27 (.call (.func 52) [(.tmp 24),(.tmp 26)]),
 oo 28 (.un .not (.tmp 27)),
 om 29 28,
 og 30 29 false (.fad 9 (.tmp 7)) [],
 og 31 29 false (.fad 1 (.tmp 30)) [],
 og 32 29 false (.load1 (.tmp 31)) [],
 og 33 29 false (.fad 4 (.tmp 3)) [],
 og 34 29 false (.loadN 2 (.tmp 33)) [],
 og 35 29 false (.call (.func 52) [(.tmp 32),(.tmp 34)]) [],
 og 36 29 false (.un .not (.tmp 35)) [],
 oo 37 (.pick (.tmp 29) (.const (.bool true)) (.tmp 36)),
 om 38 37,
 og 39 38 false (.fad 6 (.tmp 7)) [],
 og 40 38 false (.fad 1 (.tmp 39)) [],
 og 41 38 false (.load1 (.tmp 40)) [],
 og 42 38 false (.fad 0 (.tmp 3)) [],
 og 43 38 false (.loadN 2 (.tmp 42)) [],
 og 44 38 false (.call (.func 52) [(.tmp 41),(.tmp 43)]) [],
 og 45 38 false (.un .not (.tmp 44)) [],
 oo 46 (.pick (.tmp 38) (.const (.bool true)) (.tmp 45)),
 om 47 46,
 og 48 47 false (.fad 15 (.tmp 7)) [],
 og 49 47 false (.fad 1 (.tmp 48)) [],
 og 50 47 false (.load1 (.tmp 49)) [],
 og 51 47 false (.fad 0 (.tmp 3)) [],
 og 52 47 false (.loadN 2 (.tmp 51)) [],
 og 53 47 false (.call (.func 52) [(.tmp 50),(.tmp 52)]) [],
 og 54 47 false (.un .not (.tmp 53)) [],
 oo 55 (.pick (.tmp 47) (.const (.bool true)) (.tmp 54))] [22,23,24,25,26,27,28,29,30,31,32,33,34,35,36,37,38,39,40,41,42,43,44,45,46,47,48,49,50,51,52,53,54])
 (.cond (.tmp 55)
 (.seq
 (.region false [oo 4 (.mv (kI 1))] [])
 .ret)
 .skip))
 (.seq
 (.region false [oo 4 (.mv (kI 0))] [])
 .ret))))))
theorem kref03_CheckAir : IsCode Tryz.prog 28 56 cref03_CheckAir [.tmp 4] :=
 ⟨Tryz.f28,_,[55,18,11,0,1,2,5,3,6,7,4],Tryz.func28,rfl,by decide,rfl,by kernel_rfl,by kernel_rfl⟩
def cref03_checkField : ACode :=
 (.seq
 (.region false [oo 1 (.box (.tmp 0)),
 oo 2 (.mv (kI 0))] [])
 (.seq
 (.seq
 (.region false [oo 4 (.fad 0 (.tmp 1)),
 oo 5 (.load1 (.tmp 4)),
 oo 6 (.call (.func 33) [(.tmp 5),(kI 0),(kI 40)]),
 oo 7 (.un .not (.tmp 6)),
 om 8 7,
 og 9 8 false (.fad 1 (.tmp 1)) [],
 og 10 8 false (.load1 (.tmp 9)) [],
 og 11 8 false (.call (.func 33) [(.tmp 10),(kI 1),(kI 12)]) [],
 og 12 8 false (.un .not (.tmp 11)) [],
 oo 13 (.pick (.tmp 8) (.const (.bool true)) (.tmp 12)),
 om 14 13,
 og 15 14 false (.fad 2 (.tmp 1)) [],
 og 16 14 false (.load1 (.tmp 15)) [],
 og 17 14 false (.call (.func 33) [(.tmp 16),(kI 0),(kI 6)]) [],
 og 18 14 false (.un .not (.tmp 17)) [],
 oo 19 (.pick (.tmp 14) (.const (.bool true)) (.tmp 18)),
 om 20 19,
 og 21 20 false (.fad 3 (.tmp 1)) [],
 og 22 20 false (.load1 (.tmp 21)) [],
 og 23 20 false (.len_ (.tmp 22)) [],
 og 24 20 false (.bin .gtr (.tmp 23) (kI 6)) [],
 oo 25 (.pick (.tmp 20) (.const (.bool true)) (.tmp 24))] [4,5,6,7,8,9,10,11,12,13,14,15,16,17,18,19,20,21,22,23,24])
 (.cond (.tmp 25)
 (.seq
 (.region false [oo 2 (.mv (kI 31))] [])
 .ret)
 .skip))
 (.seq
 (.seq
 (.region false [oo 3 (.mv (kI 0))] [])
 (.block 0
 (.loop
 (.seq
 (.seq
 (.region false [om 26 3,
 oo 27 (.fad 3 (.tmp 1)),
 oo 28 (.load1 (.tmp 27)),
 oo 29 (.len_ (.tmp 28)),
 oo 30 (.bin .lss (.tmp 26) (.tmp 29))] [26,27,28,29])
 (.cond (.tmp 30)
 .skip
 (.exit 0)))
 (.seq
 (.block 1
 (.seq
 (.region false [oo 33 (.fad 3 (.tmp 1)),
 oo 34 (.load1 (.tmp 33)),
 om 35 3,
 oo 36 (.iadS 2 (.tmp 34) (.tmp 35)),
 oo 37 (.fad 0 (.tmp 36)),
 oo 38 (.load1 (.tmp 37)),
 oo 39 (.call (.func 33) [(.tmp 38),(kI (-40)),(kI 40)]),
 oo 40 (.un .not (.tmp 39)),
 om 41 40,
 og 42 41 false (.fad 3 (.tmp 1)) [],
 og 43 41 false (.load1 (.tmp 42)) [],
 og 44 41 false (.mv (.tmp 3)) [],
 og 45 41 false (.iadS 2 (.tmp 43) (.tmp 44)) [],
 og 46 41 false (.fad 1 (.tmp 45)) [],
 og 47 41 false (.load1 (.tmp 46)) [],
 og 48 41 false (.call (.func 33) [(.tmp 47),(kI 1),(kI 12)]) [],
 og 49 41 false (.un .not (.tmp 48)) [],
 oo 50 (.pick (.tmp 41) (.const (.bool true)) (.tmp 49))] [33,34,35,36,37,38,39,40,41,42,43,44,45,46,47,48,49])
 (.cond (.tmp 50)
 (.seq
 (.region false [oo 2 (.mv (kI 31))] [])
 .ret)
 .skip)))
 (.region false [om 31 3,
 oo 32 (.bin .add (.tmp 31) (kI 1)),
 om 3 32] [31,32]))))))
 (.seq
 (.region false [oo 2 (.mv (kI 0))] [])
 .ret))))
theorem kref03_checkField : IsCode Tryz.prog 29 51 cref03_checkField [.tmp 2] :=
 ⟨Tryz.f29,_,[50,30,25,0,1,3,2],Tryz.func29,rfl,by decide,rfl,by kernel_rfl,by kernel_rfl⟩
def cref03_rates : ACode :=
 (.seq
 (.region false [oo 3 (.box (.tmp 0)),
 oo 4 (.box (.tmp 1)),
 oo 6 (.mv (.const (.slice none 0 0)))] [])
 (.seq
 (.region false [oo 14 (.fad 0 (.tmp 3)),
 oo 15 (.loadN 26 (.tmp 14)),
 oo 16 (.loadN 8 (.tmp 4)),
 oo 17 (.call (.func 53) [(.tmp 15),(.tmp 16)]),
 om 13 17,
 oo 18 (.ext (.tmp 13) 0),
 oo 19 (.ext (.tmp 13) 1),
 oo 7 (.mem [(.val (.int .i64 0)),(.val (.int .i64 0))]),
 on (.store 2 (.tmp 7) (.tmp 18)),
 om 8 19] [14,15,16,17,13,18,19,8])
 (.seq
 (.seq
 (.region false [om 20 2] [])
 (.cond (.tmp 20)
 (.region false [oo 22 (.loadN 2 (.tmp 7)),
 oo 23 (.fad 26 (.tmp 3)),
 oo 24 (.load1 (.tmp 23)),
 oo 25 (.call (.func 54) [(.tmp 22),(.tmp 24),(kI 100)]),
 om 21 25,
 oo 26 (.ext (.tmp 21) 0),
 oo 27 (.ext (.tmp 21) 1),
 on (.store 2 (.tmp 7) (.tmp 26))] [22,23,24,25,21,26,27])
 .skip))
 (.seq
 (.region false [oo 9 (.mv (.const (.slice none 0 0)))] [])
 (.seq
 (.seq
 (.region false [oo 10 (.mv (kI 0))] [])
 (.block 0
 (.loop
 (.seq
 (.seq
 (.region false [om 28 10,
 oo 29 (.fad 29 (.tmp 3)),
 oo 30 (.load1 (.tmp 29)),
 oo 31 (.bin .leq (.tmp 28) (.tmp 30))] [28,29,30])
 (.cond (.tmp 31)
 .skip
 (.exit 0)))
 (.seq
 (.block 1
 (.seq
 (.region true [oo 35 (.fad 0 (.tmp 3)),
 oa 36 (.loadN 26 (.tmp 35)) [0],
 oo 37 (.loadN 8 (.tmp 4)),
 om 38 10,
 oo 39 (.fad 27 (.tmp 3)),
 oa 40 (.load1 (.tmp 39)) [4],
 oa 41 (.bin .mul (.tmp 38) (.tmp 40)) [3,5,4],
 oa 42 (.call (.func 32) [(.tmp 41)]) [6,3,5,4],
 oa 43 (.call (.func 55) [(.tmp 36),(.tmp 37),(.tmp 42)]) [1,0,2,7,6,3,5,4],
 oa 34 (.mv (.tmp 43)) [8,1,0,2,7,6,3,5,4],
 oa 44 (.ext (.tmp 34) 0) [9,8,1,0,2,7,6,3,5,4],
 oa 45 (.ext (.tmp 34) 1) [9,8,1,0,2,7,6,3,5,4],
 oo 11 (.mem [(.val (.int .i64 0)),(.val (.int .i64 0))]),
 ⟨none,.store 2 (.tmp 11) (.tmp 44),none,[12,10,9,8,1,0,2,7,6,3,5,4]⟩,
 oa 12 (.mv (.tmp 45)) [11,9,8,1,0,2,7,6,3,5,4,13,12,10]] [35,36,37,38,39,40,41,42,43,34,44,45,12])
 (.region false [om 46 9,
 oo 47 (.fad 0 (.tmp 7)),
 oo 48 (.load1 (.tmp 47)),
 oo 49 (.fad 1 (.tmp 11)),
 oo 50 (.load1 (.tmp 49)),
 oo 51 (.bin .sub (.tmp 48) (.tmp 50)),
 oo 52 (.fad 0 (.tmp 3)),
 oo 53 (.fad 24 (.tmp 52)),
 oo 54 (.load1 (.tmp 53)),
 oo 55 (.fad 28 (.tmp 3)),
 oo 56 (.load1 (.tmp 55)),
 oo 57 (.bin .mul (.tmp 54) (.tmp 56)),
 oo 58 (.call (.func 56) [(.tmp 51),(.tmp 57)]),
 oo 59 (.buildSl 1 1 [(.val (.int .i64 0))] [(0,1,(.tmp 58))]),
 oo 60 (.app 1 8 (.tmp 46) (.tmp 59)),
 om 9 60] [46,47,48,49,50,51,52,53,54,55,56,57,58,59,60])))
 (.region false [om 32 10,
 oo 33 (.bin .add (.tmp 32) (kI 1)),
 om 10 33] [32,33]))))))
 (.seq
 (.region false [om 61 9,
 om 6 61] [61])
 .ret))))))
theorem kref03_rates : IsCode Tryz.prog 30 62 cref03_rates [.tmp 6] :=
 ⟨Tryz.f30,_,[31,20,0,1,3,4,2,7,10,9,11,6],Tryz.func30,rfl,by decide,rfl,by kernel_rfl,by kernel_rfl⟩
def cref02_Wake : ACode :=
 (.seq
 (.region false [oo 4 (.box (.tmp 0)),
 oo 5 (.box (.tmp 1)),
 oo 6 (.box (.tmp 2)),
 oo 7 (.box (.tmp 3)),
 oo 8 (.mv (.const (.bool false))),
 oo 9 (.mv (kI 0))] [])
 (.seq
 (.region false [oo 11 (.loadN 26 (.tmp 4)),
 oo 12 (.loadN 8 (.tmp 5)),
 oo 13 (.call (.func 51) [(.tmp 11),(.tmp 12)]),
 om 10 13] [11,12,13])
 (.seq
 (.seq
 (.region false [om 14 10,
 oo 15 (.bin .neq (.tmp 14) (kI 0))] [14])
 (.cond (.tmp 15)
 (.seq
 (.region false [om 16 10,
 oo 8 (.mv (.const (.bool false))),
 om 9 16] [16])
 .ret)
 .skip))
 (.seq
 (.seq
 (.region false [oo 17 (.loadN 2 (.tmp 7)),
 oo 18 (.call (.func 57) [(.tmp 17)]),
 oo 19 (.un .not (.tmp 18)),
 om 20 19,
 og 21 20 false (.fad 15 (.tmp 4)) [],
 og 22 20 false (.loadN 3 (.tmp 21)) [],
 og 23 20 false (.loadN 2 (.tmp 6)) [],
 og 24 20 false (.fad 0 (.tmp 5)) [],
 og 25 20 false (.loadN 2 (.tmp 24)) [],
 og 26 20 false (.call (.func 58) [(.tmp 22),(.tmp 23),(.tmp 25)]) [],
 og 27 20 false (.un .not (.tmp 26)) [],
 oo 28 (.pick (.tmp 20) (.const (.bool true)) (.tmp 27))] [17,18,19,20,21,22,23,24,25,26,27])
 (.cond (.tmp 28)
 (.seq
 (.region false [oo 8 (.mv (.const (.bool false))),
 oo 9 (.mv (kI 1))] [])
 .ret)
 .skip))
 (.seq
 (.region false [oo 29 (.loadN 26 (.tmp 4)),
 oo 30 (.loadN 8 (.tmp 5)),
 oo 31 (.loadN 2 (.tmp 6)),
 oo 32 (.loadN 2 (.tmp 7)),
 oo 33 (.call (.func 59) [(.tmp 29),(.tmp 30),(.tmp 31),(.tmp 32)]),
 om 8 33,
 oo 9 (.mv (kI 0))] [29,30,31,32,33])
 .ret)))))
theorem kref02_Wake : IsCode Tryz.prog 31 34 cref02_Wake [.tmp 8, .tmp 9] :=
 ⟨Tryz.f31,_,[28,15,0,1,2,3,4,5,10,7,6,8,9],Tryz.func31,rfl,by decide,rfl,by kernel_rfl,by kernel_rfl⟩
def cref03_one : ACode :=
 (.seq
 (.region false [oo 2 (.mem [(.val (.int .i64 0)),(.val (.int .i64 0))])] [])
 (.seq
 (.region false [om 3 0,
 om 4 0,
 oo 5 (.build [(.val (.int .i64 0)),(.val (.int .i64 0))] [(0,1,(.tmp 3)),(1,1,(.tmp 4))]),
 on (.store 2 (.tmp 2) (.tmp 5))] [3,4,5])
 .ret))
theorem kref03_one : IsCode Tryz.prog 32 6 cref03_one [.cellN 2 2] :=
 ⟨Tryz.f32,_,[0,2],Tryz.func32,rfl,by decide,rfl,by kernel_rfl,by kernel_rfl⟩
def cref03_within : ACode :=
 (.seq
 (.region false [oo 6 (.mv (.const (.bool false)))] [])
 (.seq
 (.region false [om 7 0,
 om 8 1,
 oo 9 (.bin .geq (.tmp 7) (.tmp 8)),
 om 10 9,
 og 11 10 true (.mv (.tmp 0)) [],
 og 12 10 true (.mv (.tmp 2)) [],
 og 13 10 true (.bin .leq (.tmp 11) (.tmp 12)) [],
 oo 14 (.pick (.tmp 10) (.tmp 13) (.const (.bool false))),
 om 6 14] [7,8,9,10,11,12,13,14])
 .ret))
theorem kref03_within : IsCode Tryz.prog 33 15 cref03_within [.tmp 6] :=
 ⟨Tryz.f33,_,[0,1,2,6],Tryz.func33,rfl,by decide,rfl,by kernel_rfl,by kernel_rfl⟩
def cref03_checkCraft : ACode :=
 (.seq
 (.region false [oo 1 (.box (.tmp 0)),
 oo 2 (.mv (kI 0))] [])
 (.seq
 (.seq
 (.region false [oo 4 (.fad 0 (.tmp 1)),
 oo 5 (.loadN 26 (.tmp 4)),
 oo 6 (.call (.func 75) [(.tmp 5)]),
 om 3 6] [4,5,6])
 (.seq
 (.region false [om 7 3,
 oo 8 (.bin .neq (.tmp 7) (kI 0))] [7])
 (.cond (.tmp 8)
 (.seq
 (.region false [om 9 3,
 om 2 9] [9])
 .ret)
 .skip)))
 (.seq
 (.seq
 (.region false [oo 10 (.fad 26 (.tmp 1)),
 oo 11 (.load1 (.tmp 10)),
 oo 12 (.call (.func 33) [(.tmp 11),(kI 0),(kI 100)]),
 oo 13 (.un .not (.tmp 12)),
 om 14 13,
 og 15 14 false (.fad 27 (.tmp 1)) [],
 og 16 14 false (.load1 (.tmp 15)) [],
 og 17 14 false (.call (.func 33) [(.tmp 16),(kI 1),(kI 1000)]) [],
 og 18 14 false (.un .not (.tmp 17)) [],
 oo 19 (.pick (.tmp 14) (.const (.bool true)) (.tmp 18)),
 om 20 19,
 og 21 20 false (.fad 28 (.tmp 1)) [],
 og 22 20 false (.load1 (.tmp 21)) [],
 og 23 20 false (.call (.func 33) [(.tmp 22),(kI 1),(kI 1000)]) [],
 og 24 20 false (.un .not (.tmp 23)) [],
 oo 25 (.pick (.tmp 20) (.const (.bool true)) (.tmp 24)),
 om 26 25,
 og 27 26 false (.fad 29 (.tmp 1)) [],
 og 28 26 false (.load1 (.tmp 27)) [],
 og 29 26 false (.call (.func 33) [(.tmp 28),(kI 1),(kI 6)]) [],
 og 30 26 false (.un .not (.tmp 29)) [],
 oo 31 (.pick (.tmp 26) (.const (.bool true)) (.tmp 30)),
 om 32 31,
 og 33 32 false (.fad 30 (.tmp 1)) [],
 og 34 32 false (.load1 (.tmp 33)) [],
 og 35 32 false (.call (.func 33) [(.tmp 34),(kI 1),(kI 3)]) [],
 og 36 32 false (.un .not (.tmp 35)) [],
 oo 37 (.pick (.tmp 32) (.const (.bool true)) (.tmp 36)),
 om 38 37,
 og 39 38 false (.fad 31 (.tmp 1)) [],
 og 40 38 false (.load1 (.tmp 39)) [],
 og 41 38 false (.fad 29 (.tmp 1)) [],
 og 42 38 false (.load1 (.tmp 41)) [],
 og 43 38 false (.call (.func 33) [(.tmp 40),(kI 0),(.tmp 42)]) [],
 og 44 38 false (.un .not (.tmp 43)) [],
 oo 45 (.pick (.tmp 38) (.const (.bool true)) (.tmp 44)),
 om 46 45,
 og 47 46 false (.fad 32 (.tmp 1)) [],
 og 48 46 false (.load1 (.tmp 47)) [],
 og 49 46 false (.fad 30 (.tmp 1)) [],
 og 50 46 false (.load1 (.tmp 49)) [],
 og 51 46 false (.call (.func 33) [(.tmp 48),(kI 1),(.tmp 50)]) [],
 og 52 46 false (.un .not (.tmp 51)) [],
 oo 53 (.pick (.tmp 46) (.const (.bool true)) (.tmp 52))] [10,11,12,13,14,15,16,17,18,19,20,21,22,23,24,25,26,27,28,29,30,31,32,33,34,35,36,37,38,39,40,41,42,43,44,45,46,47,48,49,50,51,52])
 (.cond (.tmp 53)
 (.seq
 (.region false [oo 2 (.mv (kI 30))] [])
 .ret)
 .skip))
 (.seq
 (.seq
 (.region true [oo 54 (.fad 0 (.tmp 1)),
 oa 55 (.fad 6 (.tmp 54)) [0],
 oa 56 (.fad 0 (.tmp 55)) [1,0],
 oa 57 (.load1 (.tmp 56)) [2,1,0],
 oo 58 (.fad 29 (.tmp 1)),
 oa 59 (.load1 (.tmp 58)) [4],
 oo 60 (.fad 27 (.tmp 1)),
 oa 61 (.load1 (.tmp 60)) [6],
 oa 62 (.bin .mul (.tmp 59) (.tmp 61)) [5,4,7,6],
 oa 63 (.build [(.val (.int .i64 0)),(.val (.int .i64 0))] [(1,1,(.tmp 62))]) [8,5,4,7,6],
 oa 64 (.call (.func 52) [(.tmp 57),(.tmp 63)]) [3,2,1,0,9,8,5,4,7,6],
 oa 65 (.un .not (.tmp 64)) [10,3,2,1,0,9,8,5,4,7,6],
 oa 66 (.mv (.tmp 65)) [11,10,3,2,1,0,9,8,5,4,7,6],
 og 67 66 false (.fad 0 (.tmp 1)) [12,11,10,3,2,1,0,9,8,5,4,7,6],
 og 68 66 false (.fad 15 (.tmp 67)) [13,12,11,10,3,2,1,0,9,8,5,4,7,6],
 og 69 66 false (.fad 0 (.tmp 68)) [14,13,12,11,10,3,2,1,0,9,8,5,4,7,6],
 og 70 66 false (.load1 (.tmp 69)) [15,14,13,12,11,10,3,2,1,0,9,8,5,4,7,6],
 og 71 66 false (.call (.func 32) [(kI 0)]) [12,11,10,3,2,1,0,9,8,5,4,7,6],
 og 72 66 false (.call (.func 52) [(.tmp 70),(.tmp 71)]) [16,15,14,13,12,11,10,3,2,1,0,9,8,5,4,7,6,17],
 og 73 66 false (.un .not (.tmp 72)) [18,16,15,14,13,12,11,10,3,2,1,0,9,8,5,4,7,6,17],
 oa 74 (.pick (.tmp 66) (.const (.bool true)) (.tmp 73)) [12,11,10,3,2,1,0,9,8,5,4,7,6,19,18,16,15,14,13,17]] [54,55,56,57,58,59,60,61,62,63,64,65,66,67,68,69,70,71,72,73])
 (.cond (.tmp 74)
 (.seq
 (.region false [oo 2 (.mv (kI 30))] [])
 .ret)
 .skip))
 (.seq
 (.region false [oo 2 (.mv (kI 0))] [])
 .ret)))))
theorem kref03_checkCraft : IsCode Tryz.prog 50 75 cref03_checkCraft [.tmp 2] :=
 ⟨Tryz.f50,_,[74,53,8,0,1,3,2],Tryz.func50,rfl,by decide,rfl,by kernel_rfl,by kernel_rfl⟩
def cref02_Has : ACode :=
 (.seq
 (.region false [oo 2 (.box (.tmp 0)),
 oo 3 (.box (.tmp 1)),
 oo 4 (.mem [(.val (.int .i64 0)),(.val (.int .i64 0))]),
 oo 5 (.mv (kI 0))] [])
 (.seq
 (.region false [oo 7 (.loadN 26 (.tmp 2)),
 oo 8 (.loadN 8 (.tmp 3)),
 oo 9 (.call (.func 51) [(.tmp 7),(.tmp 8)]),
 om 6 9] [7,8,9])
 (.seq
 (.seq
 (.region false [om 10 6,
 oo 11 (.bin .neq (.tmp 10) (kI 0))] [10])
 (.cond (.tmp 11)
 (.seq
 (.region false [oo 12 (.build [(.val (.int .i64 0)),(.val (.int .i64 0))] []),
 om 13 6,
 on (.store 2 (.tmp 4) (.tmp 12)),
 om 5 13] [12,13])
 .ret)
 .skip))
 (.seq
 (.seq
 (.region false [oo 14 (.fad 9 (.tmp 2)),
 oo 15 (.loadN 3 (.tmp 14)),
 oo 16 (.fad 2 (.tmp 3)),
 oo 17 (.loadN 2 (.tmp 16)),
 oo 18 (.fad 4 (.tmp 3)),
 oo 19 (.loadN 2 (.tmp 18)),
 oo 20 (.call (.func 58) [(.tmp 15),(.tmp 17),(.tmp 19)]),
 oo 21 (.un .not (.tmp 20))] [14,15,16,17,18,19,20])
 (.cond (.tmp 21)
 (.seq
 (.region false [oo 22 (.build [(.val (.int .i64 0)),(.val (.int .i64 0))] []),
 on (.store 2 (.tmp 4) (.tmp 22)),
 oo 5 (.mv (kI 1))] [22])
 .ret)
 .skip))
 (.seq
 (.region false [oo 23 (.fad 9 (.tmp 2)),
 oo 24 (.loadN 3 (.tmp 23)),
 oo 25 (.fad 2 (.tmp 3)),
 oo 26 (.loadN 2 (.tmp 25)),
 oo 27 (.fad 4 (.tmp 3)),
 oo 28 (.loadN 2 (.tmp 27)),
 oo 29 (.call (.func 76) [(.tmp 24),(.tmp 26),(.tmp 28)]),
 on (.store 2 (.tmp 4) (.tmp 29)),
 oo 5 (.mv (kI 0))] [23,24,25,26,27,28,29])
 .ret)))))
theorem kref02_Has : IsCode Tryz.prog 53 30 cref02_Has [.cellN 4 2, .tmp 5] :=
 ⟨Tryz.f53,_,[21,11,0,1,2,3,6,4,5],Tryz.func53,rfl,by decide,rfl,by kernel_rfl,by kernel_rfl⟩
def cref02_Level : ACode :=
 (.seq
 (.region false [oo 3 (.box (.tmp 0)),
 oo 4 (.box (.tmp 1)),
 oo 5 (.box (.tmp 2)),
 oo 6 (.mem [(.val (.int .i64 0)),(.val (.int .i64 0))]),
 oo 7 (.mv (kI 0))] [])
 (.seq
 (.region false [oo 9 (.loadN 26 (.tmp 3)),
 oo 10 (.loadN 8 (.tmp 4)),
 oo 11 (.call (.func 51) [(.tmp 9),(.tmp 10)]),
 om 8 11] [9,10,11])
 (.seq
 (.seq
 (.region false [om 12 8,
 oo 13 (.bin .neq (.tmp 12) (kI 0))] [12])
 (.cond (.tmp 13)
 (.seq
 (.region false [oo 14 (.build [(.val (.int .i64 0)),(.val (.int .i64 0))] []),
 om 15 8,
 on (.store 2 (.tmp 6) (.tmp 14)),
 om 7 15] [14,15])
 .ret)
 .skip))
 (.seq
 (.seq
 (.region false [oo 16 (.fad 6 (.tmp 3)),
 oo 17 (.loadN 3 (.tmp 16)),
 oo 18 (.loadN 2 (.tmp 5)),
 oo 19 (.fad 0 (.tmp 4)),
 oo 20 (.loadN 2 (.tmp 19)),
 oo 21 (.call (.func 58) [(.tmp 17),(.tmp 18),(.tmp 20)]),
 oo 22 (.un .not (.tmp 21))] [16,17,18,19,20,21])
 (.cond (.tmp 22)
 (.seq
 (.region false [oo 23 (.build [(.val (.int .i64 0)),(.val (.int .i64 0))] []),
 on (.store 2 (.tmp 6) (.tmp 23)),
 oo 7 (.mv (kI 1))] [23])
 .ret)
 .skip))
 (.seq
 (.region false [oo 24 (.fad 6 (.tmp 3)),
 oo 25 (.loadN 3 (.tmp 24)),
 oo 26 (.loadN 2 (.tmp 5)),
 oo 27 (.fad 0 (.tmp 4)),
 oo 28 (.loadN 2 (.tmp 27)),
 oo 29 (.call (.func 76) [(.tmp 25),(.tmp 26),(.tmp 28)]),
 on (.store 2 (.tmp 6) (.tmp 29)),
 oo 7 (.mv (kI 0))] [24,25,26,27,28,29])
 .ret)))))
theorem kref02_Level : IsCode Tryz.prog 55 30 cref02_Level [.cellN 6 2, .tmp 7] :=
 ⟨Tryz.f55,_,[22,13,0,1,2,3,4,8,6,5,7],Tryz.func55,rfl,by decide,rfl,by kernel_rfl,by kernel_rfl⟩
def cref03_down : ACode :=
 (.seq
 (.region false [oo 4 (.mv (kI 0))] [])
 (.seq
 (.seq
 (.region false [om 5 0,
 oo 6 (.bin .lss (.tmp 5) (kI 0))] [5])
 (.cond (.tmp 6)
 (.seq
 (.region false [om 7 0,
 oo 8 (.un .neg (.tmp 7)),
 om 9 1,
 oo 10 (.bin .add (.tmp 8) (.tmp 9)),
 oo 11 (.bin .sub (.tmp 10) (kI 1)),
 om 12 1,
 oo 13 (.bin .quo (.tmp 11) (.tmp 12)),
 oo 14 (.un .neg (.tmp 13)),
 om 4 14] [7,8,9,10,11,12,13,14])
 .ret)
 .skip))
 (.seq
 (.region false [om 15 0,
 om 16 1,
 oo 17 (.bin .quo (.tmp 15) (.tmp 16)),
 om 4 17] [15,16,17])
 .ret)))
theorem kref03_down : IsCode Tryz.prog 56 18 cref03_down [.tmp 4] :=
 ⟨Tryz.f56,_,[6,0,1,4],Tryz.func56,rfl,by decide,rfl,by kernel_rfl,by kernel_rfl⟩
def cref02_lies : ACode :=
 (.seq
 (.region false [oo 3 (.box (.tmp 0)),
 oo 4 (.box (.tmp 1)),
 oo 5 (.box (.tmp 2)),
 oo 6 (.mv (.const (.bool false)))] [])
 (.seq
 (.region false [oo 7 (.loadN 2 (.tmp 4)),
 oo 8 (.call (.func 57) [(.tmp 7)]),
 om 9 8,
 og 10 9 true (.loadN 2 (.tmp 5)) [],
 og 11 9 true (.call (.func 57) [(.tmp 10)]) [],
 oo 12 (.pick (.tmp 9) (.tmp 11) (.const (.bool false))),
 om 13 12,
 og 14 13 true (.fad 0 (.tmp 3)) [],
 og 15 13 true (.load1 (.tmp 14)) [],
 og 16 13 true (.loadN 2 (.tmp 4)) [],
 og 17 13 true (.call (.func 52) [(.tmp 15),(.tmp 16)]) [],
 oo 18 (.pick (.tmp 13) (.tmp 17) (.const (.bool false))),
 om 19 18,
 og 20 19 true (.fad 1 (.tmp 3)) [],
 og 21 19 true (.load1 (.tmp 20)) [],
 og 22 19 true (.loadN 2 (.tmp 5)) [],
 og 23 19 true (.call (.func 52) [(.tmp 21),(.tmp 22)]) [],
 oo 24 (.pick (.tmp 19) (.tmp 23) (.const (.bool false))),
 om 6 24] [7,8,9,10,11,12,13,14,15,16,17,18,19,20,21,22,23,24])
 .ret))
theorem kref02_lies : IsCode Tryz.prog 58 25 cref02_lies [.tmp 6] :=
 ⟨Tryz.f58,_,[0,1,2,4,5,3,6],Tryz.func58,rfl,by decide,rfl,by kernel_rfl,by kernel_rfl⟩
def cref02_wake : ACode :=
 (.seq
 (.region false [oo 4 (.box (.tmp 0)),
 oo 5 (.box (.tmp 1)),
 oo 6 (.box (.tmp 2)),
 oo 7 (.box (.tmp 3)),
 oo 8 (.mv (.const (.bool false)))] [])
 (.seq
 (.region true [oo 9 (.fad 1 (.tmp 7)),
 oa 10 (.load1 (.tmp 9)) [0],
 oo 11 (.fad 15 (.tmp 4)),
 oa 12 (.loadN 3 (.tmp 11)) [2],
 oo 13 (.loadN 2 (.tmp 6)),
 oo 14 (.fad 0 (.tmp 5)),
 oa 15 (.loadN 2 (.tmp 14)) [5],
 oa 16 (.call (.func 76) [(.tmp 12),(.tmp 13),(.tmp 15)]) [3,2,4,6,5],
 oa 17 (.fld1 0 (.tmp 16)) [7,3,2,4,6,5],
 oa 18 (.bin .geq (.tmp 10) (.tmp 17)) [1,0,8,7,3,2,4,6,5],
 oa 19 (.mv (.tmp 18)) [9,1,0,8,7,3,2,4,6,5],
 og 20 19 true (.fad 0 (.tmp 7)) [10,9,1,0,8,7,3,2,4,6,5],
 og 21 19 true (.load1 (.tmp 20)) [11,10,9,1,0,8,7,3,2,4,6,5],
 og 22 19 true (.fad 18 (.tmp 4)) [10,9,1,0,8,7,3,2,4,6,5],
 og 23 19 true (.loadN 3 (.tmp 22)) [13,10,9,1,0,8,7,3,2,4,6,5],
 og 24 19 true (.loadN 2 (.tmp 6)) [10,9,1,0,8,7,3,2,4,6,5],
 og 25 19 true (.fad 0 (.tmp 5)) [10,9,1,0,8,7,3,2,4,6,5],
 og 26 19 true (.loadN 2 (.tmp 25)) [16,10,9,1,0,8,7,3,2,4,6,5],
 og 27 19 true (.call (.func 76) [(.tmp 23),(.tmp 24),(.tmp 26)]) [14,13,10,9,1,0,8,7,3,2,4,6,5,15,17,16],
 og 28 19 true (.fld1 1 (.tmp 27)) [18,14,13,10,9,1,0,8,7,3,2,4,6,5,15,17,16],
 og 29 19 true (.bin .leq (.tmp 21) (.tmp 28)) [12,11,10,9,1,0,8,7,3,2,4,6,5,19,18,14,13,15,17,16],
 oa 30 (.pick (.tmp 19) (.tmp 29) (.const (.bool false))) [10,9,1,0,8,7,3,2,4,6,5,20,12,11,19,18,14,13,15,17,16],
 oa 8 (.mv (.tmp 30)) [21,10,9,1,0,8,7,3,2,4,6,5,20,12,11,19,18,14,13,15,17,16]] [9,10,11,12,13,14,15,16,17,18,19,20,21,22,23,24,25,26,27,28,29,30])
 .ret))
theorem kref02_wake : IsCode Tryz.prog 59 31 cref02_wake [.tmp 8] :=
 ⟨Tryz.f59,_,[0,1,2,3,7,4,6,5,8],Tryz.func59,rfl,by decide,rfl,by kernel_rfl,by kernel_rfl⟩
def cref02_bound : ACode :=
 (.seq
 (.region false [oo 3 (.box (.tmp 0)),
 oo 4 (.box (.tmp 1)),
 oo 5 (.box (.tmp 2)),
 oo 6 (.mem [(.val (.int .i64 0)),(.val (.int .i64 0))])] [])
 (.seq
 (.region false [oo 10 (.loadN 3 (.tmp 3)),
 oo 11 (.loadN 2 (.tmp 4)),
 oo 12 (.loadN 2 (.tmp 5)),
 oo 13 (.call (.func 108) [(.tmp 10),(.tmp 11),(.tmp 12)]),
 om 9 13,
 oo 14 (.ext (.tmp 9) 0),
 oo 15 (.ext (.tmp 9) 1),
 oo 7 (.mem [(.val (.int .i64 0)),(.val (.int .i64 0))]),
 on (.store 2 (.tmp 7) (.tmp 14)),
 om 8 15] [10,11,12,13,9,14,15,8])
 (.seq
 (.region false [oo 16 (.loadN 2 (.tmp 7)),
 on (.store 2 (.tmp 6) (.tmp 16))] [16])
 .ret)))
theorem kref02_bound : IsCode Tryz.prog 76 17 cref02_bound [.cellN 6 2] :=
 ⟨Tryz.f76,_,[0,1,2,3,4,5,7,6],Tryz.func76,rfl,by decide,rfl,by kernel_rfl,by kernel_rfl⟩
def ctop_TopDescends : ACode :=
 (.seq
 (.region false [oo 3 (.box (.tmp 0)),
 oo 4 (.box (.tmp 1)),
 oo 5 (.box (.tmp 2)),
 oo 6 (.mv (.const (.bool false)))] [])
 (.seq
 (.region true [oo 21 (.fad 0 (.tmp 5)),
 oa 22 (.loadN 4 (.tmp 21)) [0],
 oo 23 (.fad 4 (.tmp 5)),
 oa 24 (.loadN 3 (.tmp 23)) [2],
 oo 7 (.mem [(.val (.int .i64 0)),(.val (.int .i64 0)),(.val (.int .i64 0)),(.val (.slice none 0 0))]),
 oo 8 (.mem [(.val (.int .i64 0)),(.val (.int .i64 0)),(.val (.int .i64 0))]),
 ⟨none,.store 4 (.tmp 7) (.tmp 22),none,[4,1,0,5]⟩,
 ⟨none,.store 3 (.tmp 8) (.tmp 24),none,[5,3,2,6,4,1,0]⟩] [21,22,23,24])
 (.seq
 (.seq
 (.region false [oo 25 (.loadN 33 (.tmp 3)),
 oo 26 (.loadN 4 (.tmp 7)),
 oo 27 (.call (.func 4) [(.tmp 25),(.tmp 26),(.const (.slice none 0 0))]),
 om 28 27,
 og 29 28 false (.loadN 33 (.tmp 3)) [],
 og 30 28 false (.loadN 8 (.tmp 4)) [],
 og 31 28 false (.loadN 4 (.tmp 7)) [],
 og 32 28 false (.loadN 3 (.tmp 8)) [],
 og 33 28 false (.call (.func 5) [(.tmp 29),(.tmp 30),(.tmp 31),(.tmp 32)]) [],
 og 34 28 false (.bin .neq (.tmp 33) (kI 0)) [],
 oo 35 (.pick (.tmp 28) (.const (.bool true)) (.tmp 34))] [25,26,27,28,29,30,31,32,33,34])
 (.cond (.tmp 35)
 (.seq
 (.region false [oo 36 (.call (.func 6) []),
 om 6 36] [36])
 .ret)
 .skip))
 (.seq
 (.region false [oo 38 (.loadN 33 (.tmp 3)),
 oo 39 (.loadN 8 (.tmp 4)),
 oo 40 (.loadN 4 (.tmp 7)),
 oo 41 (.loadN 3 (.tmp 8)),
 oo 42 (.call (.func 7) [(.tmp 38),(.tmp 39),(.tmp 40),(.tmp 41)]),
 om 37 42,
 oo 43 (.ext (.tmp 37) 0),
 oo 44 (.ext (.tmp 37) 1),
 om 9 43,
 om 10 44] [38,39,40,41,42,37,43,44])
 (.seq
 (.seq
 (.region false [om 45 10,
 oo 46 (.bin .neq (.tmp 45) (kI 0))] [45])
 (.cond (.tmp 46)
 (.seq
 (.region false [om 47 10,
 oo 48 (.bin .eql (.tmp 47) (kI 3)),
 om 49 48,
 og 50 49 true (.call (.func 6) []) [],
 oo 51 (.pick (.tmp 49) (.tmp 50) (.const (.bool false))),
 om 6 51] [47,48,49,50,51])
 .ret)
 .skip))
 (.seq
 (.region false [oo 52 (.fad 0 (.tmp 3)),
 oo 53 (.fad 15 (.tmp 52)),
 oo 54 (.fad 0 (.tmp 53)),
 oo 55 (.load1 (.tmp 54)),
 oo 56 (.fad 0 (.tmp 3)),
 oo 57 (.fad 15 (.tmp 56)),
 oo 58 (.fad 0 (.tmp 57)),
 oo 59 (.load1 (.tmp 58)),
 oo 60 (.len_ (.tmp 59)),
 oo 61 (.bin .sub (.tmp 60) (kI 1)),
 oo 62 (.iadS 1 (.tmp 55) (.tmp 61)),
 oo 63 (.load1 (.tmp 62)),
 om 11 63] [52,53,54,55,56,57,58,59,60,61,62,63])
 (.seq
 (.region false [oo 12 (.mv (.const (.slice none 0 0)))] [])
 (.seq
 (.region false [oo 13 (.mv (kI 0))] [])
 (.seq
 (.region false [oo 64 (.loadN 3 (.tmp 8)),
 oo 14 (.mem [(.val (.int .i64 0)),(.val (.int .i64 0)),(.val (.int .i64 0))]),
 on (.store 3 (.tmp 14) (.tmp 64))] [64])
 (.seq
 (.seq
 (.region false [oo 15 (.mv (kI 0))] [])
 (.block 0
 (.loop
 (.seq
 (.seq
 (.region false [om 65 15,
 om 66 9,
 oo 67 (.len_ (.tmp 66)),
 oo 68 (.bin .lss (.tmp 65) (.tmp 67))] [65,66,67])
 (.cond (.tmp 68)
 .skip
 (.exit 0)))
 (.seq
 (.block 1
 (.seq
 (.region false [om 71 9,
 om 72 15,
 oo 73 (.iadS 3 (.tmp 71) (.tmp 72)),
 oo 74 (.loadN 3 (.tmp 73)),
 oo 16 (.mem [(.val (.int .i64 0)),(.val (.int .i64 0)),(.val (.int .i64 0))]),
 on (.store 3 (.tmp 16) (.tmp 74))] [71,72,73,74])
 (.seq
 (.seq
 (.region false [oo 75 (.fad 2 (.tmp 16)),
 oo 76 (.load1 (.tmp 75)),
 oo 77 (.bin .gtr (.tmp 76) (kI 0)),
 om 78 77,
 og 79 78 true (.fad 2 (.tmp 16)) [],
 og 80 78 true (.load1 (.tmp 79)) [],
 og 81 78 true (.fad 2 (.tmp 14)) [],
 og 82 78 true (.load1 (.tmp 81)) [],
 og 83 78 true (.bin .lss (.tmp 80) (.tmp 82)) [],
 oo 84 (.pick (.tmp 78) (.tmp 83) (.const (.bool false))),
 om 85 84,
 og 86 85 true (.fad 1 (.tmp 16)) [],
 og 87 85 true (.load1 (.tmp 86)) [],
 og 88 85 true (.fad 27 (.tmp 3)) [],
 og 89 85 true (.load1 (.tmp 88)) [],
 og 90 85 true (.bin .mul (.tmp 87) (.tmp 89)) [],
 og 91 85 true (.mv (.tmp 11)) [],
 og 92 85 true (.bin .leq (.tmp 90) (.tmp 91)) [],
 oo 93 (.pick (.tmp 85) (.tmp 92) (.const (.bool false)))] [75,76,77,78,79,80,81,82,83,84,85,86,87,88,89,90,91,92])
 (.cond (.tmp 93)
 (.seq
 (.region false [oo 94 (.fad 2 (.tmp 14)),
 oo 95 (.load1 (.tmp 94)),
 oo 96 (.fad 2 (.tmp 16)),
 oo 97 (.load1 (.tmp 96)),
 oo 98 (.bin .sub (.tmp 95) (.tmp 97)),
 oo 99 (.fad 28 (.tmp 3)),
 oo 100 (.load1 (.tmp 99)),
 oo 101 (.bin .mul (.tmp 98) (.tmp 100)),
 om 17 101] [94,95,96,97,98,99,100,101])
 (.seq
 (.region false [om 102 12,
 oo 103 (.fad 1 (.tmp 16)),
 oo 104 (.load1 (.tmp 103)),
 oo 105 (.fad 27 (.tmp 3)),
 oo 106 (.load1 (.tmp 105)),
 oo 107 (.bin .mul (.tmp 104) (.tmp 106)),
 oo 108 (.call (.func 8) [(.tmp 107)]),
 om 109 17,
 oo 110 (.call (.func 8) [(.tmp 109)]),
 oo 111 (.build [(.val (.int .i64 0)),(.val (.int .i64 0)),(.val (.int .i64 0)),(.val (.int .i64 0)),(.val (.int .i64 0))] [(0,2,(.tmp 108)),(2,2,(.tmp 110)),(4,1,(kI 1))]),
 oo 112 (.buildSl 5 1 [(.val (.int .i64 0)),(.val (.int .i64 0)),(.val (.int .i64 0)),(.val (.int .i64 0)),(.val (.int .i64 0))] [(0,5,(.tmp 111))]),
 oo 113 (.app 5 40 (.tmp 102) (.tmp 112)),
 om 12 113] [102,103,104,105,106,107,108,109,110,111,112,113])
 (.region false [om 114 13,
 om 115 17,
 oo 116 (.bin .add (.tmp 114) (.tmp 115)),
 om 13 116] [114,115,116])))
 .skip))
 (.region false [oo 117 (.loadN 3 (.tmp 16)),
 on (.store 3 (.tmp 14) (.tmp 117))] [117]))))
 (.region false [om 69 15,
 oo 70 (.bin .add (.tmp 69) (kI 1)),
 om 15 70] [69,70]))))))
 (.seq
 (.seq
 (.region false [om 118 12,
 oo 119 (.len_ (.tmp 118)),
 oo 120 (.bin .gtr (.tmp 119) (kI 50))] [118,119])
 (.cond (.tmp 120)
 (.seq
 (.region false [oo 121 (.call (.func 6) []),
 om 6 121] [121])
 .ret)
 .skip))
 (.seq
 (.region false [oo 123 (.fad 0 (.tmp 3)),
 oo 124 (.loadN 26 (.tmp 123)),
 oo 125 (.loadN 8 (.tmp 4)),
 om 126 12,
 oo 127 (.call (.func 9) [(.tmp 124),(.tmp 125),(.tmp 126)]),
 om 122 127,
 oo 128 (.ext (.tmp 122) 0),
 oo 129 (.ext (.tmp 122) 1),
 oo 130 (.ext (.tmp 122) 2),
 oo 18 (.mem [(.val (.int .i64 0)),(.val (.int .i64 0))]),
 on (.store 2 (.tmp 18) (.tmp 128)),
 om 19 129,
 om 20 130] [123,124,125,126,127,122,128,129,130,19])
 (.seq
 (.region true [om 131 20,
 oa 132 (.bin .eql (.tmp 131) (kI 0)) [0],
 oa 133 (.mv (.tmp 132)) [1,0],
 og 134 133 true (.loadN 2 (.tmp 18)) [2,1,0],
 og 135 133 true (.mv (.tmp 13)) [2,1,0],
 og 136 133 true (.call (.func 8) [(.tmp 135)]) [4,2,1,0],
 og 137 133 true (.eqa false [false,false] (.tmp 134) (.tmp 136)) [3,2,1,0,5,4],
 oa 138 (.pick (.tmp 133) (.tmp 137) (.const (.bool false))) [2,1,0,6,3,5,4],
 oa 139 (.mv (.tmp 138)) [7,2,1,0,6,3,5,4],
 og 140 139 true (.fad 2 (.tmp 14)) [8,7,2,1,0,6,3,5,4],
 og 141 139 true (.load1 (.tmp 140)) [9,8,7,2,1,0,6,3,5,4],
 og 142 139 true (.bin .eql (.tmp 141) (kI 0)) [10,9,8,7,2,1,0,6,3,5,4],
 oa 143 (.pick (.tmp 139) (.tmp 142) (.const (.bool false))) [8,7,2,1,0,6,3,5,4,11,10,9],
 oa 144 (.mv (.tmp 143)) [12,8,7,2,1,0,6,3,5,4,11,10,9],
 og 145 144 true (.call (.func 6) []) [13,12,8,7,2,1,0,6,3,5,4,11,10,9],
 oa 146 (.pick (.tmp 144) (.tmp 145) (.const (.bool false))) [13,12,8,7,2,1,0,6,3,5,4,11,10,9,14],
 oa 6 (.mv (.tmp 146)) [15,13,12,8,7,2,1,0,6,3,5,4,11,10,9,14]] [131,132,133,134,135,136,137,138,139,140,141,142,143,144,145,146])
 .ret)))))))))))))
theorem ktop_TopDescends : IsCode Tryz.prog 3 147 ctop_TopDescends [.tmp 6] :=
 ⟨Tryz.f3,_,[120,93,68,46,35,0,1,2,5,3,7,4,8,10,15,9,16,14,11,12,17,13,20,18,6],Tryz.func3,rfl,by decide,rfl,by kernel_rfl,by kernel_rfl⟩
def ctop_craftFar : ACode :=
 (.seq
 (.region false [oo 3 (.box (.tmp 0)),
 oo 4 (.box (.tmp 1)),
 oo 6 (.mv (.const (.bool false)))] [])
 (.seq
 (.region false [oo 7 (.fad 0 (.tmp 3)),
 oo 8 (.loadN 26 (.tmp 7)),
 oo 9 (.call (.func 10) [(.tmp 8)]),
 om 10 9,
 og 11 10 false (.fad 3 (.tmp 4)) [],
 og 12 10 false (.load1 (.tmp 11)) [],
 og 13 10 false (.len_ (.tmp 12)) [],
 og 14 10 false (.bin .gtr (.tmp 13) (kI 10)) [],
 oo 15 (.pick (.tmp 10) (.const (.bool true)) (.tmp 14)),
 om 16 15,
 og 17 16 false (.mv (.tmp 2)) [],
 og 18 16 false (.len_ (.tmp 17)) [],
 og 19 16 false (.bin .gtr (.tmp 18) (kI 40)) [],
 oo 20 (.pick (.tmp 16) (.const (.bool true)) (.tmp 19)),
 om 6 20] [7,8,9,10,11,12,13,14,15,16,17,18,19,20])
 .ret))
theorem ktop_craftFar : IsCode Tryz.prog 4 21 ctop_craftFar [.tmp 6] :=
 ⟨Tryz.f4,_,[0,1,3,4,2,6],Tryz.func4,rfl,by decide,rfl,by kernel_rfl,by kernel_rfl⟩
end Go.Proofs.YtbncpngjclabhaaGreat
/- reference: a rotor in an air where the checks pass; small parts of layer 3's. No conditions. -/
namespace Go.Proofs.YtbncpngjclabhaaGreat
open Go Go.RowKit Lift

theorem r3Within_ac (n a b : Int) : AC Tryz.prog 33 [dI n,dI a,dI b] [] [] (dB (wI n a b)) := by
  refine kref03_within.ac (n0 := 0) (by simp) ⟨.val _,.val _,.val _,trivial⟩ trivial rfl ?_
  unfold cref03_within wI
  cases q1 : decide (a ≤ n) <;> cases q2 : decide (n ≤ b)
  all_goals
    (repeat' (first | apply aw_seq | ((first | apply aw_skip | apply aw_exit); try simp only [thenQ,blockQ,if_true,if_false,Nat.reduceEqDiff,reduceCtorEq]) | apply aw_ret | apply aw_block | apply aw_condT rfl | apply aw_condF rfl | ((first | refine aw_region ?_ | refine ago_if (by omega) ?_ | skip); simp (disch := first | exact okY | omega) only [ZU,dB,Bool.and_false,Nat.reduceMul,dI,Nat.reduceAdd,AOpRun,aexec,Nat.reduceBEq,↓eget_h,isSh,↓reduceIte,abin,ge_iff_le,q1,ARun_some,AG_ft,AG_tt,q2])))
    all_goals (refine end_q [] [] ?_ ?_ <;> repeat' (first | exact trivial | exact vr_val _))
theorem r3One_ac (n : Int) : AC Tryz.prog 32 [dI n] [] [] (.agg [dI n,dI n]) := by
  refine kref03_one.ac (n0 := 0) (by simp) ⟨.val _,trivial⟩ trivial rfl ?_
  unfold cref03_one
  (repeat' (first | (with_reducible first | refine thenQ_n ?_ | refine blockQ_n ?_ | refine thenQ_e ?_ | refine blockQ_t ?_ | refine blockQ_f (by decide) ?_) | apply aw_seq | apply aw_skip | apply aw_exit | apply aw_ret | apply aw_block | apply aw_condT rfl | apply aw_condF rfl | ((first | refine aw_hide fun K hK => aw_region ?_ | refine ago_if (by omega) ?_ | skip); simp (disch := first | exact okY | omega) only [ZU,Nat.reduceMul,dI,AOpRun,aexec,↓reduceIte,Nat.reduceBEq,Nat.reduceAdd,↓eget_h,fillD,D.isBot,D.cells,ne_eq,not_true_eq_false,Nat.reduceGT,or_self,splice,List.take,List.drop,Nat.reduceLeDiff,List.all,D.leaf]) | subst hK))
  all_goals (refine end_q [] [] ?_ ?_ <;> repeat' (first | exact trivial | exact vr_val _ | apply vr_agg | apply And.intro))
theorem topOne_ac (n : Int) : AC Tryz.prog 8 [dI n] [] [] (.agg [dI n,dI n]) := by
  refine ktop_one.ac (n0 := 0) (by simp) ⟨.val _,trivial⟩ trivial rfl ?_
  unfold ctop_one
  (repeat' (first | (with_reducible first | refine thenQ_n ?_ | refine blockQ_n ?_ | refine thenQ_e ?_ | refine blockQ_t ?_ | refine blockQ_f (by decide) ?_) | apply aw_seq | apply aw_skip | apply aw_exit | apply aw_ret | apply aw_block | apply aw_condT rfl | apply aw_condF rfl | ((first | refine aw_hide fun K hK => aw_region ?_ | refine ago_if (by omega) ?_ | skip); simp (disch := first | exact okY | omega) only [ZU,Nat.reduceMul,dI,AOpRun,aexec,↓reduceIte,Nat.reduceBEq,Nat.reduceAdd,↓eget_h,fillD,D.isBot,D.cells,ne_eq,not_true_eq_false,Nat.reduceGT,or_self,splice,List.take,List.drop,Nat.reduceLeDiff,List.all,D.leaf]) | subst hK))
  all_goals (refine end_q [] [] ?_ ?_ <;> repeat' (first | exact trivial | exact vr_val _ | apply vr_agg | apply And.intro))
def dnW (n d : Int) : Int := if n < 0 then w64z (0 - w64z ((w64z (w64z (w64z (0 - n) + d) - 1)).tdiv d)) else w64z (n.tdiv d)
theorem r3Down_ac (n d : Int) (hd : d ≠ 0) : AC Tryz.prog 56 [dI n,dI d] [] [] (dI (dnW n d)) := by
  refine kref03_down.ac (n0 := 0) (by simp) ⟨.val _,.val _,trivial⟩ trivial rfl ?_
  unfold cref03_down dnW
  by_cases hp : n < 0
  · have q1 : decide (n < 0) = true := decide_eq_true hp
    rw [if_pos hp]
    have e1 : IntKind.i64.wrap (0 - n) = w64z (0 - n) := rfl
    generalize w64z (0 - n) = q at *
    have e2 : IntKind.i64.wrap (q + d) = w64z (q + d) := rfl
    generalize w64z (q + d) = p at *
    have e3 : IntKind.i64.wrap (p - 1) = w64z (p - 1) := rfl
    generalize w64z (p - 1) = o at *
    have e4 : IntKind.i64.wrap (o.tdiv d) = w64z (o.tdiv d) := rfl
    generalize w64z (o.tdiv d) = m at *
    have e5 : IntKind.i64.wrap (0 - m) = w64z (0 - m) := rfl
    generalize w64z (0 - m) = l at *
    (repeat' (first | (with_reducible first | refine thenQ_n ?_ | refine blockQ_n ?_ | refine thenQ_e ?_ | refine blockQ_t ?_ | refine blockQ_f (by decide) ?_) | apply aw_seq | apply aw_skip | apply aw_exit | apply aw_ret | apply aw_block | apply aw_condT rfl | apply aw_condF rfl | ((first | refine aw_hide fun K hK => aw_region ?_ | refine ago_if (by omega) ?_ | skip); simp (disch := first | exact okY | omega) only [ZU,Nat.reduceMul,dI,AOpRun,aexec,Nat.reduceBEq,Nat.reduceAdd,↓eget_h,isSh,↓reduceIte,abin,q1,e1,e2,e3,hd,e4,e5]) | subst hK))
    all_goals (refine end_q [] [] ?_ ?_ <;> repeat' (first | exact trivial | exact vr_val _))
  · have q1 : decide (n < 0) = false := decide_eq_false hp
    rw [if_neg hp]
    have e2 : IntKind.i64.wrap (n.tdiv d) = w64z (n.tdiv d) := rfl
    generalize w64z (n.tdiv d) = q at *
    (repeat' (first | (with_reducible first | refine thenQ_n ?_ | refine blockQ_n ?_ | refine thenQ_e ?_ | refine blockQ_t ?_ | refine blockQ_f (by decide) ?_) | apply aw_seq | apply aw_skip | apply aw_exit | apply aw_ret | apply aw_block | apply aw_condT rfl | apply aw_condF rfl | ((first | refine aw_hide fun K hK => aw_region ?_ | refine ago_if (by omega) ?_ | skip); simp (disch := first | exact okY | omega) only [ZU,Nat.reduceMul,dI,AOpRun,aexec,Nat.reduceBEq,Nat.reduceAdd,↓eget_h,isSh,↓reduceIte,abin,q1,hd,e2]) | subst hK))
    all_goals (refine end_q [] [] ?_ ?_ <;> repeat' (first | exact trivial | exact vr_val _))
theorem rPart_ac (a : Int × Int) (n d : Int) : AC Tryz.prog 54 [spD a,dI n,dI d] [] [] (.tup [spD (partR a n d).1,dI (partR a n d).2]) :=
  ac_of_calls ⟨Tryz.f54,Tryz.func54,by decide,rfl⟩ (flat_sp1 _ _) fun w us β Z hs hr => by
    rw [args3 hs,rep_sp (hr 0 (by simp)),rep_i (hr 1 (by simp)),rep_i (hr 2 (by simp))]
    exact rpart_any a n d w
def bnR (t : Tb) (x y : Int × Int) : Int × Int := (boundR t.x t.y t.v x y).1
theorem r2Bound_ac (t : Tb) (x y : Int × Int) (hs : TbSm t) : AC Tryz.prog 76 [.agg [.list (ints t.x),.list (ints t.y),.list (rows t.v)],.agg [dI x.1,dI x.2],.agg [dI y.1,dI y.2]] [] [] (.agg [dI (bnR t x y).1,dI (bnR t x y).2]) := by
  refine kref02_bound.ac (n0 := 0) (by simp) ⟨.agg _ (wals_in (c := [.list (ints t.x),.list (ints t.y),.list (rows t.v)]) rfl),in_sp _ _ _,in_sp _ _ _,trivial⟩ trivial rfl ?_
  have c1 := rbound_ac x y (TbSm.tsm hs)
  unfold bnR
  generalize boundR t.x t.y t.v x y = B at *
  obtain ⟨⟨B1,B2⟩,B3⟩ := B
  unfold tabD spD at c1
  unfold cref02_bound
  (repeat' (first | (with_reducible first | refine thenQ_n ?_ | refine blockQ_n ?_ | refine thenQ_e ?_ | refine blockQ_t ?_ | refine blockQ_f (by decide) ?_) | apply aw_seq | apply aw_skip | apply aw_exit | apply aw_ret | apply aw_block | apply aw_condT rfl | apply aw_condF rfl | ((first | refine aw_hide fun K hK => aw_region ?_ | refine acall0 (c1) ?_ | refine ago_if (by omega) ?_ | skip); simp (disch := first | exact okY | omega) only [ZU,Nat.reduceAdd,Nat.reduceMul,dI,AOpRun,aexec,D.isBot,↓eget_h,or_self,↓reduceIte,D.cells,Nat.reduceBEq,Nat.reduceLeDiff,List.drop,List.take,↓hget_h,opt1,List.all,D.leaf,splice]) | subst hK))
  all_goals (refine end_q [] [] ?_ ?_ <;> repeat' (first | exact trivial | exact vr_val _ | apply vr_agg | apply And.intro))
theorem r2Lies_ac (t : Tb) (x y : Int × Int) (ht : 2 ≤ t.x.length ∧ t.x.length ≤ 12 ∧ 2 ≤ t.y.length ∧ t.y.length ≤ 12) (hx : spVB x = true) (hy : spVB y = true) (h1 : liesB t.x x = true) (h2 : liesB t.y y = true) : AC Tryz.prog 58 [.agg [.list (ints t.x),.list (ints t.y),.list (rows t.v)],.agg [dI x.1,dI x.2],.agg [dI y.1,dI y.2]] [] [] (dB true) := by
  refine kref02_lies.ac (n0 := 0) (by simp) ⟨.agg _ (wals_in (c := [.list (ints t.x),.list (ints t.y),.list (rows t.v)]) rfl),in_sp _ _ _,in_sp _ _ _,trivial⟩ trivial rfl ?_
  have c1 := rValid_ac x
  have c2 := rValid_ac y
  have c3 := between_ac t.x x (by omega) (by omega)
  have c4 := between_ac t.y y (by omega) (by omega)
  rw [hx] at c1
  rw [hy] at c2
  rw [h1] at c3
  rw [h2] at c4
  unfold spD at c3 c4
  unfold cref02_lies
  (repeat' (first | (with_reducible first | refine thenQ_n ?_ | refine blockQ_n ?_ | refine thenQ_e ?_ | refine blockQ_t ?_ | refine blockQ_f (by decide) ?_) | apply aw_seq | apply aw_skip | apply aw_exit | apply aw_ret | apply aw_block | apply aw_condT rfl | apply aw_condF rfl | ((first | refine aw_hide fun K hK => aw_region ?_ | refine acall0 (c1) ?_ | refine acall0 (c2) ?_ | refine acall0 (c3) ?_ | refine acall0 (c4) ?_ | refine ago_if (by omega) ?_ | skip); simp (disch := first | exact okY | omega) only [ZU,Nat.reduceAdd,Nat.reduceMul,dI,AOpRun,aexec,D.isBot,↓eget_h,or_self,↓reduceIte,D.cells,Nat.reduceBEq,↓hget_h,Nat.reduceLeDiff,List.drop,List.take,dB,ARun_some,AG_tt,run1]) | subst hK))
  all_goals (refine end_q [] [] ?_ ?_ <;> repeat' (first | exact trivial | exact vr_val _))
theorem r2Has_ac (r : Rot) (a : Air) (hs : RotSm r) (h0 : rotE r = 0) (hb : airB a = true) (h1 : liesB r.d.x a.t = true) (h2 : liesB r.d.y a.h = true) : AC Tryz.prog 53 [rotD r,airD a] [] [] (.tup [.agg [dI (bnR r.d a.t a.h).1,dI (bnR r.d a.t a.h).2],dI 0]) := by
  refine kref02_Has.ac (n0 := 0) (by simp) ⟨in_rotD _ _,in_airD _ _,trivial⟩ trivial rfl ?_
  have c1 := rAir_ac r a hs
  have e1 : airE r a = 0 := by unfold airE; rw [if_pos h0,if_pos hb]
  rw [e1] at c1
  have v1 := airL_gd a hb 1 (by omega)
  have v2 := airL_gd a hb 2 (by omega)
  have c2 := r2Lies_ac r.d a.t a.h (lim_len ((rotE_is h0).lim 3 (by omega))) v1 v2 h1 h2
  have c3 := r2Bound_ac r.d a.t a.h (hs 3 (by omega))
  generalize bnR r.d a.t a.h = B at *
  unfold rotD rotC airD airC at *
  unfold cref02_Has
  (repeat' (first | (with_reducible first | refine thenQ_n ?_ | refine blockQ_n ?_ | refine thenQ_e ?_ | refine blockQ_t ?_ | refine blockQ_f (by decide) ?_) | apply aw_seq | apply aw_skip | apply aw_exit | apply aw_ret | apply aw_block | apply aw_condT rfl | apply aw_condF rfl | ((first | refine aw_hide fun K hK => aw_region ?_ | refine acall0 (c1) ?_ | refine acall0 (c2) ?_ | refine acall0 (c3) ?_ | refine ago_if (by omega) ?_ | skip); simp (disch := first | exact okY | omega) only [ZU,Nat.reduceAdd,Nat.reduceMul,dI,AOpRun,aexec,D.isBot,↓eget_h,or_self,↓reduceIte,D.cells,Nat.reduceBEq,Nat.reduceLeDiff,List.drop,List.take,↓hget_h,isSh,abin,bne_self_eq_false,dB,List.all,D.leaf,splice]) | subst hK))
  all_goals (refine end_q [] [] ?_ ?_ <;> repeat' (first | exact trivial | exact vr_val _ | apply vr_agg | apply vr_tup | apply And.intro))
theorem r2Level_ac (r : Rot) (a : Air) (s : Int × Int) (hs : RotSm r) (h0 : rotE r = 0) (hb : airB a = true) (hv : spVB s = true) (h1 : liesB r.c.x s = true) (h2 : liesB r.c.y a.w = true) : AC Tryz.prog 55 [rotD r,airD a,.agg [dI s.1,dI s.2]] [] [] (.tup [.agg [dI (bnR r.c s a.w).1,dI (bnR r.c s a.w).2],dI 0]) := by
  refine kref02_Level.ac (n0 := 0) (by simp) ⟨in_rotD _ _,in_airD _ _,in_sp _ _ _,trivial⟩ trivial rfl ?_
  have c1 := rAir_ac r a hs
  have e1 : airE r a = 0 := by unfold airE; rw [if_pos h0,if_pos hb]
  rw [e1] at c1
  have v2 := airL_gd a hb 0 (by omega)
  have c2 := r2Lies_ac r.c s a.w (lim_len ((rotE_is h0).lim 2 (by omega))) hv v2 h1 h2
  have c3 := r2Bound_ac r.c s a.w (hs 2 (by omega))
  generalize bnR r.c s a.w = B at *
  unfold rotD rotC airD airC at *
  unfold cref02_Level
  (repeat' (first | (with_reducible first | refine thenQ_n ?_ | refine blockQ_n ?_ | refine thenQ_e ?_ | refine blockQ_t ?_ | refine blockQ_f (by decide) ?_) | apply aw_seq | apply aw_skip | apply aw_exit | apply aw_ret | apply aw_block | apply aw_condT rfl | apply aw_condF rfl | ((first | refine aw_hide fun K hK => aw_region ?_ | refine acall0 (c1) ?_ | refine acall0 (c2) ?_ | refine acall0 (c3) ?_ | refine ago_if (by omega) ?_ | skip); simp (disch := first | exact okY | omega) only [ZU,Nat.reduceAdd,Nat.reduceMul,dI,AOpRun,aexec,D.isBot,↓eget_h,or_self,↓reduceIte,D.cells,Nat.reduceBEq,Nat.reduceLeDiff,List.drop,List.take,↓hget_h,isSh,abin,bne_self_eq_false,dB,List.all,D.leaf,splice]) | subst hK))
  all_goals (refine end_q [] [] ?_ ?_ <;> repeat' (first | exact trivial | exact vr_val _ | apply vr_agg | apply vr_tup | apply And.intro))
def wkR (r : Rot) (a : Air) (s k : Int × Int) : Bool := decide (k.2 ≥ (bnR r.f s a.w).1) && decide (k.1 ≤ (bnR r.g s a.w).2)
theorem r2wake_ac (r : Rot) (a : Air) (s k : Int × Int) (hs : RotSm r) : AC Tryz.prog 59 [rotD r,airD a,.agg [dI s.1,dI s.2],.agg [dI k.1,dI k.2]] [] [] (dB (wkR r a s k)) := by
  refine kref02_wake.ac (n0 := 0) (by simp) ⟨in_rotD _ _,in_airD _ _,in_sp _ _ _,in_sp _ _ _,trivial⟩ trivial rfl ?_
  have c2 := r2Bound_ac r.f s a.w (hs 5 (by omega))
  have c3 := r2Bound_ac r.g s a.w (hs 6 (by omega))
  unfold wkR
  generalize bnR r.f s a.w = B at *
  obtain ⟨B1,B2⟩ := B
  generalize bnR r.g s a.w = E at *
  obtain ⟨E1,E2⟩ := E
  unfold rotD rotC airD airC at *
  unfold cref02_wake
  cases q1 : decide (k.2 ≥ B1) <;> cases q2 : decide (k.1 ≤ E2)
  all_goals
    (repeat' (first | (with_reducible first | refine thenQ_n ?_ | refine blockQ_n ?_ | refine thenQ_e ?_ | refine blockQ_t ?_ | refine blockQ_f (by decide) ?_) | apply aw_seq | apply aw_skip | apply aw_exit | apply aw_ret | apply aw_block | apply aw_condT rfl | apply aw_condF rfl | ((first | refine aw_hide fun K hK => aw_region ?_ | refine acall0 (c2) ?_ | refine acall0 (c3) ?_ | refine ago_if (by omega) ?_ | skip); simp (disch := first | exact okY | omega) only [ZU,Nat.reduceAdd,Nat.reduceMul,dI,AOpRun,aexec,D.isBot,↓eget_h,or_self,↓reduceIte,D.cells,Nat.reduceBEq,run1,↓hget_h,Nat.reduceLeDiff,List.drop,List.take,D.isAgg,opt1,isSh,abin,q1,ARun_some,AG_ft,dB,Bool.and_false,AG_tt,q2]) | subst hK))
    all_goals (refine end_q [] [] ?_ ?_ <;> repeat' (first | exact trivial | exact vr_val _))
theorem r2Wake_ac (r : Rot) (a : Air) (s k : Int × Int) (hs : RotSm r) (h0 : rotE r = 0) (hb : airB a = true) (hv : spVB s = true) (hk : spVB k = true) (h1 : liesB r.f.x s = true) (h2 : liesB r.f.y a.w = true) : AC Tryz.prog 31 [rotD r,airD a,.agg [dI s.1,dI s.2],.agg [dI k.1,dI k.2]] [] [] (.tup [dB (wkR r a s k),dI 0]) := by
  refine kref02_Wake.ac (n0 := 0) (by simp) ⟨in_rotD _ _,in_airD _ _,in_sp _ _ _,in_sp _ _ _,trivial⟩ trivial rfl ?_
  have c1 := rAir_ac r a hs
  have e1 : airE r a = 0 := by unfold airE; rw [if_pos h0,if_pos hb]
  rw [e1] at c1
  have v2 := airL_gd a hb 0 (by omega)
  have c0 := rValid_ac k
  rw [hk] at c0
  have c2 := r2Lies_ac r.f s a.w (lim_len ((rotE_is h0).lim 5 (by omega))) hv v2 h1 h2
  have c3 := r2wake_ac r a s k hs
  generalize wkR r a s k = B at *
  unfold rotD rotC airD airC at *
  unfold cref02_Wake
  (repeat' (first | (with_reducible first | refine thenQ_n ?_ | refine blockQ_n ?_ | refine thenQ_e ?_ | refine blockQ_t ?_ | refine blockQ_f (by decide) ?_) | apply aw_seq | apply aw_skip | apply aw_exit | apply aw_ret | apply aw_block | apply aw_condT rfl | apply aw_condF rfl | ((first | refine aw_hide fun K hK => aw_region ?_ | refine acall0 (c1) ?_ | refine acall0 (c0) ?_ | refine acall0 (c2) ?_ | refine acall0 (c3) ?_ | refine ago_if (by omega) ?_ | skip); simp (disch := first | exact okY | omega) only [ZU,Nat.reduceAdd,Nat.reduceMul,dI,AOpRun,aexec,D.isBot,↓eget_h,or_self,↓reduceIte,D.cells,Nat.reduceBEq,Nat.reduceLeDiff,List.drop,List.take,↓hget_h,isSh,abin,bne_self_eq_false,dB,ARun_some,AG_ff]) | subst hK))
  all_goals (refine end_q [] [] ?_ ?_ <;> repeat' (first | exact trivial | exact vr_val _ | apply vr_tup | apply And.intro))
def inC (c : Crf) (f : Fld) (p q w k : List (List D)) : List D := [.list (ints c.r.a.x),.list (ints c.r.a.y),.list (rows c.r.a.v),.list (ints c.r.b.x),.list (ints c.r.b.y),.list (rows c.r.b.v),.list (ints c.r.c.x),.list (ints c.r.c.y),.list (rows c.r.c.v),.list (ints c.r.d.x),.list (ints c.r.d.y),.list (rows c.r.d.v),.list (ints c.r.e.x),.list (ints c.r.e.y),.list (rows c.r.e.v),.list (ints c.r.f.x),.list (ints c.r.f.y),.list (rows c.r.f.v),.list (ints c.r.g.x),.list (ints c.r.g.y),.list (rows c.r.g.v),.list (ints c.r.h.x),.list (ints c.r.h.y),.list (rows c.r.h.v),dI c.r.cl,dI c.r.bu,dI c.one,dI c.un,dI c.st,dI c.top,dI c.dr,dI c.tch,dI c.si,dI f.len,dI f.cl,dI f.sf,.list (sps f.hd),.list p,.list q,.list w,.list k]
def poseB (c : Crf) (p : Ps) : Bool := wI p.x (-40) 40 && (wI p.v 0 c.top && wI p.h 0 12)
def poseDn (c : Crf) (f : Fld) (p : Ps) : Bool := decide (p.h = 0) && (decide (p.v ≤ c.tch) && wI p.x 0 f.len)
theorem r3Valid_ac (c : Crf) (f : Fld) (p q w k : List (List D)) (o : Ps) : AC Tryz.prog 13 [.agg (inC c f p q w k),.agg (psL o)] [] [] (dB (poseB c o)) := by
  refine kref03_Air_valid.ac (n0 := 0) (by simp) ⟨.agg _ (wals_in (c := inC c f p q w k) rfl),.agg _ (wals_in (c := psL o) rfl),trivial⟩ trivial rfl ?_
  have w1 := r3Within_ac o.x (-40) 40
  have w2 := r3Within_ac o.v 0 c.top
  have w3 := r3Within_ac o.h 0 12
  unfold cref03_Air_valid inC psL poseB
  cases q1 : wI o.x (-40) 40 <;> cases q2 : wI o.v 0 c.top <;> cases q3 : wI o.h 0 12
  all_goals
    rw [q1] at w1
    rw [q2] at w2
    rw [q3] at w3
    (repeat' (first | (with_reducible first | refine thenQ_n ?_ | refine blockQ_n ?_ | refine thenQ_e ?_ | refine blockQ_t ?_ | refine blockQ_f (by decide) ?_) | apply aw_seq | apply aw_skip | apply aw_exit | apply aw_ret | apply aw_block | apply aw_condT rfl | apply aw_condF rfl | ((first | refine aw_hide fun K hK => aw_region ?_ | refine acall0 (w1) ?_ | refine acall0 (w2) ?_ | refine acall0 (w3) ?_ | refine ago_if (by omega) ?_ | skip); simp (disch := first | exact okY | omega) only [ZU,Nat.reduceAdd,Nat.reduceMul,dI,AOpRun,aexec,D.isBot,↓eget_h,or_self,↓reduceIte,D.cells,Nat.reduceBEq,Int.reduceNeg,run1,↓hget_h,dB,ARun_some,AG_ft,Bool.and_false,AG_tt]) | subst hK))
    all_goals (refine end_q [] [] ?_ ?_ <;> repeat' (first | exact trivial | exact vr_val _))
theorem r3DownP_ac (c : Crf) (f : Fld) (p q w k : List (List D)) (o : Ps) : AC Tryz.prog 14 [.agg (inC c f p q w k),.agg (psL o)] [] [] (dB (poseDn c f o)) := by
  refine kref03_Air_Down.ac (n0 := 0) (by simp) ⟨.agg _ (wals_in (c := inC c f p q w k) rfl),.agg _ (wals_in (c := psL o) rfl),trivial⟩ trivial rfl ?_
  have w1 := r3Within_ac o.x 0 f.len
  unfold cref03_Air_Down inC psL poseDn
  cases q1 : wI o.x 0 f.len <;> cases q2 : decide (o.v ≤ c.tch) <;> cases q3 : decide (o.h = 0)
  all_goals
    rw [q1] at w1
    have q4 : (o.h == 0) = decide (o.h = 0) := rfl
    rw [q3] at q4
    (repeat' (first | (with_reducible first | refine thenQ_n ?_ | refine blockQ_n ?_ | refine thenQ_e ?_ | refine blockQ_t ?_ | refine blockQ_f (by decide) ?_) | apply aw_seq | apply aw_skip | apply aw_exit | apply aw_ret | apply aw_block | apply aw_condT rfl | apply aw_condF rfl | ((first | refine aw_hide fun K hK => aw_region ?_ | refine acall0 (w1) ?_ | refine ago_if (by omega) ?_ | skip); simp (disch := first | exact okY | omega) only [ZU,Nat.reduceAdd,Nat.reduceMul,dI,AOpRun,aexec,D.isBot,↓eget_h,or_self,↓reduceIte,D.cells,Nat.reduceBEq,run1,↓hget_h,isSh,abin,q4,ARun_some,AG_ft,dB,Bool.and_false,AG_tt,q2]) | subst hK))
    all_goals (refine end_q [] [] ?_ ?_ <;> repeat' (first | exact trivial | exact vr_val _))
end Go.Proofs.YtbncpngjclabhaaGreat
