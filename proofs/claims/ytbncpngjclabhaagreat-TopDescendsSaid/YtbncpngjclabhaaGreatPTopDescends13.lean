/- Texts of the law TopDescends, part 13. No conditions. -/
import Derived.Test.YtbncpngjclabhaaGreatPTopDescends12
import Derived.Test.YtbncpngjclabhaaGreatRows
set_option linter.unusedSimpArgs false
set_option linter.unusedVariables false
set_option maxRecDepth 100000
set_option maxHeartbeats 16000000
/- reference: layer 3's checks of a craft and of a field. Written by a program. No conditions. -/
namespace Go.Proofs.YtbncpngjclabhaaGreat
open Go Go.RowKit Lift

structure CrfIn (c : Crf) : Prop where
  rot : rotE c.r = 0
  b : crB c = true
  l1 : liesB c.r.c.x (0,c.top * c.un) = true
  l2 : liesB c.r.f.x (0,0) = true
theorem r3Craft_ac (c : Crf) (hs : RotSm c.r) : ∃ e : Int,AC Tryz.prog 50 [.agg (crfC c)] [] [] (dI e) ∧ (e = 0 → CrfIn c) := by
  have c1 := rCheck2_ac c.r hs
  by_cases h0 : rotE c.r = 0
  case neg =>
    refine ⟨rotE c.r,?_,fun h => absurd h h0⟩
    have q : (rotE c.r != 0) = true := by simpa using h0
    generalize rotE c.r = E at *
    refine kref03_checkCraft.ac (n0 := 0) (by simp) ⟨.agg _ (wals_in (c := crfC c) rfl),trivial⟩ trivial rfl ?_
    unfold cref03_checkCraft
    unfold crfC rotD rotC at *
    (repeat' (first | (with_reducible first | refine thenQ_n ?_ | refine blockQ_n ?_ | refine thenQ_e ?_ | refine blockQ_t ?_ | refine blockQ_f (by decide) ?_) | apply aw_seq | apply aw_skip | apply aw_exit | apply aw_ret | apply aw_block | apply aw_condT rfl | apply aw_condF rfl | ((first | refine aw_hide fun K hK => aw_region ?_ | refine acall0 (c1) ?_ | refine ago_if (by omega) ?_ | skip); simp (disch := first | exact okY | omega) only [ZU,Nat.reduceAdd,Nat.reduceMul,dI,AOpRun,aexec,D.isBot,↓eget_h,or_self,↓reduceIte,D.cells,Nat.reduceBEq,Nat.reduceLeDiff,List.drop,List.take,isSh,abin,q]) | subst hK))
    all_goals (refine end_q [] [] ?_ ?_ <;> repeat' (first | exact trivial | exact vr_val _))
  rw [h0] at c1
  have c1b := c1
  unfold rotD rotC at c1b
  have w1 := r3Within_ac (c.one) (0) (100)
  have w2 := r3Within_ac (c.un) (1) (1000)
  have w3 := r3Within_ac (c.st) (1) (1000)
  have w4 := r3Within_ac (c.top) (1) (6)
  have w5 := r3Within_ac (c.dr) (1) (3)
  have w6 := r3Within_ac (c.tch) (0) (c.top)
  have w7 := r3Within_ac (c.si) (1) (c.dr)
  cases q1 : wI (c.one) (0) (100) with
  | false =>
    refine ⟨30,?_,fun h => absurd h (by decide)⟩
    rw [q1] at w1
    refine kref03_checkCraft.ac (n0 := 0) (by simp) ⟨.agg _ (wals_in (c := crfC c) rfl),trivial⟩ trivial rfl ?_
    unfold cref03_checkCraft
    unfold crfC
    (repeat' (first | (with_reducible first | refine thenQ_n ?_ | refine blockQ_n ?_ | refine thenQ_e ?_ | refine blockQ_t ?_ | refine blockQ_f (by decide) ?_) | apply aw_seq | apply aw_skip | apply aw_exit | apply aw_ret | apply aw_block | apply aw_condT rfl | apply aw_condF rfl | ((first | refine aw_hide fun K hK => aw_region ?_ | refine acall0 (c1b) ?_ | refine acall0 (w1) ?_ | refine ago_if (by omega) ?_ | skip); simp (disch := first | exact okY | omega) only [ZU,Nat.reduceAdd,Nat.reduceMul,dI,AOpRun,aexec,D.isBot,↓eget_h,or_self,↓reduceIte,D.cells,Nat.reduceBEq,Nat.reduceLeDiff,List.drop,List.take,isSh,abin,bne_self_eq_false,run1,dB,ARun_some,AG_tf]) | subst hK))
    all_goals (refine end_q [] [] ?_ ?_ <;> repeat' (first | exact trivial | exact vr_val _))
  | true =>
  rw [q1] at w1
  cases q2 : wI (c.un) (1) (1000) with
  | false =>
    refine ⟨30,?_,fun h => absurd h (by decide)⟩
    rw [q2] at w2
    refine kref03_checkCraft.ac (n0 := 0) (by simp) ⟨.agg _ (wals_in (c := crfC c) rfl),trivial⟩ trivial rfl ?_
    unfold cref03_checkCraft
    unfold crfC
    (repeat' (first | (with_reducible first | refine thenQ_n ?_ | refine blockQ_n ?_ | refine thenQ_e ?_ | refine blockQ_t ?_ | refine blockQ_f (by decide) ?_) | apply aw_seq | apply aw_skip | apply aw_exit | apply aw_ret | apply aw_block | apply aw_condT rfl | apply aw_condF rfl | ((first | refine aw_hide fun K hK => aw_region ?_ | refine acall0 (c1b) ?_ | refine acall0 (w1) ?_ | refine acall0 (w2) ?_ | refine ago_if (by omega) ?_ | skip); simp (disch := first | exact okY | omega) only [ZU,Nat.reduceAdd,Nat.reduceMul,dI,AOpRun,aexec,D.isBot,↓eget_h,or_self,↓reduceIte,D.cells,Nat.reduceBEq,Nat.reduceLeDiff,List.drop,List.take,isSh,abin,bne_self_eq_false,run1,dB,ARun_some,AG_ff,AG_tf]) | subst hK))
    all_goals (refine end_q [] [] ?_ ?_ <;> repeat' (first | exact trivial | exact vr_val _))
  | true =>
  rw [q2] at w2
  cases q3 : wI (c.st) (1) (1000) with
  | false =>
    refine ⟨30,?_,fun h => absurd h (by decide)⟩
    rw [q3] at w3
    refine kref03_checkCraft.ac (n0 := 0) (by simp) ⟨.agg _ (wals_in (c := crfC c) rfl),trivial⟩ trivial rfl ?_
    unfold cref03_checkCraft
    unfold crfC
    (repeat' (first | (with_reducible first | refine thenQ_n ?_ | refine blockQ_n ?_ | refine thenQ_e ?_ | refine blockQ_t ?_ | refine blockQ_f (by decide) ?_) | apply aw_seq | apply aw_skip | apply aw_exit | apply aw_ret | apply aw_block | apply aw_condT rfl | apply aw_condF rfl | ((first | refine aw_hide fun K hK => aw_region ?_ | refine acall0 (c1b) ?_ | refine acall0 (w1) ?_ | refine acall0 (w2) ?_ | refine acall0 (w3) ?_ | refine ago_if (by omega) ?_ | skip); simp (disch := first | exact okY | omega) only [ZU,Nat.reduceAdd,Nat.reduceMul,dI,AOpRun,aexec,D.isBot,↓eget_h,or_self,↓reduceIte,D.cells,Nat.reduceBEq,Nat.reduceLeDiff,List.drop,List.take,isSh,abin,bne_self_eq_false,run1,dB,ARun_some,AG_ff,AG_tf]) | subst hK))
    all_goals (refine end_q [] [] ?_ ?_ <;> repeat' (first | exact trivial | exact vr_val _))
  | true =>
  rw [q3] at w3
  cases q4 : wI (c.top) (1) (6) with
  | false =>
    refine ⟨30,?_,fun h => absurd h (by decide)⟩
    rw [q4] at w4
    refine kref03_checkCraft.ac (n0 := 0) (by simp) ⟨.agg _ (wals_in (c := crfC c) rfl),trivial⟩ trivial rfl ?_
    unfold cref03_checkCraft
    unfold crfC
    (repeat' (first | (with_reducible first | refine thenQ_n ?_ | refine blockQ_n ?_ | refine thenQ_e ?_ | refine blockQ_t ?_ | refine blockQ_f (by decide) ?_) | apply aw_seq | apply aw_skip | apply aw_exit | apply aw_ret | apply aw_block | apply aw_condT rfl | apply aw_condF rfl | ((first | refine aw_hide fun K hK => aw_region ?_ | refine acall0 (c1b) ?_ | refine acall0 (w1) ?_ | refine acall0 (w2) ?_ | refine acall0 (w3) ?_ | refine acall0 (w4) ?_ | refine ago_if (by omega) ?_ | skip); simp (disch := first | exact okY | omega) only [ZU,Nat.reduceAdd,Nat.reduceMul,dI,AOpRun,aexec,D.isBot,↓eget_h,or_self,↓reduceIte,D.cells,Nat.reduceBEq,Nat.reduceLeDiff,List.drop,List.take,isSh,abin,bne_self_eq_false,run1,dB,ARun_some,AG_ff,AG_tf]) | subst hK))
    all_goals (refine end_q [] [] ?_ ?_ <;> repeat' (first | exact trivial | exact vr_val _))
  | true =>
  rw [q4] at w4
  cases q5 : wI (c.dr) (1) (3) with
  | false =>
    refine ⟨30,?_,fun h => absurd h (by decide)⟩
    rw [q5] at w5
    refine kref03_checkCraft.ac (n0 := 0) (by simp) ⟨.agg _ (wals_in (c := crfC c) rfl),trivial⟩ trivial rfl ?_
    unfold cref03_checkCraft
    unfold crfC
    (repeat' (first | (with_reducible first | refine thenQ_n ?_ | refine blockQ_n ?_ | refine thenQ_e ?_ | refine blockQ_t ?_ | refine blockQ_f (by decide) ?_) | apply aw_seq | apply aw_skip | apply aw_exit | apply aw_ret | apply aw_block | apply aw_condT rfl | apply aw_condF rfl | ((first | refine aw_hide fun K hK => aw_region ?_ | refine acall0 (c1b) ?_ | refine acall0 (w1) ?_ | refine acall0 (w2) ?_ | refine acall0 (w3) ?_ | refine acall0 (w4) ?_ | refine acall0 (w5) ?_ | refine ago_if (by omega) ?_ | skip); simp (disch := first | exact okY | omega) only [ZU,Nat.reduceAdd,Nat.reduceMul,dI,AOpRun,aexec,D.isBot,↓eget_h,or_self,↓reduceIte,D.cells,Nat.reduceBEq,Nat.reduceLeDiff,List.drop,List.take,isSh,abin,bne_self_eq_false,run1,dB,ARun_some,AG_ff,AG_tf]) | subst hK))
    all_goals (refine end_q [] [] ?_ ?_ <;> repeat' (first | exact trivial | exact vr_val _))
  | true =>
  rw [q5] at w5
  cases q6 : wI (c.tch) (0) (c.top) with
  | false =>
    refine ⟨30,?_,fun h => absurd h (by decide)⟩
    rw [q6] at w6
    refine kref03_checkCraft.ac (n0 := 0) (by simp) ⟨.agg _ (wals_in (c := crfC c) rfl),trivial⟩ trivial rfl ?_
    unfold cref03_checkCraft
    unfold crfC
    (repeat' (first | (with_reducible first | refine thenQ_n ?_ | refine blockQ_n ?_ | refine thenQ_e ?_ | refine blockQ_t ?_ | refine blockQ_f (by decide) ?_) | apply aw_seq | apply aw_skip | apply aw_exit | apply aw_ret | apply aw_block | apply aw_condT rfl | apply aw_condF rfl | ((first | refine aw_hide fun K hK => aw_region ?_ | refine acall0 (c1b) ?_ | refine acall0 (w1) ?_ | refine acall0 (w2) ?_ | refine acall0 (w3) ?_ | refine acall0 (w4) ?_ | refine acall0 (w5) ?_ | refine acall0 (w6) ?_ | refine ago_if (by omega) ?_ | skip); simp (disch := first | exact okY | omega) only [ZU,Nat.reduceAdd,Nat.reduceMul,dI,AOpRun,aexec,D.isBot,↓eget_h,or_self,↓reduceIte,D.cells,Nat.reduceBEq,Nat.reduceLeDiff,List.drop,List.take,isSh,abin,bne_self_eq_false,run1,dB,ARun_some,AG_ff,AG_tf]) | subst hK))
    all_goals (refine end_q [] [] ?_ ?_ <;> repeat' (first | exact trivial | exact vr_val _))
  | true =>
  rw [q6] at w6
  cases q7 : wI (c.si) (1) (c.dr) with
  | false =>
    refine ⟨30,?_,fun h => absurd h (by decide)⟩
    rw [q7] at w7
    refine kref03_checkCraft.ac (n0 := 0) (by simp) ⟨.agg _ (wals_in (c := crfC c) rfl),trivial⟩ trivial rfl ?_
    unfold cref03_checkCraft
    unfold crfC
    (repeat' (first | (with_reducible first | refine thenQ_n ?_ | refine blockQ_n ?_ | refine thenQ_e ?_ | refine blockQ_t ?_ | refine blockQ_f (by decide) ?_) | apply aw_seq | apply aw_skip | apply aw_exit | apply aw_ret | apply aw_block | apply aw_condT rfl | apply aw_condF rfl | ((first | refine aw_hide fun K hK => aw_region ?_ | refine acall0 (c1b) ?_ | refine acall0 (w1) ?_ | refine acall0 (w2) ?_ | refine acall0 (w3) ?_ | refine acall0 (w4) ?_ | refine acall0 (w5) ?_ | refine acall0 (w6) ?_ | refine acall0 (w7) ?_ | refine ago_if (by omega) ?_ | skip); simp (disch := first | exact okY | omega) only [ZU,Nat.reduceAdd,Nat.reduceMul,dI,AOpRun,aexec,D.isBot,↓eget_h,or_self,↓reduceIte,D.cells,Nat.reduceBEq,Nat.reduceLeDiff,List.drop,List.take,isSh,abin,bne_self_eq_false,run1,dB,ARun_some,AG_ff]) | subst hK))
    all_goals (refine end_q [] [] ?_ ?_ <;> repeat' (first | exact trivial | exact vr_val _))
  | true =>
  rw [q7] at w7
  have hb : crB c = true := by simp only [crB,q1,q2,q3,q4,q5,q6,q7,Bool.and_self]
  have tu := topUn (crB_in hb)
  have tc := lim_len ((rotE_is h0).lim 2 (by omega))
  have tf := lim_len ((rotE_is h0).lim 5 (by omega))
  have b1 := between_ac c.r.c.x (0,c.top * c.un) (Nat.le_trans (by omega) tc.1) (Nat.le_trans tc.2.1 (by omega))
  have b2 := between_ac c.r.f.x (0,0) (Nat.le_trans (by omega) tf.1) (Nat.le_trans tf.2.1 (by omega))
  have o1 := r3One_ac 0
  have hfin : liesB c.r.c.x (0,c.top * c.un) = true → liesB c.r.f.x (0,0) = true → CrfIn c := fun h1 h2 => ⟨h0,hb,h1,h2⟩
  unfold spD at b1 b2
  clear tc tf
  generalize hT : c.top * c.un = T at *
  cases q8 : liesB c.r.c.x (0,T) with
  | false =>
    refine ⟨30,?_,fun h => absurd h (by decide)⟩
    rw [q8] at b1
    refine kref03_checkCraft.ac (n0 := 0) (by simp) ⟨.agg _ (wals_in (c := crfC c) rfl),trivial⟩ trivial rfl ?_
    unfold cref03_checkCraft
    unfold crfC
    (repeat' (first | (with_reducible first | refine thenQ_n ?_ | refine blockQ_n ?_ | refine thenQ_e ?_ | refine blockQ_t ?_ | refine blockQ_f (by decide) ?_) | apply aw_seq | apply aw_skip | apply aw_exit | apply aw_ret | apply aw_block | apply aw_condT rfl | apply aw_condF rfl | ((first | refine aw_hide fun K hK => aw_region ?_ | refine acall0 (c1b) ?_ | refine acall0 (w1) ?_ | refine acall0 (w2) ?_ | refine acall0 (w3) ?_ | refine acall0 (w4) ?_ | refine acall0 (w5) ?_ | refine acall0 (w6) ?_ | refine acall0 (w7) ?_ | refine acall0 (b1) ?_ | refine ago_if (by omega) ?_ | skip); simp (disch := first | exact okY | omega) only [ZU,Nat.reduceAdd,Nat.reduceMul,dI,AOpRun,aexec,D.isBot,↓eget_h,or_self,↓reduceIte,D.cells,Nat.reduceBEq,Nat.reduceLeDiff,List.drop,List.take,isSh,abin,bne_self_eq_false,run1,dB,ARun_some,AG_ff,hT,fits,fillD,ne_eq,not_true_eq_false,Nat.reduceGT,splice,AG_tf]) | subst hK))
    all_goals (refine end_q [] [] ?_ ?_ <;> repeat' (first | exact trivial | exact vr_val _))
  | true =>
  rw [q8] at b1
  cases q9 : liesB c.r.f.x (0,0) with
  | false =>
    refine ⟨30,?_,fun h => absurd h (by decide)⟩
    rw [q9] at b2
    refine kref03_checkCraft.ac (n0 := 0) (by simp) ⟨.agg _ (wals_in (c := crfC c) rfl),trivial⟩ trivial rfl ?_
    unfold cref03_checkCraft
    unfold crfC
    (repeat' (first | (with_reducible first | refine thenQ_n ?_ | refine blockQ_n ?_ | refine thenQ_e ?_ | refine blockQ_t ?_ | refine blockQ_f (by decide) ?_) | apply aw_seq | apply aw_skip | apply aw_exit | apply aw_ret | apply aw_block | apply aw_condT rfl | apply aw_condF rfl | ((first | refine aw_hide fun K hK => aw_region ?_ | refine acall0 (c1b) ?_ | refine acall0 (w1) ?_ | refine acall0 (w2) ?_ | refine acall0 (w3) ?_ | refine acall0 (w4) ?_ | refine acall0 (w5) ?_ | refine acall0 (w6) ?_ | refine acall0 (w7) ?_ | refine acall0 (b1) ?_ | refine acall0 (o1) ?_ | refine acall0 (b2) ?_ | refine ago_if (by omega) ?_ | skip); simp (disch := first | exact okY | omega) only [ZU,Nat.reduceAdd,Nat.reduceMul,dI,AOpRun,aexec,D.isBot,↓eget_h,or_self,↓reduceIte,D.cells,Nat.reduceBEq,Nat.reduceLeDiff,List.drop,List.take,isSh,abin,bne_self_eq_false,run1,dB,ARun_some,AG_ff,hT,fits,fillD,ne_eq,not_true_eq_false,Nat.reduceGT,splice]) | subst hK))
    all_goals (refine end_q [] [] ?_ ?_ <;> repeat' (first | exact trivial | exact vr_val _))
  | true =>
    refine ⟨0,?_,fun _ => hfin q8 q9⟩
    rw [q9] at b2
    refine kref03_checkCraft.ac (n0 := 0) (by simp) ⟨.agg _ (wals_in (c := crfC c) rfl),trivial⟩ trivial rfl ?_
    unfold cref03_checkCraft
    unfold crfC
    (repeat' (first | (with_reducible first | refine thenQ_n ?_ | refine blockQ_n ?_ | refine thenQ_e ?_ | refine blockQ_t ?_ | refine blockQ_f (by decide) ?_) | apply aw_seq | apply aw_skip | apply aw_exit | apply aw_ret | apply aw_block | apply aw_condT rfl | apply aw_condF rfl | ((first | refine aw_hide fun K hK => aw_region ?_ | refine acall0 (c1b) ?_ | refine acall0 (w1) ?_ | refine acall0 (w2) ?_ | refine acall0 (w3) ?_ | refine acall0 (w4) ?_ | refine acall0 (w5) ?_ | refine acall0 (w6) ?_ | refine acall0 (w7) ?_ | refine acall0 (b1) ?_ | refine acall0 (o1) ?_ | refine acall0 (b2) ?_ | refine ago_if (by omega) ?_ | skip); simp (disch := first | exact okY | omega) only [ZU,Nat.reduceAdd,Nat.reduceMul,dI,AOpRun,aexec,D.isBot,↓eget_h,or_self,↓reduceIte,D.cells,Nat.reduceBEq,Nat.reduceLeDiff,List.drop,List.take,isSh,abin,bne_self_eq_false,run1,dB,ARun_some,AG_ff,hT,fits,fillD,ne_eq,not_true_eq_false,Nat.reduceGT,splice]) | subst hK))
    all_goals (refine end_q [] [] ?_ ?_ <;> repeat' (first | exact trivial | exact vr_val _))
end Go.Proofs.YtbncpngjclabhaaGreat
/- reference: layer 3's check of a field. No conditions. -/
namespace Go.Proofs.YtbncpngjclabhaaGreat
open Go Go.RowKit Lift

def fldE (f : Fld) : Int := if wI f.len 0 40 = true then if wI f.cl 1 12 = true then if wI f.sf 0 6 = true then if f.hd.length ≤ 6 then if f.hd.any badH = true then 31 else 0 else 31 else 31 else 31 else 31
theorem fldE_ok {f : Fld} (h : fldE f = 0) : FldOk f := by
  unfold fldE at h
  by_cases h1 : wI f.len 0 40 = true
  case neg => rw [if_neg h1] at h; cases h
  rw [if_pos h1] at h
  by_cases h2 : wI f.cl 1 12 = true
  case neg => rw [if_neg h2] at h; cases h
  rw [if_pos h2] at h
  by_cases h3 : wI f.sf 0 6 = true
  case neg => rw [if_neg h3] at h; cases h
  rw [if_pos h3] at h
  by_cases h4 : f.hd.length ≤ 6
  case neg => rw [if_neg h4] at h; cases h
  rw [if_pos h4] at h
  by_cases h5 : f.hd.any badH = true
  case pos => rw [if_pos h5] at h; cases h
  exact ⟨h1,h2,h3,h4,by simpa using h5⟩
theorem r3Field_ac (f : Fld) : AC Tryz.prog 29 [.agg (fldC f)] [] [] (dI (fldE f)) := by
  refine kref03_checkField.ac (n0 := 0) (by simp) ⟨.agg _ (wals_in (c := fldC f) rfl),trivial⟩ trivial rfl ?_
  have w1 := r3Within_ac f.len 0 40
  have w2 := r3Within_ac f.cl 1 12
  have w3 := r3Within_ac f.sf 0 6
  have sl := sps_len f.hd
  have sa := sps_all f.hd
  unfold fldE cref03_checkField
  unfold fldC
  cases q1 : wI f.len 0 40 with
  | false =>
    rw [q1] at w1
    simp only [Bool.false_eq_true,if_false]
    (repeat' (first | (with_reducible first | refine thenQ_n ?_ | refine blockQ_n ?_ | refine thenQ_e ?_ | refine blockQ_t ?_ | refine blockQ_f (by decide) ?_) | apply aw_seq | apply aw_skip | apply aw_exit | apply aw_ret | apply aw_block | apply aw_condT rfl | apply aw_condF rfl | ((first | refine aw_hide fun K hK => aw_region ?_ | refine acall0 (w1) ?_ | refine ago_if (by omega) ?_ | skip); simp (disch := first | exact okY | omega) only [ZU,Nat.reduceAdd,Nat.reduceMul,dI,AOpRun,aexec,D.isBot,↓eget_h,or_self,↓reduceIte,D.cells,Nat.reduceBEq,run1,dB,ARun_some,AG_tf]) | subst hK))
    all_goals (refine end_q [] [] ?_ ?_ <;> repeat' (first | exact trivial | exact vr_val _))
  | true =>
  rw [q1] at w1
  cases q2 : wI f.cl 1 12 with
  | false =>
    rw [q2] at w2
    simp only [Bool.false_eq_true,if_false,if_true]
    (repeat' (first | (with_reducible first | refine thenQ_n ?_ | refine blockQ_n ?_ | refine thenQ_e ?_ | refine blockQ_t ?_ | refine blockQ_f (by decide) ?_) | apply aw_seq | apply aw_skip | apply aw_exit | apply aw_ret | apply aw_block | apply aw_condT rfl | apply aw_condF rfl | ((first | refine aw_hide fun K hK => aw_region ?_ | refine acall0 (w1) ?_ | refine acall0 (w2) ?_ | refine ago_if (by omega) ?_ | skip); simp (disch := first | exact okY | omega) only [ZU,Nat.reduceAdd,Nat.reduceMul,dI,AOpRun,aexec,D.isBot,↓eget_h,or_self,↓reduceIte,D.cells,Nat.reduceBEq,run1,dB,ARun_some,AG_ff,AG_tf]) | subst hK))
    all_goals (refine end_q [] [] ?_ ?_ <;> repeat' (first | exact trivial | exact vr_val _))
  | true =>
  rw [q2] at w2
  cases q3 : wI f.sf 0 6 with
  | false =>
    rw [q3] at w3
    simp only [Bool.false_eq_true,if_false,if_true]
    (repeat' (first | (with_reducible first | refine thenQ_n ?_ | refine blockQ_n ?_ | refine thenQ_e ?_ | refine blockQ_t ?_ | refine blockQ_f (by decide) ?_) | apply aw_seq | apply aw_skip | apply aw_exit | apply aw_ret | apply aw_block | apply aw_condT rfl | apply aw_condF rfl | ((first | refine aw_hide fun K hK => aw_region ?_ | refine acall0 (w1) ?_ | refine acall0 (w2) ?_ | refine acall0 (w3) ?_ | refine ago_if (by omega) ?_ | skip); simp (disch := first | exact okY | omega) only [ZU,Nat.reduceAdd,Nat.reduceMul,dI,AOpRun,aexec,D.isBot,↓eget_h,or_self,↓reduceIte,D.cells,Nat.reduceBEq,run1,dB,ARun_some,AG_ff,AG_tf]) | subst hK))
    all_goals (refine end_q [] [] ?_ ?_ <;> repeat' (first | exact trivial | exact vr_val _))
  | true =>
  rw [q3] at w3
  simp only [if_true]
  by_cases h4 : f.hd.length ≤ 6
  case neg =>
    have q6 : decide ((f.hd.length : Int) > 6) = true := decide_eq_true (by omega)
    rw [if_neg h4]
    (repeat' (first | (with_reducible first | refine thenQ_n ?_ | refine blockQ_n ?_ | refine thenQ_e ?_ | refine blockQ_t ?_ | refine blockQ_f (by decide) ?_) | apply aw_seq | apply aw_skip | apply aw_exit | apply aw_ret | apply aw_block | apply aw_condT rfl | apply aw_condF rfl | ((first | refine aw_hide fun K hK => aw_region ?_ | refine acall0 (w1) ?_ | refine acall0 (w2) ?_ | refine acall0 (w3) ?_ | refine ago_if (by omega) ?_ | skip); simp (disch := first | exact okY | omega) only [ZU,Nat.reduceAdd,Nat.reduceMul,dI,AOpRun,aexec,D.isBot,↓eget_h,or_self,↓reduceIte,D.cells,Nat.reduceBEq,run1,dB,ARun_some,AG_ff,sl,isSh,abin,q6]) | subst hK))
    all_goals (refine end_q [] [] ?_ ?_ <;> repeat' (first | exact trivial | exact vr_val _))
  have q6 : decide ((f.hd.length : Int) > 6) = false := decide_eq_false (by omega)
  rw [if_pos h4]
  obtain ⟨E,hE⟩ : ∃ E,(if f.hd.any badH = true then (31 : Int) else 0) = E := ⟨_,rfl⟩
  rw [hE]
  (repeat' (first | (with_reducible first | refine thenQ_n ?_ | refine blockQ_n ?_ | refine thenQ_e ?_ | refine blockQ_t ?_ | refine blockQ_f (by decide) ?_) | apply aw_seq | apply aw_skip | apply aw_exit | apply aw_ret | apply aw_block | apply aw_condT rfl | apply aw_condF rfl | ((first | refine aw_hide fun K hK => aw_region ?_ | refine acall0 (w1) ?_ | refine acall0 (w2) ?_ | refine acall0 (w3) ?_ | refine ago_if (by omega) ?_ | skip); simp (disch := first | exact okY | omega) only [ZU,Nat.reduceAdd,Nat.reduceMul,dI,AOpRun,aexec,D.isBot,↓eget_h,or_self,↓reduceIte,D.cells,Nat.reduceBEq,run1,dB,ARun_some,AG_ff,sl,isSh,abin,q6,Int.reduceNeg]) | subst hK))
  clear w1 w2 w3
  refine aw_loop (fun k : Nat => ⟨[(1,.ptr 0 0),(3,dI k)],[(0,[dI f.len,dI f.cl,dI f.sf,.list (sps f.hd)])],600⟩) (fun k => k ≤ f.hd.length ∧ ∀ j,j < k → badH (f.hd[j]?.getD (0,0)) = false) (fun k => f.hd.length - k) ⟨0,⟨by omega,fun j hj => by omega⟩,?_⟩ ?_
  · unfold dI
    refine wk_q [] [(0,0)] ?_ ?_ <;> repeat' (first | exact trivial | exact vr_val _ | exact vr_list _ | exact vr_ptr _ _ _ rfl | refine And.intro ⟨_,rfl,.inl ⟨_,rfl,by decide,?_⟩⟩ ?_ | apply And.intro)
  rintro k ⟨hk,hin⟩
  by_cases hk2 : k < f.hd.length
  case neg =>
    obtain rfl : k = f.hd.length := by omega
    have ea : f.hd.any badH = false := by
      rw [List.any_eq_false]
      intro x hx
      obtain ⟨j,hj,rfl⟩ := List.getElem_of_mem hx
      have := hin j hj
      simpa [hj] using this
    rw [ea] at hE
    simp only [Bool.false_eq_true,if_false] at hE
    subst hE
    (have hg : (987654321 : Nat) - 987654321 = 0 := rfl; have hr := hg; repeat' (first | (with_reducible first | refine thenQ_n ?_ | refine blockQ_n ?_ | refine thenQ_e ?_ | refine blockQ_t ?_ | refine blockQ_f (by decide) ?_) | apply aw_seq | apply aw_skip | apply aw_exit | apply aw_ret | apply aw_block | apply aw_condT rfl | apply aw_condF rfl | (refine aw_cond rfl (fun hg => ?_) (fun hg => ?_) <;> (try (have hq := hg; simp only [Bool.not_eq_true',Bool.not_eq_false',Bool.and_eq_true,Bool.and_eq_false_iff,Bool.or_eq_true,Bool.or_eq_false_iff,decide_eq_true_eq,decide_eq_false_iff_not,bne_iff_ne,beq_iff_eq,beq_eq_false_iff_ne,bne_eq_false_iff_eq,ne_eq,Int.not_lt,Int.not_le,Decidable.not_not] at hq)) <;> (try (have hr := hg; simp only [decide_eq_true_eq,decide_eq_false_iff_not] at hr)) <;> (try (exfalso; omega))) | ((first | refine aw_hide fun K hK => aw_region ?_ | refine ago_if (by omega) ?_ | skip); simp (disch := first | exact okY | omega) only [ZU,Nat.reduceAdd,Nat.reduceMul,dI,AOpRun,aexec,Nat.reduceBEq,↓eget_h,run1,sl,isSh,↓reduceIte,abin,hr,decide_false]) | subst hK))
    all_goals (refine end_q [] [] ?_ ?_ <;> repeat' (first | exact trivial | exact vr_val _))
  have g1 := sps_gd2 f.hd k hk2
  have w4 := r3Within_ac (f.hd[k]?.getD (0,0)).1 (-40) 40
  have w5 := r3Within_ac (f.hd[k]?.getD (0,0)).2 1 12
  have hbd : badH (f.hd[k]?.getD (0,0)) = (!(wI (f.hd[k]?.getD (0,0)).1 (-40) 40) || !(wI (f.hd[k]?.getD (0,0)).2 1 12)) := rfl
  have ki : (k : Int) < (f.hd.length : Int) := by omega
  have hany : badH (f.hd[k]?.getD (0,0)) = true → f.hd.any badH = true := fun h => by
    rw [List.any_eq_true]
    refine ⟨f.hd[k],List.getElem_mem hk2,?_⟩
    simpa [hk2] using h
  cases q7 : wI (f.hd[k]?.getD (0,0)).1 (-40) 40 with
  | false =>
    rw [q7] at w4 hbd
    rw [hany (by rw [hbd]; rfl)] at hE
    simp only [if_true] at hE
    subst hE
    clear hbd hany hin
    generalize (f.hd[k]?.getD (0,0)) = x at *
    (repeat' (first | (with_reducible first | refine thenQ_n ?_ | refine blockQ_n ?_ | refine thenQ_e ?_ | refine blockQ_t ?_ | refine blockQ_f (by decide) ?_) | apply aw_seq | apply aw_skip | apply aw_exit | apply aw_ret | apply aw_block | apply aw_condT rfl | apply aw_condF rfl | ((first | refine aw_hide fun K hK => aw_region ?_ | refine acall0 (w4) ?_ | refine ago_if (by omega) ?_ | skip); simp (disch := first | exact okY | omega) only [ZU,Nat.reduceAdd,Nat.reduceMul,dI,AOpRun,aexec,Nat.reduceBEq,↓eget_h,run1,sl,isSh,↓reduceIte,abin,ki,Int.reduceNeg,sa,opt1,g1,List.drop,dB,ARun_some,AG_tf,blockQ]) | subst hK))
    all_goals (refine end_q [] [] ?_ ?_ <;> repeat' (first | exact trivial | exact vr_val _))
  | true =>
  rw [q7] at w4 hbd
  cases q8 : wI (f.hd[k]?.getD (0,0)).2 1 12 with
  | false =>
    rw [q8] at w5 hbd
    rw [hany (by rw [hbd]; rfl)] at hE
    simp only [if_true] at hE
    subst hE
    clear hbd hany hin
    generalize (f.hd[k]?.getD (0,0)) = x at *
    (repeat' (first | (with_reducible first | refine thenQ_n ?_ | refine blockQ_n ?_ | refine thenQ_e ?_ | refine blockQ_t ?_ | refine blockQ_f (by decide) ?_) | apply aw_seq | apply aw_skip | apply aw_exit | apply aw_ret | apply aw_block | apply aw_condT rfl | apply aw_condF rfl | ((first | refine aw_hide fun K hK => aw_region ?_ | refine acall0 (w4) ?_ | refine acall0 (w5) ?_ | refine ago_if (by omega) ?_ | skip); simp (disch := first | exact okY | omega) only [ZU,Nat.reduceAdd,Nat.reduceMul,dI,AOpRun,aexec,Nat.reduceBEq,↓eget_h,run1,sl,isSh,↓reduceIte,abin,ki,Int.reduceNeg,sa,opt1,g1,List.drop,dB,ARun_some,AG_ff,blockQ]) | subst hK))
    all_goals (refine end_q [] [] ?_ ?_ <;> repeat' (first | exact trivial | exact vr_val _))
  | true =>
    rw [q8] at w5 hbd
    have hgud : ∀ j,j < k + 1 → badH (f.hd[j]?.getD (0,0)) = false := fun j hj => by
      rcases (by omega : j < k ∨ j = k) with h | rfl
      · exact hin j h
      · rw [hbd]; rfl
    clear hbd hany hin q7 q8
    generalize f.hd[k]?.getD (0,0) = x at g1 w4 w5
    (repeat' (first | (with_reducible first | refine thenQ_n ?_ | refine blockQ_n ?_ | refine thenQ_e ?_ | refine blockQ_t ?_ | refine blockQ_f (by decide) ?_) | apply aw_seq | apply aw_skip | apply aw_exit | apply aw_ret | apply aw_block | apply aw_condT rfl | apply aw_condF rfl | ((first | refine aw_hide fun K hK => aw_region ?_ | refine acall0 (w4) ?_ | refine acall0 (w5) ?_ | refine ago_if (by omega) ?_ | skip); simp (disch := first | exact okY | omega) only [ZU,Nat.reduceAdd,Nat.reduceMul,dI,AOpRun,aexec,Nat.reduceBEq,↓eget_h,run1,sl,isSh,↓reduceIte,abin,ki,Int.reduceNeg,sa,opt1,g1,List.drop,dB,ARun_some,AG_ff,fits]) | subst hK))
    refine ⟨k + 1,⟨by omega,hgud⟩,by omega,?_⟩
    try unfold dI
    refine wk_q [] [(0,0)] ?_ ?_ <;> repeat' (first | exact trivial | exact vr_val _ | exact vr_list _ | exact vr_ptr _ _ _ rfl | refine And.intro ⟨_,rfl,.inl ⟨_,rfl,by decide,?_⟩⟩ ?_ | apply And.intro)
end Go.Proofs.YtbncpngjclabhaaGreat
/- reference: layer 3's check of an air and of all. No conditions. -/
namespace Go.Proofs.YtbncpngjclabhaaGreat
open Go Go.RowKit Lift

theorem r3Air_ac (c : Crf) (a : Air) (hs : RotSm c.r) : ∃ e : Int,AC Tryz.prog 28 [.agg (crfC c),airD a] [] [] (dI e) ∧ (e = 0 → CrOk c a) := by
  obtain ⟨e0,c1,hc⟩ := r3Craft_ac c hs
  by_cases h0 : e0 = 0
  case neg =>
    refine ⟨e0,?_,fun h => absurd h h0⟩
    have q : (e0 != 0) = true := by simpa using h0
    refine kref03_CheckAir.ac (n0 := 0) (by simp) ⟨.agg _ (wals_in (c := crfC c) rfl),in_airD _ _,trivial⟩ trivial rfl ?_
    unfold cref03_CheckAir
    unfold crfC airD airC at *
    (repeat' (first | (with_reducible first | refine thenQ_n ?_ | refine blockQ_n ?_ | refine thenQ_e ?_ | refine blockQ_t ?_ | refine blockQ_f (by decide) ?_) | apply aw_seq | apply aw_skip | apply aw_exit | apply aw_ret | apply aw_block | apply aw_condT rfl | apply aw_condF rfl | ((first | refine aw_hide fun K hK => aw_region ?_ | refine acall0 (c1) ?_ | refine ago_if (by omega) ?_ | skip); simp (disch := first | exact okY | omega) only [ZU,Nat.reduceAdd,Nat.reduceMul,dI,AOpRun,aexec,D.isBot,↓eget_h,or_self,↓reduceIte,D.cells,Nat.reduceBEq,Nat.reduceLeDiff,List.drop,List.take,isSh,abin,q]) | subst hK))
    all_goals (refine end_q [] [] ?_ ?_ <;> repeat' (first | exact trivial | exact vr_val _))
  have hi := hc h0
  subst h0
  have c2 := rAir_ac c.r a hs
  by_cases h0 : airB a = true
  case neg =>
    have e1 : airE c.r a = 21 := by unfold airE; rw [if_pos hi.rot,if_neg h0]
    rw [e1] at c2
    refine ⟨21,?_,fun h => absurd h (by decide)⟩
    clear hi hc
    refine kref03_CheckAir.ac (n0 := 0) (by simp) ⟨.agg _ (wals_in (c := crfC c) rfl),in_airD _ _,trivial⟩ trivial rfl ?_
    unfold cref03_CheckAir
    unfold crfC rotD rotC airD airC at *
    (repeat' (first | (with_reducible first | refine thenQ_n ?_ | refine blockQ_n ?_ | refine thenQ_e ?_ | refine blockQ_t ?_ | refine blockQ_f (by decide) ?_) | apply aw_seq | apply aw_skip | apply aw_exit | apply aw_ret | apply aw_block | apply aw_condT rfl | apply aw_condF rfl | ((first | refine aw_hide fun K hK => aw_region ?_ | refine acall0 (c1) ?_ | refine acall0 (c2) ?_ | refine ago_if (by omega) ?_ | skip); simp (disch := first | exact okY | omega) only [ZU,Nat.reduceAdd,Nat.reduceMul,dI,AOpRun,aexec,D.isBot,↓eget_h,or_self,↓reduceIte,D.cells,Nat.reduceBEq,Nat.reduceLeDiff,List.drop,List.take,isSh,abin,bne_self_eq_false,↓hget_h,Int.reduceBNe]) | subst hK))
    all_goals (refine end_q [] [] ?_ ?_ <;> repeat' (first | exact trivial | exact vr_val _))
  have e1 : airE c.r a = 0 := by unfold airE; rw [if_pos hi.rot,if_pos h0]
  rw [e1] at c2
  have t3 := lim_len ((rotE_is hi.rot).lim 3 (by omega))
  have t2 := lim_len ((rotE_is hi.rot).lim 2 (by omega))
  have t5 := lim_len ((rotE_is hi.rot).lim 5 (by omega))
  have b1 := between_ac c.r.d.x a.t (Nat.le_trans (by omega) t3.1) (Nat.le_trans t3.2.1 (by omega))
  have b2 := between_ac c.r.d.y a.h (Nat.le_trans (by omega) t3.2.2.1) (Nat.le_trans t3.2.2.2 (by omega))
  have b3 := between_ac c.r.c.y a.w (Nat.le_trans (by omega) t2.2.2.1) (Nat.le_trans t2.2.2.2 (by omega))
  have b4 := between_ac c.r.f.y a.w (Nat.le_trans (by omega) t5.2.2.1) (Nat.le_trans t5.2.2.2 (by omega))
  have hfin : liesB c.r.d.x a.t = true → liesB c.r.d.y a.h = true → liesB c.r.c.y a.w = true → liesB c.r.f.y a.w = true → CrOk c a := fun h1 h2 h3 h4 => ⟨hs,hi.rot,hi.b,hi.l1,hi.l2,h0,h1,h2,h3,h4⟩
  clear t2 t3 t5 hi hc h0 e1
  unfold spD at b1 b2 b3 b4
  cases q1 : liesB c.r.d.x a.t with
  | false =>
    refine ⟨1,?_,fun h => absurd h (by decide)⟩
    rw [q1] at b1
    clear hfin
    refine kref03_CheckAir.ac (n0 := 0) (by simp) ⟨.agg _ (wals_in (c := crfC c) rfl),in_airD _ _,trivial⟩ trivial rfl ?_
    unfold cref03_CheckAir
    unfold crfC rotD rotC airD airC at *
    (repeat' (first | (with_reducible first | refine thenQ_n ?_ | refine blockQ_n ?_ | refine thenQ_e ?_ | refine blockQ_t ?_ | refine blockQ_f (by decide) ?_) | apply aw_seq | apply aw_skip | apply aw_exit | apply aw_ret | apply aw_block | apply aw_condT rfl | apply aw_condF rfl | ((first | refine aw_hide fun K hK => aw_region ?_ | refine acall0 (c1) ?_ | refine acall0 (c2) ?_ | refine acall0 (b1) ?_ | refine ago_if (by omega) ?_ | skip); simp (disch := first | exact okY | omega) only [ZU,Nat.reduceAdd,Nat.reduceMul,dI,AOpRun,aexec,D.isBot,↓eget_h,or_self,↓reduceIte,D.cells,Nat.reduceBEq,Nat.reduceLeDiff,List.drop,List.take,isSh,abin,bne_self_eq_false,↓hget_h,List.all,D.leaf,splice,run1,dB,ARun_some,AG_tf]) | subst hK))
    all_goals (refine end_q [] [] ?_ ?_ <;> repeat' (first | exact trivial | exact vr_val _))
  | true =>
  rw [q1] at b1
  cases q2 : liesB c.r.d.y a.h with
  | false =>
    refine ⟨1,?_,fun h => absurd h (by decide)⟩
    rw [q2] at b2
    clear hfin
    refine kref03_CheckAir.ac (n0 := 0) (by simp) ⟨.agg _ (wals_in (c := crfC c) rfl),in_airD _ _,trivial⟩ trivial rfl ?_
    unfold cref03_CheckAir
    unfold crfC rotD rotC airD airC at *
    (repeat' (first | (with_reducible first | refine thenQ_n ?_ | refine blockQ_n ?_ | refine thenQ_e ?_ | refine blockQ_t ?_ | refine blockQ_f (by decide) ?_) | apply aw_seq | apply aw_skip | apply aw_exit | apply aw_ret | apply aw_block | apply aw_condT rfl | apply aw_condF rfl | ((first | refine aw_hide fun K hK => aw_region ?_ | refine acall0 (c1) ?_ | refine acall0 (c2) ?_ | refine acall0 (b1) ?_ | refine acall0 (b2) ?_ | refine ago_if (by omega) ?_ | skip); simp (disch := first | exact okY | omega) only [ZU,Nat.reduceAdd,Nat.reduceMul,dI,AOpRun,aexec,D.isBot,↓eget_h,or_self,↓reduceIte,D.cells,Nat.reduceBEq,Nat.reduceLeDiff,List.drop,List.take,isSh,abin,bne_self_eq_false,↓hget_h,List.all,D.leaf,splice,run1,dB,ARun_some,AG_ff,AG_tf]) | subst hK))
    all_goals (refine end_q [] [] ?_ ?_ <;> repeat' (first | exact trivial | exact vr_val _))
  | true =>
  rw [q2] at b2
  cases q3 : liesB c.r.c.y a.w with
  | false =>
    refine ⟨1,?_,fun h => absurd h (by decide)⟩
    rw [q3] at b3
    clear hfin
    refine kref03_CheckAir.ac (n0 := 0) (by simp) ⟨.agg _ (wals_in (c := crfC c) rfl),in_airD _ _,trivial⟩ trivial rfl ?_
    unfold cref03_CheckAir
    unfold crfC rotD rotC airD airC at *
    (repeat' (first | (with_reducible first | refine thenQ_n ?_ | refine blockQ_n ?_ | refine thenQ_e ?_ | refine blockQ_t ?_ | refine blockQ_f (by decide) ?_) | apply aw_seq | apply aw_skip | apply aw_exit | apply aw_ret | apply aw_block | apply aw_condT rfl | apply aw_condF rfl | ((first | refine aw_hide fun K hK => aw_region ?_ | refine acall0 (c1) ?_ | refine acall0 (c2) ?_ | refine acall0 (b1) ?_ | refine acall0 (b2) ?_ | refine acall0 (b3) ?_ | refine ago_if (by omega) ?_ | skip); simp (disch := first | exact okY | omega) only [ZU,Nat.reduceAdd,Nat.reduceMul,dI,AOpRun,aexec,D.isBot,↓eget_h,or_self,↓reduceIte,D.cells,Nat.reduceBEq,Nat.reduceLeDiff,List.drop,List.take,isSh,abin,bne_self_eq_false,↓hget_h,List.all,D.leaf,splice,run1,dB,ARun_some,AG_ff,AG_tf]) | subst hK))
    all_goals (refine end_q [] [] ?_ ?_ <;> repeat' (first | exact trivial | exact vr_val _))
  | true =>
  rw [q3] at b3
  cases q4 : liesB c.r.f.y a.w with
  | false =>
    refine ⟨1,?_,fun h => absurd h (by decide)⟩
    rw [q4] at b4
    clear hfin
    refine kref03_CheckAir.ac (n0 := 0) (by simp) ⟨.agg _ (wals_in (c := crfC c) rfl),in_airD _ _,trivial⟩ trivial rfl ?_
    unfold cref03_CheckAir
    unfold crfC rotD rotC airD airC at *
    (repeat' (first | (with_reducible first | refine thenQ_n ?_ | refine blockQ_n ?_ | refine thenQ_e ?_ | refine blockQ_t ?_ | refine blockQ_f (by decide) ?_) | apply aw_seq | apply aw_skip | apply aw_exit | apply aw_ret | apply aw_block | apply aw_condT rfl | apply aw_condF rfl | ((first | refine aw_hide fun K hK => aw_region ?_ | refine acall0 (c1) ?_ | refine acall0 (c2) ?_ | refine acall0 (b1) ?_ | refine acall0 (b2) ?_ | refine acall0 (b3) ?_ | refine acall0 (b4) ?_ | refine ago_if (by omega) ?_ | skip); simp (disch := first | exact okY | omega) only [ZU,Nat.reduceAdd,Nat.reduceMul,dI,AOpRun,aexec,D.isBot,↓eget_h,or_self,↓reduceIte,D.cells,Nat.reduceBEq,Nat.reduceLeDiff,List.drop,List.take,isSh,abin,bne_self_eq_false,↓hget_h,List.all,D.leaf,splice,run1,dB,ARun_some,AG_ff]) | subst hK))
    all_goals (refine end_q [] [] ?_ ?_ <;> repeat' (first | exact trivial | exact vr_val _))
  | true =>
    refine ⟨0,?_,fun _ => hfin q1 q2 q3 q4⟩
    rw [q4] at b4
    clear hfin
    refine kref03_CheckAir.ac (n0 := 0) (by simp) ⟨.agg _ (wals_in (c := crfC c) rfl),in_airD _ _,trivial⟩ trivial rfl ?_
    unfold cref03_CheckAir
    unfold crfC rotD rotC airD airC at *
    (repeat' (first | (with_reducible first | refine thenQ_n ?_ | refine blockQ_n ?_ | refine thenQ_e ?_ | refine blockQ_t ?_ | refine blockQ_f (by decide) ?_) | apply aw_seq | apply aw_skip | apply aw_exit | apply aw_ret | apply aw_block | apply aw_condT rfl | apply aw_condF rfl | ((first | refine aw_hide fun K hK => aw_region ?_ | refine acall0 (c1) ?_ | refine acall0 (c2) ?_ | refine acall0 (b1) ?_ | refine acall0 (b2) ?_ | refine acall0 (b3) ?_ | refine acall0 (b4) ?_ | refine ago_if (by omega) ?_ | skip); simp (disch := first | exact okY | omega) only [ZU,Nat.reduceAdd,Nat.reduceMul,dI,AOpRun,aexec,D.isBot,↓eget_h,or_self,↓reduceIte,D.cells,Nat.reduceBEq,Nat.reduceLeDiff,List.drop,List.take,isSh,abin,bne_self_eq_false,↓hget_h,List.all,D.leaf,splice,run1,dB,ARun_some,AG_ff]) | subst hK))
    all_goals (refine end_q [] [] ?_ ?_ <;> repeat' (first | exact trivial | exact vr_val _))
theorem r3All_ac (c : Crf) (a : Air) (f : Fld) (hs : RotSm c.r) : ∃ e : Int,AC Tryz.prog 11 [.agg (crfC c),airD a,.agg (fldC f)] [] [] (dI e) ∧ (e = 0 → CrOk c a ∧ FldOk f) := by
  obtain ⟨e0,c1,hc⟩ := r3Air_ac c a hs
  have c2 := r3Field_ac f
  by_cases h0 : e0 = 0
  case neg =>
    refine ⟨e0,?_,fun h => absurd h h0⟩
    have q : (e0 != 0) = true := by simpa using h0
    refine kref03_CheckAll.ac (n0 := 0) (by simp) ⟨.agg _ (wals_in (c := crfC c) rfl),in_airD _ _,.agg _ (wals_in (c := fldC f) rfl),trivial⟩ trivial rfl ?_
    unfold cref03_CheckAll
    unfold crfC airD airC fldC at *
    (repeat' (first | (with_reducible first | refine thenQ_n ?_ | refine blockQ_n ?_ | refine thenQ_e ?_ | refine blockQ_t ?_ | refine blockQ_f (by decide) ?_) | apply aw_seq | apply aw_skip | apply aw_exit | apply aw_ret | apply aw_block | apply aw_condT rfl | apply aw_condF rfl | ((first | refine aw_hide fun K hK => aw_region ?_ | refine acall0 (c1) ?_ | refine ago_if (by omega) ?_ | skip); simp (disch := first | exact okY | omega) only [ZU,Nat.reduceAdd,Nat.reduceMul,dI,AOpRun,aexec,D.isBot,↓eget_h,or_self,↓reduceIte,D.cells,Nat.reduceBEq,Nat.reduceLeDiff,List.drop,List.take,↓hget_h,isSh,abin,q]) | subst hK))
    all_goals (refine end_q [] [] ?_ ?_ <;> repeat' (first | exact trivial | exact vr_val _))
  refine ⟨fldE f,?_,fun h => ⟨hc h0,fldE_ok h⟩⟩
  subst h0
  clear hc
  generalize fldE f = E at *
  refine kref03_CheckAll.ac (n0 := 0) (by simp) ⟨.agg _ (wals_in (c := crfC c) rfl),in_airD _ _,.agg _ (wals_in (c := fldC f) rfl),trivial⟩ trivial rfl ?_
  unfold cref03_CheckAll
  unfold crfC airD airC fldC at *
  (repeat' (first | (with_reducible first | refine thenQ_n ?_ | refine blockQ_n ?_ | refine thenQ_e ?_ | refine blockQ_t ?_ | refine blockQ_f (by decide) ?_) | apply aw_seq | apply aw_skip | apply aw_exit | apply aw_ret | apply aw_block | apply aw_condT rfl | apply aw_condF rfl | ((first | refine aw_hide fun K hK => aw_region ?_ | refine acall0 (c1) ?_ | refine acall0 (c2) ?_ | refine ago_if (by omega) ?_ | skip); simp (disch := first | exact okY | omega) only [ZU,Nat.reduceAdd,Nat.reduceMul,dI,AOpRun,aexec,D.isBot,↓eget_h,or_self,↓reduceIte,D.cells,Nat.reduceBEq,Nat.reduceLeDiff,List.drop,List.take,↓hget_h,isSh,abin,bne_self_eq_false]) | subst hK))
  all_goals (refine end_q [] [] ?_ ?_ <;> repeat' (first | exact trivial | exact vr_val _))
end Go.Proofs.YtbncpngjclabhaaGreat
/- reference: the rates. No conditions. -/
namespace Go.Proofs.YtbncpngjclabhaaGreat
open Go Go.RowKit Lift

def ndR (c : Crf) (a : Air) (v : Nat) : Int := (bnR c.r.c ((v : Int) * c.un,(v : Int) * c.un) a.w).2
def rtR (c : Crf) (n p : Int) : Int := dnW (IntKind.i64.wrap (p - n)) (c.r.cl * c.st)
def rtsR (c : Crf) (a : Air) (p : Int) (n : Nat) : List Int := (List.range n).map fun v => rtR c (ndR c a v) p
theorem rtsR_len (c : Crf) (a : Air) (p : Int) (n : Nat) : (rtsR c a p n).length = n := by simp [rtsR]
theorem rtsR_succ (c : Crf) (a : Air) (p : Int) (n : Nat) : rtsR c a p (n + 1) = rtsR c a p n ++ [rtR c (ndR c a n) p] := by simp [rtsR,List.range_succ]
def hvR (c : Crf) (a : Air) (s : Bool) : Int × Int := if s = true then (partR (bnR c.r.d a.t a.h) c.one 100).1 else bnR c.r.d a.t a.h
theorem r3Rates_ac (c : Crf) (a : Air) (h : CrOk c a) (s : Bool) : AC Tryz.prog 30 [.agg (crfC c),airD a,dB s] [] [] (.list (ints (rtsR c a (hvR c a s).1 (topN c)))) := by
  refine kref03_rates.ac (n0 := 0) (by simp) ⟨.agg _ (wals_in (c := crfC c) rfl),in_airD _ _,.val _,trivial⟩ trivial rfl ?_
  have hi := crB_in h.b
  have htp := wI_t hi.t
  have hu := wI_t hi.u
  have hst := wI_t hi.s
  have hcl := wI_t (rotE_is h.rot).cl
  have d1 : 1 ≤ c.r.cl * c.st := by
    have := Int.mul_le_mul hcl.1 hst.1 (by omega) (by omega)
    omega
  have d2 : c.r.cl * c.st ≤ 1000000 := by
    have := Int.mul_le_mul hcl.2 hst.2 (by omega) (by omega)
    omega
  have hl1 := h.l1
  rw [liesB_is] at hl1
  simp only [Bool.and_eq_true,decide_eq_true_eq] at hl1
  have ch := r2Has_ac c.r a h.sm h.rot h.air h.p1 h.p2
  have cp := rPart_ac (bnR c.r.d a.t a.h) c.one 100
  have cl := fun (s : Int × Int) hv h1 => r2Level_ac c.r a s h.sm h.rot h.air hv h1 h.p3
  obtain ⟨A,hA⟩ : ∃ A,(hvR c a s).1 = A := ⟨_,rfl⟩
  obtain ⟨B,hB⟩ : ∃ B,(hvR c a s).2 = B := ⟨_,rfl⟩
  rw [hA]
  unfold hvR at hA hB
  generalize bnR c.r.d a.t a.h = H at *
  obtain ⟨H1,H2⟩ := H
  generalize partR (H1,H2) c.one 100 = pp at *
  obtain ⟨⟨E,F⟩,G⟩ := pp
  obtain ⟨N,hN⟩ : ∃ N : Nat,c.top + 1 = (N : Int) := ⟨(c.top + 1).toNat,by omega⟩
  have hNt : topN c = N := by unfold topN; omega
  rw [hNt]
  unfold spD at cp
  unfold cref03_rates
  unfold rotD rotC airD at *
  unfold airC at *
  unfold crfC
  refine aw_seq (aw_hide fun K hK => aw_region ?_)
  simp (disch := first | exact okY | omega) only [ZU,Nat.reduceAdd,Nat.reduceMul,dI,dB,AOpRun,aexec,D.isBot,↓eget_h,or_self,↓reduceIte,D.cells,Nat.reduceBEq]
  subst hK
  simp only [thenQ,blockQ,if_true,if_false,Nat.reduceEqDiff,reduceCtorEq]
  refine aw_seq (aw_hide fun K hK => aw_region ?_)
  simp (disch := first | exact okY | omega) only [ZU,Nat.reduceAdd,Nat.reduceMul,AOpRun,aexec,Nat.reduceBEq,↓eget_h,Nat.reduceLeDiff,↓reduceIte,List.drop,List.take,↓hget_h]
  refine acall0 ch ?_
  simp (disch := first | exact okY | omega) only [ZU,Nat.reduceAdd,dI,Nat.reduceBEq,AOpRun,aexec,↓eget_h,opt1,Nat.reduceMul,↓reduceIte,↓hget_h,D.isBot,D.cells,Nat.reduceLeDiff,List.all,D.leaf,splice,List.take,List.drop]
  subst hK
  simp only [thenQ,blockQ,if_true,if_false,Nat.reduceEqDiff,reduceCtorEq]
  clear ch
  refine aw_seq (aw_seq (aw_hide fun K hK => aw_region ?_))
  simp (disch := first | exact okY | omega) only [ZU,Nat.reduceMul,Nat.reduceAdd,AOpRun,aexec,Nat.reduceBEq,↓eget_h]
  subst hK
  simp only [thenQ,blockQ,if_true,if_false,Nat.reduceEqDiff,reduceCtorEq]
  cases s
  · simp only [Bool.false_eq_true,if_false] at hA hB
    subst hA hB
    refine aw_condF rfl (aw_skip ?_)
    simp only [thenQ,blockQ,if_true,if_false,Nat.reduceEqDiff,reduceCtorEq]
    refine aw_seq (aw_hide fun K hK => aw_region ?_)
    simp (disch := first | exact okY | omega) only [ZU,Nat.reduceMul,Nat.reduceAdd,AOpRun,aexec,Nat.reduceBEq]
    subst hK
    simp only [thenQ,blockQ,if_true,if_false,Nat.reduceEqDiff,reduceCtorEq]
    refine aw_seq (aw_seq (aw_hide fun K hK => aw_region ?_))
    simp (disch := first | exact okY | omega) only [ZU,Nat.reduceMul,Nat.reduceAdd,AOpRun,aexec,Nat.reduceBEq]
    subst hK
    simp only [thenQ,blockQ,if_true,if_false,Nat.reduceEqDiff,reduceCtorEq]
    clear cp
    refine aw_block (aw_loop (fun k : Nat => ⟨[(3,.ptr 0 0),(4,.ptr 8 0),(7,.ptr 16 0),(9,.vec 300 k 1),(10,dI k)],[(0,crfC c),(8,airC a),(16,[dI H1,dI H2]),(300,icells (rtsR c a H1 k))],600⟩) (fun k => k ≤ N) (fun k => N - k) ⟨0,by omega,?_⟩ ?_)
    · have e1 : rtsR c a H1 0 = [] := rfl
      have e4 : icells [] = [] := rfl
      rw [e1,e4]
      simp only [Int.natCast_zero]
      unfold crfC airC dI
      refine wk_q [] [(0,0),(8,8),(16,80),(300,700)] ?_ ?_ <;> repeat' (first | exact trivial | exact vr_val _ | exact vr_list _ | exact vr_ptr _ _ _ rfl | exact vr_nilv _ _ _ rfl | refine And.intro ⟨_,rfl,.inl ⟨_,rfl,by decide,?_⟩⟩ ?_ | refine And.intro ⟨_,rfl,.inr ⟨rfl,rfl,of_decide_eq_true (by kernel_rfl)⟩⟩ ?_ | apply And.intro)
    intro k hk
    have hln := rtsR_len c a H1 k
    have lA := icells_len (rtsR c a H1 k)
    have tA := icl_take (rtsR c a H1 k)
    rw [hln] at lA tA
    unfold crfC airC
    by_cases hlt : k < N
    case neg =>
      obtain rfl : k = N := by omega
      have kN : ¬ ((k : Int) ≤ c.top) := by omega
      have kq : decide ((k : Int) ≤ c.top) = false := decide_eq_false kN
      refine aw_seq (aw_seq (aw_hide fun K hK => aw_region ?_))
      simp (disch := first | exact okY | omega) only [ZU,Nat.reduceAdd,Nat.reduceMul,dI,AOpRun,aexec,Nat.reduceBEq,↓eget_h,run1,isSh,↓reduceIte,abin,kq]
      subst hK
      simp only [thenQ,blockQ,if_true,if_false,Nat.reduceEqDiff,reduceCtorEq]
      refine aw_condF rfl (aw_exit ?_)
      simp only [thenQ,blockQ,if_true,if_false,Nat.reduceEqDiff,reduceCtorEq]
      refine aw_seq (aw_hide fun K hK => aw_region ?_)
      simp (disch := first | exact okY | omega) only [ZU,Nat.reduceAdd,Nat.reduceMul,AOpRun,aexec,Nat.reduceBEq,↓eget_h]
      subst hK
      simp only [thenQ,blockQ,if_true,if_false,Nat.reduceEqDiff,reduceCtorEq]
      refine aw_ret ?_
      try unfold dI
      have hin := icells_in (rtsR c a H1 k)
      generalize rtsR c a H1 k = L at *
      (refine end_q [300] [] ?_ ?_ <;> repeat' (first | exact trivial | refine vr_fl _ _ _ _ _ (by decide) rfl ?_ ?_ ?_ ?_))
      all_goals first | rfl | exact icells_in _ | exact ints_flat _ | exact ints_one _ | (rw [ints_len]; exact hln) | (rw [ints_flat,Nat.mul_one,tA]) | (rw [lA]; omega) | skip
    have kq : decide ((k : Int) ≤ c.top) = true := decide_eq_true (by omega)
    have u1 : 0 ≤ (k : Int) * c.un := Int.mul_nonneg (by omega) (by omega)
    have u2 : (k : Int) * c.un ≤ c.top * c.un := Int.mul_le_mul_of_nonneg_right (by omega) (by omega)
    have u3 : c.top * c.un ≤ 6000 := (topUn hi).2
    have clk := cl ((k : Int) * c.un,(k : Int) * c.un) (spVB_t2 (by omega) (by omega)) (by
      rw [liesB_is]
      simp only [Bool.and_eq_true,decide_eq_true_eq]
      omega)
    have o1 := r3One_ac ((k : Int) * c.un)
    have hnd : (bnR c.r.c ((k : Int) * c.un,(k : Int) * c.un) a.w).2 = ndR c a k := rfl
    simp only [hnd] at clk
    generalize (bnR c.r.c ((k : Int) * c.un,(k : Int) * c.un) a.w).1 = n1 at clk
    have hsuc := rtsR_succ c a H1 k
    have hrt : rtR c (ndR c a k) H1 = dnW (IntKind.i64.wrap (H1 - ndR c a k)) (c.r.cl * c.st) := rfl
    have dn := r3Down_ac (IntKind.i64.wrap (H1 - ndR c a k)) (c.r.cl * c.st) (by omega)
    rw [← hrt] at dn
    have aA := icl_app (rtsR c a H1 k) (rtR c (ndR c a k) H1)
    rw [← hsuc] at aA
    clear cl hsuc hnd hrt hln
    generalize rtR c (ndR c a k) H1 = x at *
    generalize hm : IntKind.i64.wrap (H1 - ndR c a k) = m at *
    generalize ndR c a k = n2 at *
    generalize hcd : c.r.cl * c.st = CD at *
    generalize hku : (k : Int) * c.un = u at *
    generalize rtsR c a H1 k = L at *
    have hin := icells_in (rtsR c a H1 (k + 1))
    generalize hL2 : rtsR c a H1 (k + 1) = L2 at *
    refine aw_seq (aw_seq (aw_hide fun K hK => aw_region ?_))
    simp (disch := first | exact okY | omega) only [ZU,Nat.reduceAdd,Nat.reduceMul,dI,AOpRun,aexec,Nat.reduceBEq,↓eget_h,run1,isSh,↓reduceIte,abin,kq]
    subst hK
    simp only [thenQ,blockQ,if_true,if_false,Nat.reduceEqDiff,reduceCtorEq]
    refine aw_condT rfl (aw_skip ?_)
    simp only [thenQ,blockQ,if_true,if_false,Nat.reduceEqDiff,reduceCtorEq]
    refine aw_seq (aw_block (aw_seq (aw_hide fun K hK => aw_region ?_)))
    simp (disch := first | exact okY | omega) only [ZU,Nat.reduceAdd,Nat.reduceMul,AOpRun,aexec,↓eget_h,Nat.reduceBEq,Nat.reduceLeDiff,↓reduceIte,List.drop,List.take,↓hget_h,run1,isSh,abin,hku,fits]
    refine acall0 o1 ?_
    simp (disch := first | exact okY | omega) only [ZU,Nat.reduceAdd,dI,Nat.reduceBEq,AOpRun,↓eget_h]
    refine acall0 clk ?_
    simp (disch := first | exact okY | omega) only [ZU,Nat.reduceAdd,dI,Nat.reduceBEq,AOpRun,aexec,↓eget_h,opt1,Nat.reduceMul,↓reduceIte,↓hget_h,D.isBot,D.cells,Nat.reduceLeDiff,List.all,D.leaf,splice,List.take,List.drop]
    subst hK
    simp only [thenQ,blockQ,if_true,if_false,Nat.reduceEqDiff,reduceCtorEq]
    refine aw_hide fun K hK => aw_region ?_
    simp (disch := first | exact okY | omega) only [ZU,Nat.reduceAdd,Nat.reduceMul,AOpRun,aexec,Nat.reduceBEq,↓eget_h,run1,↓hget_h,isSh,↓reduceIte,abin,hm,hcd,fits]
    refine acall0 dn ?_
    simp (disch := first | exact okY | omega) only [ZU,Nat.reduceAdd,dI,Nat.reduceBEq,AOpRun,aexec,Nat.reduceMul,↓reduceIte,fillD,D.isBot,↓eget_h,D.cells,ne_eq,not_true_eq_false,Nat.reduceGT,or_self,splice,List.take,List.drop,base,↓hget_h,Nat.mul_one,lA,Nat.le_refl,tA,elems,List.all,D.leaf,and_true,ups]
    refine ago_if (by omega) ?_
    simp (disch := first | exact okY | omega) only [ZU,aA,Nat.reduceAdd,Nat.reduceBEq,hdel_c,hdel_n,AOpRun,aexec,↓eget_h]
    subst hK
    simp only [thenQ,blockQ,if_true,if_false,Nat.reduceEqDiff,reduceCtorEq]
    refine aw_hide fun K hK => aw_region ?_
    simp (disch := first | exact okY | omega) only [ZU,Nat.reduceAdd,Nat.reduceMul,AOpRun,aexec,Nat.reduceBEq,↓eget_h,isSh,↓reduceIte,abin,fits]
    subst hK
    refine ⟨k + 1,by omega,by omega,?_⟩
    rw [hL2]
    try unfold crfC
    try unfold airC
    try unfold dI
    refine wk_q [] [(0,0),(8,8),(16,16),(300,864)] ?_ ?_ <;> repeat' (first | exact trivial | exact vr_val _ | exact vr_list _ | exact vr_vec _ _ _ _ rfl | exact vr_ptr _ _ _ rfl | refine And.intro ⟨_,rfl,.inl ⟨_,rfl,by decide,?_⟩⟩ ?_ | apply And.intro | exact vrl_flat _ (by first | exact icells_in _ | exact rcells_in _ | exact scells_in _ | exact bcells_in _ | assumption))
  · simp only [if_true] at hA hB
    subst hA hB
    refine aw_condT rfl (aw_hide fun K hK => aw_region ?_)
    simp (disch := first | exact okY | omega) only [ZU,Nat.reduceAdd,Nat.reduceMul,AOpRun,aexec,Nat.reduceBEq,↓eget_h,↓hget_h,Nat.reduceLeDiff,↓reduceIte,List.drop,List.take,run1]
    refine acall0 cp ?_
    simp (disch := first | exact okY | omega) only [ZU,Nat.reduceAdd,dI,Nat.reduceBEq,AOpRun,aexec,↓eget_h,opt1,↓hget_h,D.isBot,D.cells,Nat.reduceLeDiff,List.all,D.leaf,↓reduceIte,splice,List.take,List.drop]
    subst hK
    simp only [thenQ,blockQ,if_true,if_false,Nat.reduceEqDiff,reduceCtorEq]
    refine aw_seq (aw_hide fun K hK => aw_region ?_)
    simp (disch := first | exact okY | omega) only [ZU,Nat.reduceMul,Nat.reduceAdd,AOpRun,aexec,Nat.reduceBEq]
    subst hK
    simp only [thenQ,blockQ,if_true,if_false,Nat.reduceEqDiff,reduceCtorEq]
    refine aw_seq (aw_seq (aw_hide fun K hK => aw_region ?_))
    simp (disch := first | exact okY | omega) only [ZU,Nat.reduceMul,Nat.reduceAdd,AOpRun,aexec,Nat.reduceBEq]
    subst hK
    simp only [thenQ,blockQ,if_true,if_false,Nat.reduceEqDiff,reduceCtorEq]
    clear cp
    refine aw_block (aw_loop (fun k : Nat => ⟨[(3,.ptr 0 0),(4,.ptr 8 0),(7,.ptr 16 0),(9,.vec 300 k 1),(10,dI k)],[(0,crfC c),(8,airC a),(16,[dI E,dI F]),(300,icells (rtsR c a E k))],600⟩) (fun k => k ≤ N) (fun k => N - k) ⟨0,by omega,?_⟩ ?_)
    · have e1 : rtsR c a E 0 = [] := rfl
      have e4 : icells [] = [] := rfl
      rw [e1,e4]
      simp only [Int.natCast_zero]
      unfold crfC airC dI
      refine wk_q [] [(0,0),(8,8),(16,80),(300,700)] ?_ ?_ <;> repeat' (first | exact trivial | exact vr_val _ | exact vr_list _ | exact vr_ptr _ _ _ rfl | exact vr_nilv _ _ _ rfl | refine And.intro ⟨_,rfl,.inl ⟨_,rfl,by decide,?_⟩⟩ ?_ | refine And.intro ⟨_,rfl,.inr ⟨rfl,rfl,of_decide_eq_true (by kernel_rfl)⟩⟩ ?_ | apply And.intro)
    intro k hk
    have hln := rtsR_len c a E k
    have lA := icells_len (rtsR c a E k)
    have tA := icl_take (rtsR c a E k)
    rw [hln] at lA tA
    unfold crfC airC
    by_cases hlt : k < N
    case neg =>
      obtain rfl : k = N := by omega
      have kN : ¬ ((k : Int) ≤ c.top) := by omega
      have kq : decide ((k : Int) ≤ c.top) = false := decide_eq_false kN
      refine aw_seq (aw_seq (aw_hide fun K hK => aw_region ?_))
      simp (disch := first | exact okY | omega) only [ZU,Nat.reduceAdd,Nat.reduceMul,dI,AOpRun,aexec,Nat.reduceBEq,↓eget_h,run1,isSh,↓reduceIte,abin,kq]
      subst hK
      simp only [thenQ,blockQ,if_true,if_false,Nat.reduceEqDiff,reduceCtorEq]
      refine aw_condF rfl (aw_exit ?_)
      simp only [thenQ,blockQ,if_true,if_false,Nat.reduceEqDiff,reduceCtorEq]
      refine aw_seq (aw_hide fun K hK => aw_region ?_)
      simp (disch := first | exact okY | omega) only [ZU,Nat.reduceAdd,Nat.reduceMul,AOpRun,aexec,Nat.reduceBEq,↓eget_h]
      subst hK
      simp only [thenQ,blockQ,if_true,if_false,Nat.reduceEqDiff,reduceCtorEq]
      refine aw_ret ?_
      try unfold dI
      have hin := icells_in (rtsR c a E k)
      generalize rtsR c a E k = L at *
      (refine end_q [300] [] ?_ ?_ <;> repeat' (first | exact trivial | refine vr_fl _ _ _ _ _ (by decide) rfl ?_ ?_ ?_ ?_))
      all_goals first | rfl | exact icells_in _ | exact ints_flat _ | exact ints_one _ | (rw [ints_len]; exact hln) | (rw [ints_flat,Nat.mul_one,tA]) | (rw [lA]; omega) | skip
    have kq : decide ((k : Int) ≤ c.top) = true := decide_eq_true (by omega)
    have u1 : 0 ≤ (k : Int) * c.un := Int.mul_nonneg (by omega) (by omega)
    have u2 : (k : Int) * c.un ≤ c.top * c.un := Int.mul_le_mul_of_nonneg_right (by omega) (by omega)
    have u3 : c.top * c.un ≤ 6000 := (topUn hi).2
    have clk := cl ((k : Int) * c.un,(k : Int) * c.un) (spVB_t2 (by omega) (by omega)) (by
      rw [liesB_is]
      simp only [Bool.and_eq_true,decide_eq_true_eq]
      omega)
    have o1 := r3One_ac ((k : Int) * c.un)
    have hnd : (bnR c.r.c ((k : Int) * c.un,(k : Int) * c.un) a.w).2 = ndR c a k := rfl
    simp only [hnd] at clk
    generalize (bnR c.r.c ((k : Int) * c.un,(k : Int) * c.un) a.w).1 = n1 at clk
    have hsuc := rtsR_succ c a E k
    have hrt : rtR c (ndR c a k) E = dnW (IntKind.i64.wrap (E - ndR c a k)) (c.r.cl * c.st) := rfl
    have dn := r3Down_ac (IntKind.i64.wrap (E - ndR c a k)) (c.r.cl * c.st) (by omega)
    rw [← hrt] at dn
    have aA := icl_app (rtsR c a E k) (rtR c (ndR c a k) E)
    rw [← hsuc] at aA
    clear cl hsuc hnd hrt hln
    generalize rtR c (ndR c a k) E = x at *
    generalize hm : IntKind.i64.wrap (E - ndR c a k) = m at *
    generalize ndR c a k = n2 at *
    generalize hcd : c.r.cl * c.st = CD at *
    generalize hku : (k : Int) * c.un = u at *
    generalize rtsR c a E k = L at *
    have hin := icells_in (rtsR c a E (k + 1))
    generalize hL2 : rtsR c a E (k + 1) = L2 at *
    refine aw_seq (aw_seq (aw_hide fun K hK => aw_region ?_))
    simp (disch := first | exact okY | omega) only [ZU,Nat.reduceAdd,Nat.reduceMul,dI,AOpRun,aexec,Nat.reduceBEq,↓eget_h,run1,isSh,↓reduceIte,abin,kq]
    subst hK
    simp only [thenQ,blockQ,if_true,if_false,Nat.reduceEqDiff,reduceCtorEq]
    refine aw_condT rfl (aw_skip ?_)
    simp only [thenQ,blockQ,if_true,if_false,Nat.reduceEqDiff,reduceCtorEq]
    refine aw_seq (aw_block (aw_seq (aw_hide fun K hK => aw_region ?_)))
    simp (disch := first | exact okY | omega) only [ZU,Nat.reduceAdd,Nat.reduceMul,AOpRun,aexec,↓eget_h,Nat.reduceBEq,Nat.reduceLeDiff,↓reduceIte,List.drop,List.take,↓hget_h,run1,isSh,abin,hku,fits]
    refine acall0 o1 ?_
    simp (disch := first | exact okY | omega) only [ZU,Nat.reduceAdd,dI,Nat.reduceBEq,AOpRun,↓eget_h]
    refine acall0 clk ?_
    simp (disch := first | exact okY | omega) only [ZU,Nat.reduceAdd,dI,Nat.reduceBEq,AOpRun,aexec,↓eget_h,opt1,Nat.reduceMul,↓reduceIte,↓hget_h,D.isBot,D.cells,Nat.reduceLeDiff,List.all,D.leaf,splice,List.take,List.drop]
    subst hK
    simp only [thenQ,blockQ,if_true,if_false,Nat.reduceEqDiff,reduceCtorEq]
    refine aw_hide fun K hK => aw_region ?_
    simp (disch := first | exact okY | omega) only [ZU,Nat.reduceAdd,Nat.reduceMul,AOpRun,aexec,Nat.reduceBEq,↓eget_h,run1,↓hget_h,isSh,↓reduceIte,abin,hm,hcd,fits]
    refine acall0 dn ?_
    simp (disch := first | exact okY | omega) only [ZU,Nat.reduceAdd,dI,Nat.reduceBEq,AOpRun,aexec,Nat.reduceMul,↓reduceIte,fillD,D.isBot,↓eget_h,D.cells,ne_eq,not_true_eq_false,Nat.reduceGT,or_self,splice,List.take,List.drop,base,↓hget_h,Nat.mul_one,lA,Nat.le_refl,tA,elems,List.all,D.leaf,and_true,ups]
    refine ago_if (by omega) ?_
    simp (disch := first | exact okY | omega) only [ZU,aA,Nat.reduceAdd,Nat.reduceBEq,hdel_c,hdel_n,AOpRun,aexec,↓eget_h]
    subst hK
    simp only [thenQ,blockQ,if_true,if_false,Nat.reduceEqDiff,reduceCtorEq]
    refine aw_hide fun K hK => aw_region ?_
    simp (disch := first | exact okY | omega) only [ZU,Nat.reduceAdd,Nat.reduceMul,AOpRun,aexec,Nat.reduceBEq,↓eget_h,isSh,↓reduceIte,abin,fits]
    subst hK
    refine ⟨k + 1,by omega,by omega,?_⟩
    rw [hL2]
    try unfold crfC
    try unfold airC
    try unfold dI
    refine wk_q [] [(0,0),(8,8),(16,16),(300,864)] ?_ ?_ <;> repeat' (first | exact trivial | exact vr_val _ | exact vr_list _ | exact vr_vec _ _ _ _ rfl | exact vr_ptr _ _ _ rfl | refine And.intro ⟨_,rfl,.inl ⟨_,rfl,by decide,?_⟩⟩ ?_ | apply And.intro | exact vrl_flat _ (by first | exact icells_in _ | exact rcells_in _ | exact scells_in _ | exact bcells_in _ | assumption))
end Go.Proofs.YtbncpngjclabhaaGreat
/- reference: a craft in an air over a field. No conditions. -/
namespace Go.Proofs.YtbncpngjclabhaaGreat
open Go Go.RowKit Lift

def wkV (c : Crf) (a : Air) (v d : Nat) : Bool := wkR c.r a ((v : Int) * c.un,(v : Int) * c.un) ((d : Int) * c.st,(d : Int) * c.st)
def rwK (c : Crf) (a : Air) (v n k : Nat) : List Bool := (List.range n).map fun d => decide (0 < d) && (decide (d < k) && wkV c a v d)
theorem rwK_len (c : Crf) (a : Air) (v n k : Nat) : (rwK c a v n k).length = n := by simp [rwK]
theorem rwK_one (c : Crf) (a : Air) (v n : Nat) : (List.replicate n [D.val (.bool false)]).flatten = bolC (rwK c a v n 1) := by
  rw [List.flatten_replicate_singleton]
  unfold bolC rwK
  rw [List.map_map]
  apply List.ext_getElem
  · simp
  · intro i h1 h2
    simp only [List.getElem_replicate,List.getElem_map,List.getElem_range,Function.comp_apply]
    by_cases h : 0 < i
    · rw [decide_eq_false (show ¬ i < 1 by omega)]; simp
    · rw [decide_eq_false h]; simp
theorem rwK_set (c : Crf) (a : Air) (v n k : Nat) (h0 : 0 < k) (h : k < n) : (bolC (rwK c a v n k)).take k ++ [.val (.bool (wkV c a v k))] ++ (bolC (rwK c a v n k)).drop (k + 1) = bolC (rwK c a v n (k + 1)) := by
  apply List.ext_getElem
  · simp [bolC,rwK]; omega
  · intro i h1 h2
    have hi : i < n := by simpa [bolC,rwK] using h2
    rcases (by omega : i < k ∨ i = k ∨ k < i) with h3 | rfl | h3
    · rw [List.getElem_append_left (by simp [bolC,rwK]; omega),List.getElem_append_left (by simp [bolC,rwK]; omega)]
      simp only [List.getElem_take]
      simp only [bolC,rwK,List.getElem_map,List.getElem_range]
      rw [decide_eq_true h3,decide_eq_true (show i < k + 1 by omega)]
    · rw [List.getElem_append_left (by simp [bolC,rwK]; omega),List.getElem_append_right (by simp [bolC,rwK]; omega)]
      simp [bolC,rwK,h0]
    · rw [List.getElem_append_right (by simp [bolC,rwK]; omega)]
      simp only [List.getElem_drop]
      simp only [bolC,rwK,List.getElem_map,List.getElem_range,List.length_append,List.length_take,List.length_map,List.length_range,List.length_cons,List.length_nil]
      have e : k + 1 + (i - (min k n + (0 + 1))) = i := by omega
      simp only [e]
      rw [decide_eq_false (show ¬ i < k by omega),decide_eq_false (show ¬ i < k + 1 by omega)]
def dropN (c : Crf) : Nat := (c.dr + 1).toNat
def rwF (c : Crf) (a : Air) (v : Nat) : List Bool := rwK c a v (dropN c) (if (v : Int) * c.un ≤ lastX c then dropN c else 1)
def wksR (c : Crf) (a : Air) (n : Nat) : List (List Bool) := (List.range n).map (rwF c a)
theorem wksR_len (c : Crf) (a : Air) (n : Nat) : (wksR c a n).length = n := by simp [wksR]
theorem wksR_succ (c : Crf) (a : Air) (n : Nat) : wksR c a (n + 1) = wksR c a n ++ [rwF c a n] := by simp [wksR,List.range_succ]
def covR : List Int := List.replicate 7371 0
def inX (c : Crf) (a : Air) (f : Fld) : List D := inC c f (ints (rtsR c a (hvR c a false).1 (topN c))) (ints (rtsR c a (hvR c a true).1 (topN c))) (blss (wksR c a (topN c))) (ints covR)
theorem cov_flat (M : Nat) : (List.replicate M [D.val (.int .i64 0)]).flatten = icells (List.replicate M 0) := by
  rw [List.flatten_replicate_singleton]
  unfold icells
  rw [List.map_replicate]
def inY (c : Crf) (f : Fld) (p q : List (List D)) (w k : D) : List D := [.list (ints c.r.a.x),.list (ints c.r.a.y),.list (rows c.r.a.v),.list (ints c.r.b.x),.list (ints c.r.b.y),.list (rows c.r.b.v),.list (ints c.r.c.x),.list (ints c.r.c.y),.list (rows c.r.c.v),.list (ints c.r.d.x),.list (ints c.r.d.y),.list (rows c.r.d.v),.list (ints c.r.e.x),.list (ints c.r.e.y),.list (rows c.r.e.v),.list (ints c.r.f.x),.list (ints c.r.f.y),.list (rows c.r.f.v),.list (ints c.r.g.x),.list (ints c.r.g.y),.list (rows c.r.g.v),.list (ints c.r.h.x),.list (ints c.r.h.y),.list (rows c.r.h.v),dI c.r.cl,dI c.r.bu,dI c.one,dI c.un,dI c.st,dI c.top,dI c.dr,dI c.tch,dI c.si,dI f.len,dI f.cl,dI f.sf,.list (sps f.hd),.list p,.list q,w,k]
def inZ : List D := [.val (.slice none 0 0),.val (.slice none 0 0),.val (.slice none 0 0),.val (.slice none 0 0),.val (.slice none 0 0),.val (.slice none 0 0),.val (.slice none 0 0),.val (.slice none 0 0),.val (.slice none 0 0),.val (.slice none 0 0),.val (.slice none 0 0),.val (.slice none 0 0),.val (.slice none 0 0),.val (.slice none 0 0),.val (.slice none 0 0),.val (.slice none 0 0),.val (.slice none 0 0),.val (.slice none 0 0),.val (.slice none 0 0),.val (.slice none 0 0),.val (.slice none 0 0),.val (.slice none 0 0),.val (.slice none 0 0),.val (.slice none 0 0),dI 0,dI 0,dI 0,dI 0,dI 0,dI 0,dI 0,dI 0,dI 0,dI 0,dI 0,dI 0,.val (.slice none 0 0),.val (.slice none 0 0),.val (.slice none 0 0),.val (.slice none 0 0),.val (.slice none 0 0)]
theorem r3In_ac (c : Crf) (a : Air) (f : Fld) (h : CrOk c a) : AC Tryz.prog 12 [.agg (crfC c),airD a,.agg (fldC f)] [] [] (.agg (inX c a f)) := by
  refine kref03_In.ac (n0 := 0) (by simp) ⟨.agg _ (wals_in (c := crfC c) rfl),in_airD _ _,.agg _ (wals_in (c := fldC f) rfl),trivial⟩ trivial rfl ?_
  have hi := crB_in h.b
  have htp := wI_t hi.t
  have hu := wI_t hi.u
  have hst := wI_t hi.s
  have hdr := wI_t hi.d
  have c0 := r3Rates_ac c a h false
  have c1 := r3Rates_ac c a h true
  have cw := fun (s k : Int × Int) hv hk h1 => r2Wake_ac c.r a s k h.sm h.rot h.air hv hk h1 h.p4
  have tf : 2 ≤ c.r.f.x.length ∧ c.r.f.x.length ≤ 12 ∧ 2 ≤ c.r.f.y.length ∧ c.r.f.y.length ≤ 12 := lim_len ((rotE_is h.rot).lim 5 (by omega))
  obtain ⟨m,hm⟩ : ∃ m : Nat,c.r.f.x.length = m + 1 := ⟨c.r.f.x.length - 1,by omega⟩
  have gm := ints_gd c.r.f.x m (by omega)
  have ga := ints_all c.r.f.x
  have gl := ints_len c.r.f.x
  have em : ((c.r.f.x.length : Nat) : Int) - 1 = (m : Int) := by omega
  have el : c.r.f.x[m]?.getD 0 = lastX c := by unfold lastX; rw [show c.r.f.x.length - 1 = m by omega]; rfl
  rw [el] at gm
  have hly := h.l2
  rw [liesB_is] at hly
  simp only [Bool.and_eq_true,decide_eq_true_eq] at hly
  obtain ⟨N,hN⟩ : ∃ N : Nat,c.top + 1 = (N : Int) := ⟨(c.top + 1).toNat,by omega⟩
  have hNt : topN c = N := by unfold topN; omega
  obtain ⟨E,hE⟩ : ∃ E : Nat,c.dr + 1 = (E : Int) := ⟨(c.dr + 1).toNat,by omega⟩
  have hEt : dropN c = E := by unfold dropN; omega
  have hinX : inX c a f = inY c f (ints (rtsR c a (hvR c a false).1 (topN c))) (ints (rtsR c a (hvR c a true).1 (topN c))) (.list (blss (wksR c a (topN c)))) (.list (ints covR)) := rfl
  rw [hinX]
  clear hinX
  rw [hNt] at c0 c1 ⊢
  generalize rtsR c a (hvR c a false).1 N = R0 at *
  generalize rtsR c a (hvR c a true).1 N = R1 at *
  obtain ⟨M,hM⟩ : ∃ M : Nat,M = 7371 := ⟨_,rfl⟩
  have hMI : (7371 : Int) = (M : Int) := by omega
  have hcov : covR = List.replicate M 0 := by rw [hM]; rfl
  rw [hcov]
  have hMf := cov_flat M
  have hMl : (List.replicate M (0 : Int)).length = M := by simp
  generalize List.replicate M (0 : Int) = Zc at *
  have hMz := icells_len Zc
  rw [hMl] at hMz
  have hMt : (M : Int).toNat = M := by omega
  clear hcov
  unfold cref03_In
  rw [hMI]
  unfold rotD rotC airD at *
  unfold airC at *
  unfold crfC at c0 c1
  unfold crfC fldC
  refine aw_seq (aw_hide fun K hK => aw_region ?_)
  simp (disch := first | exact okY | omega) only [ZU,Nat.reduceAdd,Nat.reduceMul,dI,AOpRun,aexec,D.isBot,↓eget_h,or_self,↓reduceIte,D.cells,Nat.reduceBEq]
  subst hK
  simp only [thenQ,blockQ,if_true,if_false,Nat.reduceEqDiff,reduceCtorEq]
  refine aw_seq (aw_hide fun K hK => aw_region ?_)
  simp (disch := first | exact okY | omega) only [ZU,Nat.reduceAdd,Nat.reduceMul,AOpRun,aexec,Nat.reduceBEq,↓eget_h,Nat.reduceLeDiff,↓reduceIte,List.drop,List.take,↓hget_h]
  refine acall0 c0 ?_
  simp (disch := first | exact okY | omega) only [ZU,Nat.reduceAdd,Nat.reduceBEq,AOpRun,aexec,↓eget_h,Nat.reduceLeDiff,↓reduceIte,List.drop,List.take,↓hget_h]
  refine acall0 c1 ?_
  simp (disch := first | exact okY | omega) only [ZU,Nat.reduceAdd,Nat.reduceBEq,AOpRun,aexec,cast_lit,Nat.reduceMul,and_true,true_and,hMt,hMf]
  refine ago_if (by omega) ?_
  simp (disch := first | exact okY | omega) only [ZU,Nat.reduceAdd,Nat.reduceBEq,AOpRun,aexec,fillD,D.isBot,↓eget_h,D.cells,ne_eq,not_true_eq_false,Nat.reduceGT,or_self,↓reduceIte,splice,List.take,List.drop,Nat.reduceMul,↓hget_h,Nat.reduceLeDiff,List.all,D.leaf]
  subst hK
  simp only [thenQ,blockQ,if_true,if_false,Nat.reduceEqDiff,reduceCtorEq]
  clear c0 c1
  refine aw_seq (aw_hide fun K hK => aw_region ?_)
  simp (disch := first | exact okY | omega) only [ZU,Nat.reduceAdd,Nat.reduceMul,AOpRun,aexec,Nat.reduceBEq,↓eget_h,run1,gl,isSh,↓reduceIte,abin,em,fits,ga,opt1,gm]
  subst hK
  simp only [thenQ,blockQ,if_true,if_false,Nat.reduceEqDiff,reduceCtorEq]
  refine aw_seq (aw_seq (aw_hide fun K hK => aw_region ?_))
  simp (disch := first | exact okY | omega) only [ZU,Nat.reduceMul,Nat.reduceAdd,AOpRun,aexec,Nat.reduceBEq]
  subst hK
  simp only [thenQ,blockQ,if_true,if_false,Nat.reduceEqDiff,reduceCtorEq]
  refine aw_block (aw_loop (fun v : Nat => ⟨[(3,.ptr 0 0),(4,.ptr 8 0),(6,.ptr 24 0),(7,.ptr 32 0),(8,dI (lastX c)),(9,dI v)],[(0,crfC c),(8,airC a),(24,inZ),(32,inY c f (ints R0) (ints R1) (.vec 320 v 1) (.vec 330 M 1)),(320,rowC (wksR c a v)),(330,icells Zc)],600⟩) (fun v => v ≤ N) (fun v => N - v) ⟨0,by omega,?_⟩ ?_)
  · have e3 : wksR c a 0 = [] := rfl
    have e5 : rowC [] = [] := rfl
    rw [e3,e5]
    simp only [Int.natCast_zero]
    unfold inY inZ crfC airC dI
    refine wk_q [] [(0,0),(8,8),(24,24),(32,112),(320,700),(330,96)] ?_ ?_ <;> repeat' (first | exact trivial | exact vr_val _ | exact vr_list _ | exact vr_vec _ _ _ _ rfl | exact vr_ptr _ _ _ rfl | exact vr_nilv _ _ _ rfl | refine And.intro ⟨_,rfl,.inl ⟨_,rfl,by decide,?_⟩⟩ ?_ | refine And.intro ⟨_,rfl,.inr ⟨rfl,rfl,of_decide_eq_true (by kernel_rfl)⟩⟩ ?_ | apply And.intro | exact vrl_flat _ (by first | exact icells_in _ | exact rcells_in _ | exact scells_in _ | exact bcells_in _ | assumption))
  intro v hv
  have lW := wksR_len c a v
  have gW := rowC_len (wksR c a v)
  have tW := rowC_take (wksR c a v)
  rw [lW] at gW tW
  unfold inY inZ crfC airC
  by_cases hlt : v < N
  case neg =>
    obtain rfl : v = N := by omega
    have kq : decide ((v : Int) ≤ c.top) = false := decide_eq_false (by omega)
    refine aw_seq (aw_seq (aw_hide fun K hK => aw_region ?_))
    simp (disch := first | exact okY | omega) only [ZU,Nat.reduceAdd,Nat.reduceMul,dI,AOpRun,aexec,Nat.reduceBEq,↓eget_h,run1,isSh,↓reduceIte,abin,kq]
    subst hK
    simp only [thenQ,blockQ,if_true,if_false,Nat.reduceEqDiff,reduceCtorEq]
    refine aw_condF rfl (aw_exit ?_)
    simp only [thenQ,blockQ,if_true,if_false,Nat.reduceEqDiff,reduceCtorEq]
    refine aw_seq (aw_hide fun K hK => aw_region ?_)
    simp (disch := first | exact okY | omega) only [ZU,Nat.reduceAdd,Nat.reduceMul,AOpRun,aexec,Nat.reduceBEq,↓eget_h,↓hget_h,Nat.reduceLeDiff,↓reduceIte,List.drop,List.take,D.isBot,D.cells,List.all,D.leaf,splice]
    subst hK
    simp only [thenQ,blockQ,if_true,if_false,Nat.reduceEqDiff,reduceCtorEq]
    refine aw_ret ?_
    try unfold dI
    (refine end_q [24,320,330] [] ?_ ?_ <;> repeat' (first | exact trivial | exact vr_val _ | exact vr_list _ | apply vr_agg | refine vr_fl _ _ _ _ _ (by decide) rfl ?_ ?_ ?_ ?_ | apply And.intro))
    all_goals first | exact blss_one _ | exact rowC_flat _ | exact ints_flat _ | (rw [blss_len]; exact lW) | (rw [rowC_flat,Nat.mul_one,tW]) | exact rowC_in _ _ | exact ints_one _ | (rw [ints_len]; exact hMl) | (rw [ints_flat,Nat.mul_one,← hMz,List.take_length]) | exact icells_in _ | (rw [gW]; omega) | (rw [hMz]; omega) | skip
  have kq : decide ((v : Int) ≤ c.top) = true := decide_eq_true (by omega)
  refine aw_seq (aw_seq (aw_hide fun K hK => aw_region ?_))
  simp (disch := first | exact okY | omega) only [ZU,Nat.reduceAdd,Nat.reduceMul,dI,AOpRun,aexec,Nat.reduceBEq,↓eget_h,run1,isSh,↓reduceIte,abin,kq]
  subst hK
  simp only [thenQ,blockQ,if_true,if_false,Nat.reduceEqDiff,reduceCtorEq]
  refine aw_condT rfl (aw_skip ?_)
  simp only [thenQ,blockQ,if_true,if_false,Nat.reduceEqDiff,reduceCtorEq]
  have u1 : 0 ≤ (v : Int) * c.un := Int.mul_nonneg (by omega) (by omega)
  have u2 : (v : Int) * c.un ≤ 6000 := by
    have := Int.mul_le_mul (show (v : Int) ≤ 6 by omega) hu.2 (by omega) (by omega)
    omega
  have o1 := r3One_ac ((v : Int) * c.un)
  have hEi : (E : Int).toNat = E := by omega
  have hr1 := rwK_one c a v E
  refine aw_seq (aw_block (aw_seq (aw_hide fun K hK => aw_region ?_)))
  simp (disch := first | exact okY | omega) only [ZU,Nat.reduceAdd,Nat.reduceMul,AOpRun,aexec,↓eget_h,Nat.reduceBEq,run1,isSh,↓reduceIte,abin,hE,fits,cast_lit,and_true,true_and,hEi,hr1]
  refine ago_if (by omega) ?_
  simp (disch := first | exact okY | omega) only [ZU,Nat.reduceAdd,Nat.reduceBEq,AOpRun,aexec,↓eget_h]
  subst hK
  simp only [thenQ,blockQ,if_true,if_false,Nat.reduceEqDiff,reduceCtorEq]
  refine aw_seq (aw_seq (aw_hide fun K hK => aw_region ?_))
  simp (disch := first | exact okY | omega) only [ZU,Nat.reduceMul,Nat.reduceAdd,AOpRun,aexec,Nat.reduceBEq]
  subst hK
  simp only [thenQ,blockQ,if_true,if_false,Nat.reduceEqDiff,reduceCtorEq]
  have ra := rowC_app (wksR c a v) (rwF c a v)
  rw [← wksR_succ] at ra
  have hrF : rwF c a v = rwK c a v E (if (v : Int) * c.un ≤ lastX c then E else 1) := by unfold rwF; rw [hEt]
  obtain ⟨u,hue⟩ : ∃ u,(v : Int) * c.un = u := ⟨_,rfl⟩
  rw [hue] at u1 u2 o1 hrF
  have rin1 := bolC_in (fun _ => False) (rwK c a v E 1)
  have rin := fun k => bolC_in (fun _ => False) (rwK c a v E k)
  have win := rowC_in (fun _ => False) (wksR c a v)
  have win2 := rowC_in (fun _ => False) (wksR c a (v + 1))
  have zin := icells_in Zc
  refine aw_block (aw_loop (fun k : Nat => ⟨[(3,.ptr 0 0),(4,.ptr 8 0),(6,.ptr 24 0),(7,.ptr 32 0),(8,dI (lastX c)),(9,dI v),(10,.vec 340 E 1),(11,dI k)],[(0,crfC c),(8,airC a),(24,inZ),(32,inY c f (ints R0) (ints R1) (.vec 320 v 1) (.vec 330 M 1)),(320,rowC (wksR c a v)),(330,icells Zc),(340,bolC (rwK c a v E k))],700⟩) (fun k => 1 ≤ k ∧ k ≤ E ∧ (¬ u ≤ lastX c → k = 1)) (fun k => E - k) ⟨1,⟨by omega,by omega,fun _ => rfl⟩,?_⟩ ?_)
  · unfold inY inZ crfC airC dI
    have e1 : ((1 : Nat) : Int) = 1 := rfl
    rw [e1]
    refine wk_q [] [(0,0),(8,8),(24,24),(32,32),(320,320),(330,330),(340,656)] ?_ ?_ <;> repeat' (first | exact trivial | exact vr_val _ | exact vr_list _ | exact vr_vec _ _ _ _ rfl | exact vr_ptr _ _ _ rfl | refine And.intro ⟨_,rfl,.inl ⟨_,rfl,by decide,?_⟩⟩ ?_ | apply And.intro | exact vrl_flat _ (by first | exact icells_in _ | exact rcells_in _ | exact scells_in _ | exact bcells_in _ | assumption))
  rintro k ⟨k1,k2,k3⟩
  have hl := bolC_len (rwK c a v E k)
  rw [rwK_len] at hl
  unfold inY inZ crfC airC
  cases q1 : decide ((k : Int) ≤ c.dr) with
  | false =>
    have hk : k = E := by have := of_decide_eq_false q1; omega
    subst hk
    have hle : u ≤ lastX c := by
      apply Classical.byContradiction
      intro hn
      have := k3 hn
      omega
    have hrow : rwF c a v = rwK c a v k k := by rw [hrF,if_pos hle]
    refine aw_seq (aw_seq (aw_hide fun K hK => aw_region ?_))
    simp (disch := first | exact okY | omega) only [ZU,Nat.reduceAdd,Nat.reduceMul,dI,AOpRun,aexec,Nat.reduceBEq,↓eget_h,run1,isSh,↓reduceIte,abin,q1,ARun_some,AG_ft]
    subst hK
    simp only [thenQ,blockQ,if_true,if_false,Nat.reduceEqDiff,reduceCtorEq]
    refine aw_condF rfl (aw_exit ?_)
    simp only [thenQ,blockQ,if_true,if_false,Nat.reduceEqDiff,reduceCtorEq]
    refine aw_wk (s' := ⟨[(3,.ptr 0 0),(4,.ptr 8 0),(6,.ptr 24 0),(7,.ptr 32 0),(8,dI (lastX c)),(9,dI v),(10,.list (bls (rwF c a v)))],[(0,crfC c),(8,airC a),(24,inZ),(32,inY c f (ints R0) (ints R1) (.vec 320 v 1) (.vec 330 M 1)),(320,rowC (wksR c a v)),(330,icells Zc)],800⟩) ?_ ?_
    · unfold inY inZ crfC airC dI
      refine wk_q [340] [(0,0),(8,8),(24,24),(32,32),(320,320),(330,330)] ?_ ?_ <;> repeat' (first | exact trivial | exact vr_val _ | exact vr_list _ | exact vr_vec _ _ _ _ rfl | exact vr_ptr _ _ _ rfl | refine vr_fl _ _ _ _ _ (by decide) rfl ?_ ?_ ?_ ?_ | refine And.intro ⟨_,rfl,.inl ⟨_,rfl,by decide,?_⟩⟩ ?_ | apply And.intro | exact vrl_flat _ (by first | exact icells_in _ | exact rcells_in _ | exact scells_in _ | exact bcells_in _ | assumption))
      all_goals first | exact bls_one _ | (rw [bls_len,hrow]; exact rwK_len _ _ _ _ _) | (rw [bolC_flat,hrow,Nat.mul_one]; exact (List.take_of_length_le (by rw [bolC_len,rwK_len]; exact Nat.le_refl _)).symm) | (rw [bolC_flat,hrow]) | exact bolC_in _ _ | (rw [bolC_len,rwK_len]; omega) | skip
    unfold inY inZ crfC airC
    refine aw_hide fun K hK => aw_region ?_
    simp (disch := first | exact okY | omega) only [ZU,Nat.reduceAdd,Nat.reduceMul,dI,AOpRun,aexec,Nat.reduceBEq,↓eget_h,run1,↓hget_h,↓reduceIte,fillD,D.isBot,D.cells,ne_eq,not_true_eq_false,Nat.reduceGT,or_self,splice,List.take,List.drop,base,Nat.mul_one,gW,Nat.le_refl,tW,elems,List.all,D.leaf,and_true,ups]
    refine ago_if (by omega) ?_
    simp (disch := first | exact okY | omega) only [ZU,ra,Nat.reduceAdd,Nat.reduceBEq,hdel_c,hdel_n,AOpRun,aexec,↓eget_h,↓hget_h,D.isBot,D.cells,Nat.reduceLeDiff,List.all,D.leaf,↓reduceIte,splice,List.take,List.drop]
    subst hK
    simp only [thenQ,blockQ,if_true,if_false,Nat.reduceEqDiff,reduceCtorEq]
    refine aw_hide fun K hK => aw_region ?_
    simp (disch := first | exact okY | omega) only [ZU,Nat.reduceAdd,Nat.reduceMul,AOpRun,aexec,Nat.reduceBEq,↓eget_h,isSh,↓reduceIte,abin,fits]
    subst hK
    refine ⟨v + 1,by omega,by omega,?_⟩
    try unfold inY
    try unfold inZ
    try unfold crfC
    try unfold airC
    try unfold dI
    refine wk_q [] [(0,0),(8,8),(24,24),(32,32),(320,832),(330,330)] ?_ ?_ <;> repeat' (first | exact trivial | exact vr_val _ | exact vr_list _ | exact vr_vec _ _ _ _ rfl | exact vr_ptr _ _ _ rfl | refine And.intro ⟨_,rfl,.inl ⟨_,rfl,by decide,?_⟩⟩ ?_ | apply And.intro | exact vrl_flat _ (by first | exact icells_in _ | exact rcells_in _ | exact scells_in _ | exact bcells_in _ | assumption))
  | true =>
  cases q2 : decide (u ≤ lastX c) with
  | false =>
    have hn : ¬ u ≤ lastX c := of_decide_eq_false q2
    obtain rfl : k = 1 := k3 hn
    have e1 : ((1 : Nat) : Int) = 1 := rfl
    rw [e1] at q1 ⊢
    have hrow : rwF c a v = rwK c a v E 1 := by rw [hrF,if_neg hn]
    refine aw_seq (aw_seq (aw_hide fun K hK => aw_region ?_))
    simp (disch := first | exact okY | omega) only [ZU,Nat.reduceAdd,Nat.reduceMul,dI,AOpRun,aexec,Nat.reduceBEq,↓eget_h,run1,isSh,↓reduceIte,abin,q1,ARun_some,AG_tt,hue,fits,q2]
    subst hK
    simp only [thenQ,blockQ,if_true,if_false,Nat.reduceEqDiff,reduceCtorEq]
    refine aw_condF rfl (aw_exit ?_)
    simp only [thenQ,blockQ,if_true,if_false,Nat.reduceEqDiff,reduceCtorEq]
    refine aw_wk (s' := ⟨[(3,.ptr 0 0),(4,.ptr 8 0),(6,.ptr 24 0),(7,.ptr 32 0),(8,dI (lastX c)),(9,dI v),(10,.list (bls (rwF c a v)))],[(0,crfC c),(8,airC a),(24,inZ),(32,inY c f (ints R0) (ints R1) (.vec 320 v 1) (.vec 330 M 1)),(320,rowC (wksR c a v)),(330,icells Zc)],800⟩) ?_ ?_
    · unfold inY inZ crfC airC dI
      refine wk_q [340] [(0,0),(8,8),(24,24),(32,32),(320,320),(330,330)] ?_ ?_ <;> repeat' (first | exact trivial | exact vr_val _ | exact vr_list _ | exact vr_vec _ _ _ _ rfl | exact vr_ptr _ _ _ rfl | refine vr_fl _ _ _ _ _ (by decide) rfl ?_ ?_ ?_ ?_ | refine And.intro ⟨_,rfl,.inl ⟨_,rfl,by decide,?_⟩⟩ ?_ | apply And.intro | exact vrl_flat _ (by first | exact icells_in _ | exact rcells_in _ | exact scells_in _ | exact bcells_in _ | assumption))
      all_goals first | exact bls_one _ | (rw [bls_len,hrow]; exact rwK_len _ _ _ _ _) | (rw [bolC_flat,hrow,Nat.mul_one]; exact (List.take_of_length_le (by rw [bolC_len,rwK_len]; exact Nat.le_refl _)).symm) | (rw [bolC_flat,hrow]) | exact bolC_in _ _ | (rw [bolC_len,rwK_len]; omega) | skip
    unfold inY inZ crfC airC
    refine aw_hide fun K hK => aw_region ?_
    simp (disch := first | exact okY | omega) only [ZU,Nat.reduceAdd,Nat.reduceMul,dI,AOpRun,aexec,Nat.reduceBEq,↓eget_h,run1,↓hget_h,↓reduceIte,fillD,D.isBot,D.cells,ne_eq,not_true_eq_false,Nat.reduceGT,or_self,splice,List.take,List.drop,base,Nat.mul_one,gW,Nat.le_refl,tW,elems,List.all,D.leaf,and_true,ups]
    refine ago_if (by omega) ?_
    simp (disch := first | exact okY | omega) only [ZU,ra,Nat.reduceAdd,Nat.reduceBEq,hdel_c,hdel_n,AOpRun,aexec,↓eget_h,↓hget_h,D.isBot,D.cells,Nat.reduceLeDiff,List.all,D.leaf,↓reduceIte,splice,List.take,List.drop]
    subst hK
    simp only [thenQ,blockQ,if_true,if_false,Nat.reduceEqDiff,reduceCtorEq]
    refine aw_hide fun K hK => aw_region ?_
    simp (disch := first | exact okY | omega) only [ZU,Nat.reduceAdd,Nat.reduceMul,AOpRun,aexec,Nat.reduceBEq,↓eget_h,isSh,↓reduceIte,abin,fits]
    subst hK
    refine ⟨v + 1,by omega,by omega,?_⟩
    try unfold inY
    try unfold inZ
    try unfold crfC
    try unfold airC
    try unfold dI
    refine wk_q [] [(0,0),(8,8),(24,24),(32,32),(320,832),(330,330)] ?_ ?_ <;> repeat' (first | exact trivial | exact vr_val _ | exact vr_list _ | exact vr_vec _ _ _ _ rfl | exact vr_ptr _ _ _ rfl | refine And.intro ⟨_,rfl,.inl ⟨_,rfl,by decide,?_⟩⟩ ?_ | apply And.intro | exact vrl_flat _ (by first | exact icells_in _ | exact rcells_in _ | exact scells_in _ | exact bcells_in _ | assumption))
  | true =>
  have hle : u ≤ lastX c := of_decide_eq_true q2
  have hkE : k < E := by have := of_decide_eq_true q1; omega
  have s1 : 0 ≤ (k : Int) * c.st := Int.mul_nonneg (by omega) (by omega)
  have s2 : (k : Int) * c.st ≤ 3000 := by
    have := Int.mul_le_mul (show (k : Int) ≤ 3 by omega) hst.2 (by omega) (by omega)
    omega
  have o2 := r3One_ac ((k : Int) * c.st)
  have cwk := cw (u,u) ((k : Int) * c.st,(k : Int) * c.st) (spVB_t2 (by omega) (by omega)) (spVB_t2 (by omega) (by omega)) (by
    rw [liesB_is]
    simp only [Bool.and_eq_true,decide_eq_true_eq]
    unfold lastX at hle
    omega)
  have hset := rwK_set c a v E k (by omega) hkE
  have hwv : wkV c a v k = wkR c.r a (u,u) ((k : Int) * c.st,(k : Int) * c.st) := by unfold wkV; rw [hue]
  rw [hwv] at hset
  simp only at cwk
  generalize hz : (k : Int) * c.st = z at *
  generalize wkR c.r a (u,u) (z,z) = b at *
  have kt : (k : Int).toNat = k := by omega
  have ki : (k : Int) < (E : Int) := by omega
  have k0 : (0 : Int) ≤ (k : Int) := by omega
  have hb2 := rin (k + 1)
  have rl2 := rwK_len c a v E (k + 1)
  refine aw_seq (aw_seq (aw_hide fun K hK => aw_region ?_))
  simp (disch := first | exact okY | omega) only [ZU,Nat.reduceAdd,Nat.reduceMul,dI,AOpRun,aexec,Nat.reduceBEq,↓eget_h,run1,isSh,↓reduceIte,abin,q1,ARun_some,AG_tt,hue,fits,q2]
  subst hK
  simp only [thenQ,blockQ,if_true,if_false,Nat.reduceEqDiff,reduceCtorEq]
  refine aw_condT rfl (aw_skip ?_)
  simp only [thenQ,blockQ,if_true,if_false,Nat.reduceEqDiff,reduceCtorEq]
  refine aw_seq (aw_block (aw_hide fun K hK => aw_region ?_))
  simp (disch := first | exact okY | omega) only [ZU,Nat.reduceAdd,Nat.reduceMul,AOpRun,aexec,Nat.reduceBEq,↓eget_h,Nat.reduceLeDiff,↓reduceIte,List.drop,List.take,↓hget_h,run1,isSh,abin,hue,fits]
  refine acall0 o1 ?_
  simp (disch := first | exact okY | omega) only [ZU,Nat.reduceAdd,dI,Nat.reduceBEq,AOpRun,aexec,↓eget_h,run1,isSh,↓reduceIte,abin,hz,fits]
  refine acall0 o2 ?_
  simp (disch := first | exact okY | omega) only [ZU,Nat.reduceAdd,dI,Nat.reduceBEq,AOpRun,↓eget_h]
  refine acall0 cwk ?_
  simp (disch := first | exact okY | omega) only [ZU,Nat.reduceAdd,dB,dI,Nat.reduceBEq,AOpRun,aexec,↓eget_h,opt1,k0,ki,↓reduceIte,kt,Nat.mul_one,↓hget_h,D.isBot,D.cells,hl,List.all,D.leaf,and_true,true_and,splice,hset]
  refine ago_if (by omega) ?_
  simp (disch := first | exact okY | omega) only [ZU,Nat.reduceAdd,Nat.reduceBEq]
  subst hK
  simp only [thenQ,blockQ,if_true,if_false,Nat.reduceEqDiff,reduceCtorEq]
  refine aw_hide fun K hK => aw_region ?_
  simp (disch := first | exact okY | omega) only [ZU,Nat.reduceAdd,Nat.reduceMul,AOpRun,aexec,Nat.reduceBEq,↓eget_h,isSh,↓reduceIte,abin,fits]
  subst hK
  refine ⟨k + 1,⟨by omega,by omega,fun hn => absurd hle hn⟩,by omega,?_⟩
  try unfold inY
  try unfold inZ
  try unfold crfC
  try unfold airC
  try unfold dI
  refine wk_q [] [(0,0),(8,8),(24,24),(32,32),(320,320),(330,330),(340,340)] ?_ ?_ <;> repeat' (first | exact trivial | exact vr_val _ | exact vr_list _ | exact vr_vec _ _ _ _ rfl | exact vr_ptr _ _ _ rfl | refine And.intro ⟨_,rfl,.inl ⟨_,rfl,by decide,?_⟩⟩ ?_ | apply And.intro | exact vrl_flat _ (by first | exact icells_in _ | exact rcells_in _ | exact scells_in _ | exact bcells_in _ | assumption))
end Go.Proofs.YtbncpngjclabhaaGreat
/- reference: layer 3's check of a pose. No conditions. -/
namespace Go.Proofs.YtbncpngjclabhaaGreat
open Go Go.RowKit Lift

structure PoseIn (c : Crf) (a : Air) (f : Fld) (p : Ps) : Prop where
  cr : CrOk c a
  fl : FldOk f
  po : PsOk (steOf c a f) p
  dn : p.h = 0 → downB (steOf c a f) p = true
def psE (c : Crf) (f : Fld) (p : Ps) : Int := if poseB c p = true then (if p.h = 0 then (if poseDn c f p = true then 0 else 32) else 0) else 32
theorem psE_ok {c : Crf} {a : Air} {f : Fld} {p : Ps} (h1 : CrOk c a) (h2 : FldOk f) (h : psE c f p = 0) : PoseIn c a f p := by
  unfold psE at h
  by_cases q1 : poseB c p = true
  case neg => rw [if_neg q1] at h; cases h
  rw [if_pos q1] at h
  unfold poseB at q1
  simp only [Bool.and_eq_true,wI,decide_eq_true_eq] at q1
  refine ⟨h1,h2,⟨q1.1.1,q1.1.2,q1.2.1.1,q1.2.1.2,q1.2.2.1,q1.2.2.2⟩,fun h0 => ?_⟩
  rw [if_pos h0] at h
  by_cases q2 : poseDn c f p = true
  case neg => rw [if_neg q2] at h; cases h
  exact q2
theorem r3Pose_ac (c : Crf) (a : Air) (f : Fld) (p : Ps) (hs : RotSm c.r) : ∃ e : Int,AC Tryz.prog 5 [.agg (crfC c),airD a,.agg (fldC f),.agg (psL p)] [] [] (dI e) ∧ (e = 0 → PoseIn c a f p) := by
  obtain ⟨e0,c1,hc⟩ := r3All_ac c a f hs
  by_cases h0 : e0 = 0
  case neg =>
    refine ⟨e0,?_,fun h => absurd h h0⟩
    have q : (e0 != 0) = true := by simpa using h0
    refine kref03_CheckPose.ac (n0 := 0) (by simp) ⟨.agg _ (wals_in (c := crfC c) rfl),in_airD _ _,.agg _ (wals_in (c := fldC f) rfl),.agg _ (wals_in (c := psL p) rfl),trivial⟩ trivial rfl ?_
    unfold cref03_CheckPose
    unfold crfC airD airC fldC psL at *
    (repeat' (first | (with_reducible first | refine thenQ_n ?_ | refine blockQ_n ?_ | refine thenQ_e ?_ | refine blockQ_t ?_ | refine blockQ_f (by decide) ?_) | apply aw_seq | apply aw_skip | apply aw_exit | apply aw_ret | apply aw_block | apply aw_condT rfl | apply aw_condF rfl | ((first | refine aw_hide fun K hK => aw_region ?_ | refine acall0 (c1) ?_ | refine ago_if (by omega) ?_ | skip); simp (disch := first | exact okY | omega) only [ZU,Nat.reduceAdd,Nat.reduceMul,dI,AOpRun,aexec,D.isBot,↓eget_h,or_self,↓reduceIte,D.cells,Nat.reduceBEq,Nat.reduceLeDiff,List.drop,List.take,↓hget_h,isSh,abin,q]) | subst hK))
    all_goals (refine end_q [] [] ?_ ?_ <;> repeat' (first | exact trivial | exact vr_val _))
  obtain ⟨hC,hF⟩ := hc h0
  refine ⟨psE c f p,?_,fun h => psE_ok hC hF h⟩
  subst h0
  clear hc
  have c2 := r3In_ac c a f hC
  have c3 := fun x y z u => r3Valid_ac c f x y z u p
  have c4 := fun x y z u => r3DownP_ac c f x y z u p
  unfold inX at c2
  generalize (ints (rtsR c a (hvR c a false).1 (topN c))) = X1 at *
  generalize (ints (rtsR c a (hvR c a true).1 (topN c))) = X2 at *
  generalize (blss (wksR c a (topN c))) = X3 at *
  generalize (ints covR) = X4 at *
  have c3 := c3 X1 X2 X3 X4
  have c4 := c4 X1 X2 X3 X4
  refine kref03_CheckPose.ac (n0 := 0) (by simp) ⟨.agg _ (wals_in (c := crfC c) rfl),in_airD _ _,.agg _ (wals_in (c := fldC f) rfl),.agg _ (wals_in (c := psL p) rfl),trivial⟩ trivial rfl ?_
  unfold psE
  generalize hV : poseB c p = V at *
  generalize hW : poseDn c f p = W at *
  clear hV hW hC hF
  unfold cref03_CheckPose
  unfold inC at *
  unfold crfC airD airC fldC psL at *
  cases V with
  | false =>
    simp only [Bool.false_eq_true,if_false]
    (repeat' (first | (with_reducible first | refine thenQ_n ?_ | refine blockQ_n ?_ | refine thenQ_e ?_ | refine blockQ_t ?_ | refine blockQ_f (by decide) ?_) | apply aw_seq | apply aw_skip | apply aw_exit | apply aw_ret | apply aw_block | apply aw_condT rfl | apply aw_condF rfl | ((first | refine aw_hide fun K hK => aw_region ?_ | refine acall0 (c1) ?_ | refine acall0 (c2) ?_ | refine acall0 (c3) ?_ | refine ago_if (by omega) ?_ | skip); simp (disch := first | exact okY | omega) only [ZU,Nat.reduceAdd,Nat.reduceMul,dI,AOpRun,aexec,D.isBot,↓eget_h,or_self,↓reduceIte,D.cells,Nat.reduceBEq,Nat.reduceLeDiff,List.drop,List.take,↓hget_h,isSh,abin,bne_self_eq_false,List.all,D.leaf,splice,dB,ARun_some,AG_tf,AG_un]) | subst hK))
    all_goals (refine end_q [] [] ?_ ?_ <;> repeat' (first | exact trivial | exact vr_val _))
  | true =>
  simp only [if_true]
  by_cases q : p.h = 0
  case neg =>
    have q4 : (p.h == 0) = false := by simpa using q
    rw [if_neg q]
    (repeat' (first | (with_reducible first | refine thenQ_n ?_ | refine blockQ_n ?_ | refine thenQ_e ?_ | refine blockQ_t ?_ | refine blockQ_f (by decide) ?_) | apply aw_seq | apply aw_skip | apply aw_exit | apply aw_ret | apply aw_block | apply aw_condT rfl | apply aw_condF rfl | ((first | refine aw_hide fun K hK => aw_region ?_ | refine acall0 (c1) ?_ | refine acall0 (c2) ?_ | refine acall0 (c3) ?_ | refine ago_if (by omega) ?_ | skip); simp (disch := first | exact okY | omega) only [ZU,Nat.reduceAdd,Nat.reduceMul,dI,AOpRun,aexec,D.isBot,↓eget_h,or_self,↓reduceIte,D.cells,Nat.reduceBEq,Nat.reduceLeDiff,List.drop,List.take,↓hget_h,isSh,abin,bne_self_eq_false,List.all,D.leaf,splice,dB,ARun_some,AG_ff,run1,q4,AG_ft]) | subst hK))
    all_goals (refine end_q [] [] ?_ ?_ <;> repeat' (first | exact trivial | exact vr_val _))
  have q4 : (p.h == 0) = true := by simpa using q
  rw [if_pos q]
  cases W with
  | false =>
    simp only [Bool.false_eq_true,if_false]
    (repeat' (first | (with_reducible first | refine thenQ_n ?_ | refine blockQ_n ?_ | refine thenQ_e ?_ | refine blockQ_t ?_ | refine blockQ_f (by decide) ?_) | apply aw_seq | apply aw_skip | apply aw_exit | apply aw_ret | apply aw_block | apply aw_condT rfl | apply aw_condF rfl | ((first | refine aw_hide fun K hK => aw_region ?_ | refine acall0 (c1) ?_ | refine acall0 (c2) ?_ | refine acall0 (c3) ?_ | refine acall0 (c4) ?_ | refine ago_if (by omega) ?_ | skip); simp (disch := first | exact okY | omega) only [ZU,Nat.reduceAdd,Nat.reduceMul,dI,AOpRun,aexec,D.isBot,↓eget_h,or_self,↓reduceIte,D.cells,Nat.reduceBEq,Nat.reduceLeDiff,List.drop,List.take,↓hget_h,isSh,abin,bne_self_eq_false,List.all,D.leaf,splice,dB,ARun_some,AG_ff,run1,q4,AG_tt]) | subst hK))
    all_goals (refine end_q [] [] ?_ ?_ <;> repeat' (first | exact trivial | exact vr_val _))
  | true =>
    simp only [if_true]
    (repeat' (first | (with_reducible first | refine thenQ_n ?_ | refine blockQ_n ?_ | refine thenQ_e ?_ | refine blockQ_t ?_ | refine blockQ_f (by decide) ?_) | apply aw_seq | apply aw_skip | apply aw_exit | apply aw_ret | apply aw_block | apply aw_condT rfl | apply aw_condF rfl | ((first | refine aw_hide fun K hK => aw_region ?_ | refine acall0 (c1) ?_ | refine acall0 (c2) ?_ | refine acall0 (c3) ?_ | refine acall0 (c4) ?_ | refine ago_if (by omega) ?_ | skip); simp (disch := first | exact okY | omega) only [ZU,Nat.reduceAdd,Nat.reduceMul,dI,AOpRun,aexec,D.isBot,↓eget_h,or_self,↓reduceIte,D.cells,Nat.reduceBEq,Nat.reduceLeDiff,List.drop,List.take,↓hget_h,isSh,abin,bne_self_eq_false,List.all,D.leaf,splice,dB,ARun_some,AG_ff,run1,q4,AG_tt]) | subst hK))
    all_goals (refine end_q [] [] ?_ ?_ <;> repeat' (first | exact trivial | exact vr_val _))
end Go.Proofs.YtbncpngjclabhaaGreat
/- A way down, and the descent that its steps make: the plain law. No conditions. -/
namespace Go.Proofs.YtbncpngjclabhaaGreat
open Go Go.RowKit Lift

def atP (p : Ps) (l : List Ps) (k : Nat) : Ps := (p :: l)[k]?.getD p
theorem atP_succ (p : Ps) (l : List Ps) (k : Nat) (h : k < l.length) : atP p l (k + 1) = l[k] := by simp [atP,h]
theorem atP_app (p : Ps) (l m : List Ps) (k : Nat) (h : k ≤ l.length) : atP p (l ++ m) k = atP p l k := by
  cases k with
  | zero => rfl
  | succ k => rw [atP_succ _ _ _ (by simp; omega),atP_succ _ _ _ (by omega),List.getElem_append_left]
theorem path_end {s : Ste} {p e : Ps} {l : List Ps} (h : Path s p l e) : atP p l l.length = e := by
  cases h with
  | nil => rfl
  | snoc l e b hp hb => rw [List.length_append,List.length_singleton,atP_succ _ _ _ (by simp)]; simp
theorem path_step {s : Ste} {p e : Ps} {l : List Ps} (h : Path s p l e) : ∀ k,k < l.length → atP p l (k + 1) ∈ stepsL s (atP p l k) := by
  induction h with
  | nil => intro k hk; simp at hk
  | snoc l e b hp hb ih =>
    intro k hk
    simp at hk
    rcases Nat.lt_or_ge k l.length with h1 | h1
    · rw [atP_app _ _ _ _ (by omega),atP_app _ _ _ _ (by omega)]
      exact ih k h1
    · obtain rfl : k = l.length := by omega
      rw [atP_app _ _ _ _ (by omega),path_end hp,atP_succ _ _ _ (by simp)]
      simpa using hb
theorem path_ok {s : Ste} (hs : SteOk s) {p e : Ps} {l : List Ps} (h : Path s p l e) (hp : PsOk s p) : ∀ k,k ≤ l.length → PsOk s (atP p l k)
  | 0,_ => hp
  | k + 1,hk => (steps_ok hs (path_ok hs h hp k (by omega)) (path_step h k (by omega))).ok
theorem wayF_len {s : Ste} {f : Ps} (hs : SteOk s) : ∀ (n : Nat) (L : List (Ps × Ps)) (k : Nat) (l : List Ps),Inv s f L → wayF s f n L k = some l → l.length ≤ 7371
  | 0,L,k,l,_,h => by simp [wayF] at h
  | n + 1,L,k,l,hi,h => by
    simp only [wayF] at h
    split at h
    · cases h
    · rename_i e he
      split at h
      · cases h
        rw [List.length_reverse]
        exact Nat.le_trans (chain_len _ _ _) (inv_len hs hi)
      · obtain ⟨h1,h2⟩ := inv_addL hs hi he (l := stepsL s e.1) (fun x hx => hx)
        exact wayF_len hs n _ _ l h1 h
def takeB (c : Crf) (p q : Ps) : Bool := decide (q.h > 0) && (decide (q.h < p.h) && decide (q.v * c.un ≤ lastX c))
def drF (c : Crf) (p : Ps) (l : List Ps) : Nat → List (Int × Int)
  | 0 => []
  | k + 1 => drF c p l k ++ (if takeB c (atP p l k) (atP p l (k + 1)) = true then [((atP p l (k + 1)).v * c.un,((atP p l k).h - (atP p l (k + 1)).h) * c.st)] else [])
theorem drF_len (c : Crf) (p : Ps) (l : List Ps) : ∀ k,(drF c p l k).length ≤ k
  | 0 => by simp [drF]
  | k + 1 => by
    have := drF_len c p l k
    simp only [drF,List.length_append]
    split <;> simp <;> omega
theorem wat_wks {c : Crf} {a : Air} {v d : Int} (hv1 : 0 ≤ v) (hv2 : v ≤ c.top) (hd1 : 0 ≤ d) (hd2 : d ≤ c.dr) : wat (wks c a (topN c)) v d = wkD c a v.toNat d.toNat := by
  unfold wat wks
  have h1 : v.toNat < topN c := by unfold topN; omega
  have h2 : d.toNat < (c.dr + 1).toNat := by omega
  simp [h1,wkRow,h2]
theorem step_drop {c : Crf} {a : Air} {f : Fld} (h : CrOk c a) {p q : Ps} (hp : PsOk (steOf c a f) p) (hq : StepOk (steOf c a f) p q) (ht : takeB c p q = true) : DropOk c.r a (q.v * c.un,(p.h - q.h) * c.st) := by
  have hi := crB_in h.b
  have hu := wI_t hi.u
  have hst := wI_t hi.s
  have htp := wI_t hi.t
  have hdr := wI_t hi.d
  simp only [takeB,Bool.and_eq_true,decide_eq_true_eq] at ht
  obtain ⟨t1,t2,t3⟩ := ht
  have v1 := hq.ok.v1
  have v2 : q.v ≤ c.top := hq.ok.v2
  have d2 : p.h - q.h ≤ c.dr := hq.drop
  have u1 : 0 ≤ q.v * c.un := Int.mul_nonneg v1 (by omega)
  have u2 : q.v * c.un ≤ 6000 := by
    have := Int.mul_le_mul (show q.v ≤ 6 by omega) hu.2 (by omega) (by omega)
    omega
  have s1 : 0 ≤ (p.h - q.h) * c.st := Int.mul_nonneg (by omega) (by omega)
  have s2 : (p.h - q.h) * c.st ≤ 3000 := by
    have := Int.mul_le_mul (show p.h - q.h ≤ 3 by omega) hst.2 (by omega) (by omega)
    omega
  have hly := h.l2
  rw [liesB_is] at hly
  simp only [Bool.and_eq_true,decide_eq_true_eq] at hly
  refine ⟨spVB_t2 (by omega) (by omega),s1,s2,ly_of ?_ h.p4,?_⟩
  · rw [liesB_is]
    simp only [Bool.and_eq_true,decide_eq_true_eq]
    unfold lastX at t3
    omega
  · have hf := hq.free
    unfold sinksB at hf
    rw [decide_eq_true t1,decide_eq_true t2,Bool.true_and,Bool.true_and] at hf
    have hw : wat (wks c a (topN c)) q.v (p.h - q.h) = false := hf
    rw [wat_wks v1 v2 (by omega) d2] at hw
    have e1 : ((q.v.toNat : Nat) : Int) = q.v := by omega
    have e2 : (((p.h - q.h).toNat : Nat) : Int) = p.h - q.h := by omega
    unfold wkD at hw
    rw [e1,e2,decide_eq_true (show p.h - q.h > 0 by omega),decide_eq_true t3,Bool.true_and,Bool.true_and] at hw
    exact hw
theorem drF_ok {c : Crf} {a : Air} {f : Fld} (h : CrOk c a) (hf : FldOk f) {p e : Ps} {l : List Ps} (hp : PsOk (steOf c a f) p) (hl : Path (steOf c a f) p l e) : ∀ k,k ≤ l.length → ∀ x ∈ drF c p l k,DropOk c.r a x
  | 0,_,x,hx => by simp [drF] at hx
  | k + 1,hk,x,hx => by
    simp only [drF,List.mem_append] at hx
    rcases hx with hx | hx
    · exact drF_ok h hf hp hl k (by omega) x hx
    · split at hx
      · rename_i ht
        simp only [List.mem_singleton] at hx
        subst hx
        have ok := path_ok (steOk_of h hf) hl hp k (by omega)
        exact step_drop h ok (steps_ok (steOk_of h hf) ok (path_step hl k (by omega))) ht
      · cases hx
theorem sumK_app (l m : List (Int × Int)) : ∀ i,i ≤ l.length → sumK (l ++ m) i = sumK l i
  | 0,_ => rfl
  | i + 1,hi => by
    simp only [sumK,sumK_app l m i (by omega)]
    rw [List.getElem?_append_left (by omega)]
theorem sumK_one (l : List (Int × Int)) (x : Int × Int) : sumK (l ++ [x]) (l ++ [x]).length = sumK l l.length + x.2 := by
  have : (l ++ [x]).length = l.length + 1 := by simp
  rw [this]
  simp only [sumK]
  rw [sumK_app l [x] l.length (Nat.le_refl _)]
  simp
def lostF (c : Crf) (p : Ps) (l : List Ps) (k : Nat) : Int := sumK (drF c p l k) (drF c p l k).length
theorem dro_get {r : Rot} {a : Air} {l : List (Int × Int)} (h : ∀ x ∈ l,DropOk r a x) (k : Nat) (hk : k < l.length) : DropOk r a (l[k]?.getD (0,0)) := by
  rw [List.getElem?_eq_getElem hk,Option.getD_some]
  exact h _ (List.getElem_mem hk)
def dcl (l : List (Int × Int)) : List D := (drL l).flatten
theorem dcl_len (l : List (Int × Int)) : (dcl l).length = l.length * 5 := by
  unfold dcl
  induction l with
  | nil => rfl
  | cons x l ih => simp [drL] at ih ⊢; omega
theorem dcl_app (l : List (Int × Int)) (x : Int × Int) : dcl l ++ [.val (.int .i64 x.1),.val (.int .i64 x.1),.val (.int .i64 x.2),.val (.int .i64 x.2),.val (.int .i64 1)] = dcl (l ++ [x]) := by simp [dcl,drL]
theorem dcl_in (S : Nat → Prop) (l : List (Int × Int)) : ∀ d ∈ dcl l,In S d := by
  intro d hd
  simp only [dcl,drL,List.mem_flatten,List.mem_map] at hd
  obtain ⟨y,⟨x,_,rfl⟩,hd⟩ := hd
  simp only [List.mem_cons,List.not_mem_nil,or_false] at hd
  rcases hd with rfl | rfl | rfl | rfl | rfl <;> exact .val _
theorem drL_five (l : List (Int × Int)) : ∀ e ∈ drL l,e.length = 5 := by
  intro e he; obtain ⟨p,_,rfl⟩ := List.mem_map.1 he; rfl
theorem pss_gd (l : List Ps) (k : Nat) (h : k < l.length) : (pss l)[k]? = some (psL l[k]) := by simp [pss,h]
end Go.Proofs.YtbncpngjclabhaaGreat
/- The functions' bodies, translated. Written by a program; no conditions. -/
namespace Go.Proofs.YtbncpngjclabhaaGreat
open Go.RowKit Lift

def ctop_measures : ACode :=
 (.seq
 (.region false [oo 0 (.mv (.const (.bool false)))] [])
 (.seq
 (.region false [oo 4 (.buildSl 1 3 [(.val (.int .i64 0)),(.val (.int .i64 0)),(.val (.int .i64 0))] [(0,1,(kI 0)),(1,1,(kI 10)),(2,1,(kI 20))]),
 oo 5 (.buildSl 1 2 [(.val (.int .i64 0)),(.val (.int .i64 0))] [(0,1,(kI 0)),(1,1,(kI 5))]),
 oo 6 (.buildSl 1 2 [(.val (.int .i64 0)),(.val (.int .i64 0))] [(0,1,(kI 0)),(1,1,(kI 10))]),
 oo 7 (.buildSl 1 2 [(.val (.int .i64 0)),(.val (.int .i64 0))] [(0,1,(kI 20)),(1,1,(kI 30))]),
 oo 8 (.buildSl 1 2 [(.val (.int .i64 0)),(.val (.int .i64 0))] [(0,1,(kI 10)),(1,1,(kI 50))]),
 oo 9 (.buildSl 1 3 [(.val (.slice none 0 0)),(.val (.slice none 0 0)),(.val (.slice none 0 0))] [(0,1,(.tmp 6)),(1,1,(.tmp 7)),(2,1,(.tmp 8))]),
 oo 10 (.build [(.val (.slice none 0 0)),(.val (.slice none 0 0)),(.val (.slice none 0 0))] [(0,1,(.tmp 4)),(1,1,(.tmp 5)),(2,1,(.tmp 9))]),
 oo 1 (.mem [(.val (.slice none 0 0)),(.val (.slice none 0 0)),(.val (.slice none 0 0))]),
 on (.store 3 (.tmp 1) (.tmp 10))] [4,5,6,7,8,9,10])
 (.seq
 (.region false [oo 12 (.loadN 3 (.tmp 1)),
 oo 13 (.build [(.val (.int .i64 0)),(.val (.int .i64 0))] [(0,1,(kI 5)),(1,1,(kI 15))]),
 oo 14 (.build [(.val (.int .i64 0)),(.val (.int .i64 0))] [(1,1,(kI 5))]),
 oo 15 (.call (.func 15) [(.tmp 12),(.tmp 13),(.tmp 14)]),
 om 11 15,
 oo 16 (.ext (.tmp 11) 0),
 oo 17 (.ext (.tmp 11) 1),
 oo 2 (.mem [(.val (.int .i64 0)),(.val (.int .i64 0))]),
 on (.store 2 (.tmp 2) (.tmp 16)),
 om 3 17] [12,13,14,15,11,16,17])
 (.seq
 (.region false [om 18 3,
 oo 19 (.bin .eql (.tmp 18) (kI 0)),
 om 20 19,
 og 21 20 true (.loadN 2 (.tmp 2)) [],
 og 22 20 true (.build [(.val (.int .i64 0)),(.val (.int .i64 0))] [(0,1,(kI 10)),(1,1,(kI 40))]) [],
 og 23 20 true (.eqa false [false,false] (.tmp 21) (.tmp 22)) [],
 oo 24 (.pick (.tmp 20) (.tmp 23) (.const (.bool false))),
 om 0 24] [18,19,20,21,22,23,24])
 .ret))))
theorem ktop_measures : IsCode Tryz.prog 6 25 ctop_measures [.tmp 0] :=
 ⟨Tryz.f6,_,[1,3,2,0],Tryz.func6,rfl,by decide,rfl,by kernel_rfl,by kernel_rfl⟩
end Go.Proofs.YtbncpngjclabhaaGreat
/- The tops' look at a table. No conditions. -/
namespace Go.Proofs.YtbncpngjclabhaaGreat
open Go.RowKit Lift

theorem top_bound : boundR [0,10,20] [0,5] [[0,10],[20,30],[10,50]] (5,15) (0,5) = ((10,40),0) := by decide +kernel
theorem measures_ac : AC Tryz.prog 6 [] [] [] (dB true) := by
  refine ktop_measures.ac (n0 := 0) (by simp) trivial trivial rfl ?_
  unfold ctop_measures
  have bd := bound_ac (xs := [0,10,20]) (ys := [0,5]) (vs := [[0,10],[20,30],[10,50]]) (5,15) (0,5) ⟨by decide,by decide,by decide,by intro r hr; simp at hr; rcases hr with rfl | rfl | rfl <;> decide⟩
  rw [top_bound] at bd
  unfold spD dI at bd
  refine aw_seq (aw_region ?_)
  simp (disch := first | exact okY | omega) only [ZU,dB,Nat.reduceMul,AOpRun,aexec]
  refine aw_seq (aw_region ?_)
  simp (disch := first | exact okY | omega) only [ZU,Nat.reduceAdd,Nat.reduceMul,AOpRun,aexec,↓reduceIte,fillD,D.isBot,D.cells,ne_eq,not_true_eq_false,Nat.reduceGT,or_self,splice,List.take,List.drop,Nat.reduceBEq,↓eget_h,↓hget_h,Nat.reduceLeDiff,List.all,D.leaf]
  refine aw_wk (s' := ⟨[(1,.ptr 0 0)],[(0,[.list (ints [0,10,20]),.list (ints [0,5]),.vec 40 3 1]),(40,[.list (ints [0,10]),.list (ints [20,30]),.list (ints [10,50])])],400⟩) ?_ ?_
  · refine wk_q [8,16,24,32,40] [(0,64),(40,48)] ?_ ?_ <;> repeat' (first | exact trivial | exact vr_vec _ _ _ _ rfl | exact vr_ptr _ _ _ rfl | refine vr_fl _ _ _ _ _ (by decide) rfl ?_ ?_ ?_ ?_ | refine And.intro ⟨_,rfl,.inl ⟨_,rfl,by decide,?_⟩⟩ ?_ | apply And.intro)
    all_goals first | exact ints_one _ | rfl | exact icells_in [_,_] | exact icells_in [_,_,_]
  refine aw_wk (s' := ⟨[(1,.ptr 0 0)],[(0,[.list (ints [0,10,20]),.list (ints [0,5]),.list (rows [[0,10],[20,30],[10,50]])])],400⟩) ?_ ?_
  · refine wk_q [40] [(0,0)] ?_ ?_ <;> repeat' (first | exact trivial | exact vr_list _ | exact vr_ptr _ _ _ rfl | refine vr_fl _ _ _ _ _ (by decide) rfl ?_ ?_ ?_ ?_ | refine And.intro ⟨_,rfl,.inl ⟨_,rfl,by decide,?_⟩⟩ ?_ | apply And.intro)
    all_goals first | exact rows_one [[0,10],[20,30],[10,50]] | rfl | exact rcells_in [[0,10],[20,30],[10,50]]
  unfold tabD at bd
  (repeat' (first | (with_reducible first | refine thenQ_n ?_ | refine blockQ_n ?_ | refine thenQ_e ?_ | refine blockQ_t ?_ | refine blockQ_f (by decide) ?_) | apply aw_seq | apply aw_skip | apply aw_exit | apply aw_ret | apply aw_block | apply aw_condT rfl | apply aw_condF rfl | ((first | refine aw_hide fun K hK => aw_region ?_ | refine acall0 (bd) ?_ | refine ago_if (by omega) ?_ | skip); simp (disch := first | exact okY | omega) only [ZU,Nat.reduceAdd,Nat.reduceMul,AOpRun,aexec,↓eget_h,Nat.reduceLeDiff,↓reduceIte,List.drop,List.take,Nat.reduceBEq,fillD,D.isBot,D.cells,ne_eq,not_true_eq_false,Nat.reduceGT,or_self,splice,opt1,↓hget_h,List.all,D.leaf,isSh,abin,ARun_some,AG_tt,D.isAgg,isB,eqCells,scalarEq]) | subst hK))
  all_goals (refine end_q [] [] ?_ ?_ <;> repeat' (first | exact trivial | exact vr_val _))
end Go.Proofs.YtbncpngjclabhaaGreat
