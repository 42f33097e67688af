/- Texts of the law TopDescends, part 8. No conditions. -/
import Derived.Test.YtbncpngjclabhaaGreatPTopDescends07
set_option linter.unusedSimpArgs false
set_option linter.unusedVariables false
set_option maxRecDepth 100000
set_option maxHeartbeats 16000000
/- rotor: what there is, and the wake, where the checks pass. No conditions. -/
namespace Go.Proofs.YtbncpngjclabhaaGreat
open Go.RowKit Lift

theorem acView {f : FuncId} {args args' : List D} {d : D} (hA : AC Tryz.prog f args' [] [] d) (hv : ∀ H,VwL H [] args args') : AC Tryz.prog f args [] [] d :=
  ⟨hA.1,fun w vs β Z H hs hr hh hfr hp => AC.view (V := []) (H := H) hA (hv H).get.1 (hv H).get.2 (.inl rfl) (by simp) (by simp) hs hr hh hfr hp⟩
theorem cfspNil_ac : AC Tryz.prog 44 [.val (.slice none 0 0),.fn 45 [] []] [] [] (dB false) := by
  have c := cfsp_ac 45 (fun x => !spVB x) roCheck1_ac [] (by simp)
  exact acView c fun H => ⟨.nil,.refl _,trivial⟩
theorem roOne_ac (n : Int) : AC Tryz.prog 22 [dI n] [] [] (.agg [dI n,dI n]) := by
  refine krotor_one.ac (n0 := 0) (by simp) ⟨.val _,trivial⟩ trivial rfl ?_
  unfold crotor_one
  (repeat' (first | (with_reducible first | refine thenQ_n ?_ | refine blockQ_n ?_ | refine thenQ_e ?_ | refine blockQ_t ?_ | refine blockQ_f (by decide) ?_) | apply aw_seq | apply aw_skip | apply aw_exit | apply aw_ret | apply aw_block | apply aw_condT rfl | apply aw_condF rfl | ((first | refine aw_hide fun K hK => aw_region ?_ | refine ago_if (by omega) ?_ | skip); simp (disch := first | exact okY | omega) only [ZU,Nat.reduceMul,dI,AOpRun,aexec,↓reduceIte,Nat.reduceBEq,Nat.reduceAdd,↓eget_h,fillD,D.isBot,D.cells,ne_eq,not_true_eq_false,Nat.reduceGT,or_self,splice,List.take,List.drop,Nat.reduceLeDiff,List.all,D.leaf]) | subst hK))
  all_goals (refine end_q [] [] ?_ ?_ <;> repeat' (first | exact trivial | exact vr_val _ | apply vr_agg | apply And.intro))
theorem roRing_ac (r : Rot) (a : Air) (s : Int × Int) : AC Tryz.prog 21 [.agg (macC r a),.agg [dI s.1,dI s.2]] [] [] (.agg (lkC r.f s a.w)) := by
  refine krotor_machine_ring.ac (n0 := 0) (by simp) ⟨.agg _ (wals_in rfl),in_sp _ s.1 s.2,trivial⟩ trivial rfl ?_
  unfold crotor_machine_ring macC lkC
  (repeat' (first | (with_reducible first | refine thenQ_n ?_ | refine blockQ_n ?_ | refine thenQ_e ?_ | refine blockQ_t ?_ | refine blockQ_f (by decide) ?_) | apply aw_seq | apply aw_skip | apply aw_exit | apply aw_ret | apply aw_block | apply aw_condT rfl | apply aw_condF rfl | ((first | refine aw_hide fun K hK => aw_region ?_ | refine ago_if (by omega) ?_ | skip); simp (disch := first | exact okY | omega) only [ZU,Nat.reduceAdd,Nat.reduceMul,dI,AOpRun,aexec,D.isBot,↓eget_h,or_self,↓reduceIte,D.cells,Nat.reduceBEq,Nat.reduceLeDiff,List.drop,List.take,↓hget_h,fillD,ne_eq,not_true_eq_false,Nat.reduceGT,splice,List.all,D.leaf]) | subst hK))
  all_goals (refine end_q [] [] ?_ ?_ <;> repeat' (first | exact trivial | exact vr_val _ | exact vr_list _ | apply vr_agg | apply And.intro))
theorem roHas1_ac (r : Rot) (a : Air) : AC Tryz.prog 113 [.ptr 0 0] [(0,macC r a)] [(0,some (macC r a))] (.list (lkL r.d a.t a.h)) := by
  refine krotor_Has_S1.ac (n0 := 200) (by simp) ⟨.ptr _ _ (by omega),trivial⟩ ⟨⟨by omega,wals_in (c := macC r a) rfl⟩,trivial⟩ rfl ?_
  unfold crotor_Has_S1
  have c := roPowerM_ac r a
  unfold macC lkL lkC at *
  (repeat' (first | (with_reducible first | refine thenQ_n ?_ | refine blockQ_n ?_ | refine thenQ_e ?_ | refine blockQ_t ?_ | refine blockQ_f (by decide) ?_) | apply aw_seq | apply aw_skip | apply aw_exit | apply aw_ret | apply aw_block | apply aw_condT rfl | apply aw_condF rfl | ((first | refine aw_hide fun K hK => aw_region ?_ | refine acall0 (c) ?_ | refine ago_if (by omega) ?_ | skip); simp (disch := first | exact okY | omega) only [ZU,Nat.reduceMul,Nat.reduceAdd,dI,AOpRun,aexec,Nat.reduceBEq,↓eget_h,Nat.reduceLeDiff,↓reduceIte,List.drop,List.take,fillD,D.isBot,D.cells,ne_eq,not_true_eq_false,Nat.reduceGT,or_self,splice]) | subst hK))
  refine end_q [224] [(0,0)] ?_ ?_ <;> repeat' (first | exact trivial | exact vr_val _ | exact vr_list _ | refine vr_fl _ _ _ _ _ (by decide) rfl ?_ ?_ ?_ ?_ | refine And.intro ⟨_,rfl,_,rfl,by decide,?_⟩ ?_ | apply And.intro)
  all_goals first | rfl | (refine wals_in ?_; rfl) | (intro e he; simp at he; subst he; rfl)
theorem roWake1_ac (r : Rot) (a : Air) (s : Int × Int) : AC Tryz.prog 118 [.ptr 0 0,.ptr 8 0] [(0,macC r a),(8,[dI s.1,dI s.2])] [(0,some (macC r a)),(8,some [dI s.1,dI s.2])] (.list (lkL r.f s a.w)) := by
  refine krotor_Wake_S1.ac (n0 := 200) (by simp) ⟨.ptr _ _ (by omega),.ptr _ _ (by omega),trivial⟩ ⟨⟨by omega,wals_in (c := macC r a) rfl⟩,⟨by omega,wals_in (c := [dI s.1,dI s.2]) rfl⟩,trivial⟩ rfl ?_
  unfold crotor_Wake_S1
  have c := roRing_ac r a s
  unfold macC lkL lkC at *
  (repeat' (first | (with_reducible first | refine thenQ_n ?_ | refine blockQ_n ?_ | refine thenQ_e ?_ | refine blockQ_t ?_ | refine blockQ_f (by decide) ?_) | apply aw_seq | apply aw_skip | apply aw_exit | apply aw_ret | apply aw_block | apply aw_condT rfl | apply aw_condF rfl | ((first | refine aw_hide fun K hK => aw_region ?_ | refine acall0 (c) ?_ | refine ago_if (by omega) ?_ | skip); simp (disch := first | exact okY | omega) only [ZU,Nat.reduceMul,Nat.reduceAdd,dI,AOpRun,aexec,Nat.reduceBEq,↓eget_h,Nat.reduceLeDiff,↓reduceIte,List.drop,List.take,↓hget_h,fillD,D.isBot,D.cells,ne_eq,not_true_eq_false,Nat.reduceGT,or_self,splice]) | subst hK))
  refine end_q [232] [(0,0),(8,8)] ?_ ?_ <;> repeat' (first | exact trivial | exact vr_val _ | exact vr_list _ | refine vr_fl _ _ _ _ _ (by decide) rfl ?_ ?_ ?_ ?_ | refine And.intro ⟨_,rfl,_,rfl,by decide,?_⟩ ?_ | apply And.intro)
  all_goals first | rfl | (refine wals_in ?_; rfl) | (intro e he; simp at he; subst he; rfl)
theorem roDesc1_ac (r : Rot) (a : Air) (hx : 0 < r.f.x.length) : AC Tryz.prog 20 [.ptr 0 0,.ptr 8 0] [(0,macC r a),(8,rotC r)] [(0,some (macC r a)),(8,some (rotC r))] (.list (lkL r.f (iat r.f.x 0,iat r.f.x 0) a.w)) := by
  refine krotor_Descent_S1.ac (n0 := 200) (by simp) ⟨.ptr _ _ (by omega),.ptr _ _ (by omega),trivial⟩ ⟨⟨by omega,wals_in (c := macC r a) rfl⟩,⟨by omega,wals_in (c := rotC r) rfl⟩,trivial⟩ rfl ?_
  unfold crotor_Descent_S1
  have c := roRing_ac r a (iat r.f.x 0,iat r.f.x 0)
  have c1 := roOne_ac (iat r.f.x 0)
  have g0 : (ints r.f.x)[0]? = some [.val (.int .i64 (iat r.f.x 0))] := by rw [ints_gd r.f.x 0 hx]; rfl
  have ga := ints_all r.f.x
  unfold macC lkL lkC rotC at *
  (repeat' (first | (with_reducible first | refine thenQ_n ?_ | refine blockQ_n ?_ | refine thenQ_e ?_ | refine blockQ_t ?_ | refine blockQ_f (by decide) ?_) | apply aw_seq | apply aw_skip | apply aw_exit | apply aw_ret | apply aw_block | apply aw_condT rfl | apply aw_condF rfl | ((first | refine aw_hide fun K hK => aw_region ?_ | refine acall0 (c1) ?_ | refine acall0 (c) ?_ | refine ago_if (by omega) ?_ | skip); simp (disch := first | exact okY | omega) only [ZU,Nat.reduceMul,Nat.reduceAdd,dI,AOpRun,aexec,Nat.reduceBEq,↓eget_h,Nat.reduceLeDiff,↓reduceIte,List.drop,List.take,run1,↓hget_h,Int.le_refl,ga,opt1,Int.toNat_zero,g0,fillD,D.isBot,D.cells,ne_eq,not_true_eq_false,Nat.reduceGT,or_self,splice]) | subst hK))
  refine end_q [272] [(0,0),(8,8)] ?_ ?_ <;> repeat' (first | exact trivial | exact vr_val _ | exact vr_list _ | refine vr_fl _ _ _ _ _ (by decide) rfl ?_ ?_ ?_ ?_ | refine And.intro ⟨_,rfl,_,rfl,by decide,?_⟩ ?_ | apply And.intro)
  all_goals first | rfl | (refine wals_in ?_; rfl) | (intro e he; simp at he; subst he; rfl)
theorem roChkH_ac (r : Rot) (a : Air) (hs : RotSm r) (h0 : rotE r = 0) (hb : airB a = true) (h2 : lyB r.d a.t a.h = true) : AC Tryz.prog 19 [rotD r,airD a,.val (.slice none 0 0),.fn 113 [] [.ptr 0 0]] [(0,macC r a)] [(0,some (macC r a))] (dI 0) := by
  refine krotor_check.ac (n0 := 200) (by simp) ⟨in_rotD _ _,in_airD _ _,.val _,.fn _ _ _ (by simp) (by intro d hd; simp at hd; subst hd; exact .ptr _ _ (by omega)),trivial⟩ ⟨⟨by omega,wals_in (c := macC r a) rfl⟩,trivial⟩ rfl ?_
  have tc : Tbl r.d.x r.d.y r.d.v := limB_tbl ((rotE_is h0).lim 3 (by omega))
  have c1 := roCheck_ac r hs
  rw [h0] at c1
  have c2 := fun k hk => airL_gd a hb k hk
  have c3 := cfspNil_ac
  have c4 := roHas1_ac r a
  have c5 := roCont3_ac r.d a.t a.h tc (hs 3 (by omega))
  rw [h2] at c5
  have al : (sps (airL a)).length = 4 := rfl
  have aa := sps_all (airL a)
  have ag := fun k hk => sps_gd2 (airL a) k hk
  have ha2 : (airL a).length = 4 := rfl
  unfold crotor_check
  unfold rotD rotC airD airC macC at *
  refine aw_seq (aw_region ?_)
  simp (disch := first | exact okY | omega) only [ZU,dI,Nat.reduceAdd,Nat.reduceMul,AOpRun,aexec,D.isBot,↓eget_h,Nat.reduceBEq,or_self,↓reduceIte,D.cells]
  (repeat' (first | (with_reducible first | refine thenQ_n ?_ | refine blockQ_n ?_ | refine thenQ_e ?_ | refine blockQ_t ?_ | refine blockQ_f (by decide) ?_) | apply aw_seq | apply aw_skip | apply aw_exit | apply aw_ret | apply aw_block | apply aw_condT rfl | apply aw_condF rfl | ((first | refine aw_hide fun K hK => aw_region ?_ | refine acall0 (c1) ?_ | refine ago_if (by omega) ?_ | skip); simp (disch := first | exact okY | omega) only [ZU,Nat.reduceAdd,Nat.reduceMul,AOpRun,aexec,Nat.reduceBEq,↓eget_h,↓hget_h,Nat.reduceLeDiff,↓reduceIte,List.drop,List.take,dI,isSh,abin,bne_self_eq_false,fillD,D.isBot,D.cells,ne_eq,not_true_eq_false,Nat.reduceGT,or_self,splice,cast_lit]) | subst hK))
  clear c1
  refine aw_wk (s' := ⟨[(2,.val (.slice none 0 0)),(3,.fn 113 [] [.ptr 0 0]),(25,.list (sps (airL a))),(26,dI (4 : Nat)),(27,dI (0 : Nat))],[(0,macC r a)],600⟩) ?_ ?_
  · unfold dI macC
    refine wk_q [328] [(0,0)] ?_ ?_ <;> repeat' (first | exact trivial | exact vr_val _ | exact vr_list _ | exact vr_ptr _ _ _ rfl | apply vr_fn | refine vr_fl _ _ _ _ _ (by decide) rfl ?_ ?_ ?_ ?_ | refine And.intro ⟨_,rfl,.inl ⟨_,rfl,by decide,?_⟩⟩ ?_ | apply And.intro)
    all_goals first | exact sps_two _ | rfl | (refine wals_in ?_; rfl)
  refine aw_loop (fun k : Nat => ⟨[(2,.val (.slice none 0 0)),(3,.fn 113 [] [.ptr 0 0]),(25,.list (sps (airL a))),(26,dI (4 : Nat)),(27,dI k)],[(0,macC r a)],600⟩) (fun k => k ≤ 4) (fun k => 4 - k) ⟨0,by omega,?_⟩ ?_
  · unfold dI macC
    refine wk_q [] [(0,0)] ?_ ?_ <;> repeat' (first | exact trivial | exact vr_val _ | exact vr_list _ | exact vr_ptr _ _ _ rfl | apply vr_fn | refine And.intro ⟨_,rfl,.inl ⟨_,rfl,by decide,?_⟩⟩ ?_ | apply And.intro)
  intro k hk
  unfold macC
  by_cases hk2 : k < 4
  case pos =>
    have g1 := ag k (by omega)
    have v1 := roValid_ac ((airL a)[k]?.getD (0,0))
    rw [c2 k hk2] at v1
    have ki : (k : Int) < ((4 : Nat) : Int) := by omega
    have ki4 : (k : Int) < 4 := by omega
    clear c2 c3 c4 c5 ag tc
    generalize (airL a)[k]?.getD (0,0) = zz at *
    generalize airL a = L at *
    (repeat' (first | (with_reducible first | refine thenQ_n ?_ | refine blockQ_n ?_ | refine thenQ_e ?_ | refine blockQ_t ?_ | refine blockQ_f (by decide) ?_) | apply aw_seq | apply aw_skip | apply aw_exit | apply aw_ret | apply aw_block | apply aw_condT rfl | apply aw_condF rfl | ((first | refine aw_hide fun K hK => aw_region ?_ | refine acall0 (v1) ?_ | refine ago_if (by omega) ?_ | skip); simp (disch := first | exact okY | omega) only [ZU,Nat.reduceMul,Nat.reduceAdd,dI,cast_lit,AOpRun,aexec,Nat.reduceBEq,↓eget_h,isSh,↓reduceIte,abin,ki4,aa,opt1,g1,Nat.reduceLeDiff,List.take,↓hget_h,D.isBot,D.cells,List.all,D.leaf,splice,List.drop,dB,fits]) | subst hK))
    refine ⟨k + 1,by omega,by omega,?_⟩
    try unfold macC
    refine wk_q [] [(0,0)] ?_ ?_ <;> repeat' (first | exact trivial | exact vr_val _ | exact vr_list _ | exact vr_ptr _ _ _ rfl | apply vr_fn | refine And.intro ⟨_,rfl,.inl ⟨_,rfl,by decide,?_⟩⟩ ?_ | apply And.intro)
  obtain rfl : k = 4 := by omega
  clear c2 ag al aa ha2
  (repeat' (first | (with_reducible first | refine thenQ_n ?_ | refine blockQ_n ?_ | refine thenQ_e ?_ | refine blockQ_t ?_ | refine blockQ_f (by decide) ?_) | apply aw_seq | apply aw_skip | apply aw_exit | apply aw_ret | apply aw_block | apply aw_condT rfl | apply aw_condF rfl | ((first | refine aw_hide fun K hK => aw_region ?_ | refine acall0 (c3) ?_ | refine acallB (c4) (by repeat' (first | exact trivial | exact rfl | refine And.intro ?_ ?_)) (by kernel_rfl) (by kernel_rfl) (by kernel_rfl) ?_ | refine acall0 (c5) ?_ | refine ago_if (by omega) ?_ | skip); simp (disch := first | exact okY | omega) only [ZU,Nat.reduceMul,Nat.reduceAdd,dI,cast_lit,AOpRun,aexec,Nat.reduceBEq,↓eget_h,isSh,↓reduceIte,abin,Int.reduceLT,decide_false,dB,ARun_some,AG_ff]) | subst hK))
  all_goals (refine end_q [] [(0,0)] ?_ ?_ <;> repeat' (first | exact trivial | exact vr_val _ | exact vr_list _ | refine And.intro ⟨_,rfl,_,rfl,by decide,?_⟩ ?_ | apply And.intro))
theorem roChkW_ac (r : Rot) (a : Air) (s z : Int × Int) (hs : RotSm r) (h0 : rotE r = 0) (hb : airB a = true) (hv : spVB s = true ∧ spVB z = true) (h2 : lyB r.f s a.w = true) : AC Tryz.prog 19 [rotD r,airD a,.list (sps [s,z]),.fn 118 [] [.ptr 0 0,.ptr 8 0]] [(0,macC r a),(8,[dI s.1,dI s.2])] [(0,some (macC r a)),(8,some [dI s.1,dI s.2])] (dI 0) := by
  refine krotor_check.ac (n0 := 200) (by simp) ⟨in_rotD _ _,in_airD _ _,.list _,.fn _ _ _ (by simp) (by intro d hd; simp at hd; rcases hd with rfl | rfl <;> exact .ptr _ _ (by omega)),trivial⟩ ⟨⟨by omega,wals_in (c := macC r a) rfl⟩,⟨by omega,wals_in (c := [dI s.1,dI s.2]) rfl⟩,trivial⟩ rfl ?_
  have tc : Tbl r.f.x r.f.y r.f.v := limB_tbl ((rotE_is h0).lim 5 (by omega))
  have c1 := roCheck_ac r hs
  rw [h0] at c1
  have c2 := fun k hk => airL_gd a hb k hk
  have c3 := cfsp_ac 45 (fun x => !spVB x) roCheck1_ac [s,z] (by simp)
  have c4 := roWake1_ac r a s
  have c5 := roCont3_ac r.f s a.w tc (hs 5 (by omega))
  rw [h2] at c5
  have al : (sps (airL a)).length = 4 := rfl
  have aa := sps_all (airL a)
  have ag := fun k hk => sps_gd2 (airL a) k hk
  have ha2 : (airL a).length = 4 := rfl
  unfold crotor_check
  unfold rotD rotC airD airC macC at *
  refine aw_seq (aw_region ?_)
  simp (disch := first | exact okY | omega) only [ZU,dI,Nat.reduceAdd,Nat.reduceMul,AOpRun,aexec,D.isBot,↓eget_h,Nat.reduceBEq,or_self,↓reduceIte,D.cells]
  (repeat' (first | (with_reducible first | refine thenQ_n ?_ | refine blockQ_n ?_ | refine thenQ_e ?_ | refine blockQ_t ?_ | refine blockQ_f (by decide) ?_) | apply aw_seq | apply aw_skip | apply aw_exit | apply aw_ret | apply aw_block | apply aw_condT rfl | apply aw_condF rfl | ((first | refine aw_hide fun K hK => aw_region ?_ | refine acall0 (c1) ?_ | refine ago_if (by omega) ?_ | skip); simp (disch := first | exact okY | omega) only [ZU,Nat.reduceAdd,Nat.reduceMul,AOpRun,aexec,Nat.reduceBEq,↓eget_h,↓hget_h,Nat.reduceLeDiff,↓reduceIte,List.drop,List.take,dI,isSh,abin,bne_self_eq_false,fillD,D.isBot,D.cells,ne_eq,not_true_eq_false,Nat.reduceGT,or_self,splice,cast_lit]) | subst hK))
  clear c1
  refine aw_wk (s' := ⟨[(2,.list (sps [s,z])),(3,.fn 118 [] [.ptr 0 0,.ptr 8 0]),(25,.list (sps (airL a))),(26,dI (4 : Nat)),(27,dI (0 : Nat))],[(0,macC r a),(8,[dI s.1,dI s.2])],600⟩) ?_ ?_
  · unfold dI macC
    refine wk_q [328] [(0,0),(8,8)] ?_ ?_ <;> repeat' (first | exact trivial | exact vr_val _ | exact vr_list _ | exact vr_ptr _ _ _ rfl | apply vr_fn | refine vr_fl _ _ _ _ _ (by decide) rfl ?_ ?_ ?_ ?_ | refine And.intro ⟨_,rfl,.inl ⟨_,rfl,by decide,?_⟩⟩ ?_ | apply And.intro)
    all_goals first | exact sps_two _ | rfl | (refine wals_in ?_; rfl)
  refine aw_loop (fun k : Nat => ⟨[(2,.list (sps [s,z])),(3,.fn 118 [] [.ptr 0 0,.ptr 8 0]),(25,.list (sps (airL a))),(26,dI (4 : Nat)),(27,dI k)],[(0,macC r a),(8,[dI s.1,dI s.2])],600⟩) (fun k => k ≤ 4) (fun k => 4 - k) ⟨0,by omega,?_⟩ ?_
  · unfold dI macC
    refine wk_q [] [(0,0),(8,8)] ?_ ?_ <;> repeat' (first | exact trivial | exact vr_val _ | exact vr_list _ | exact vr_ptr _ _ _ rfl | apply vr_fn | refine And.intro ⟨_,rfl,.inl ⟨_,rfl,by decide,?_⟩⟩ ?_ | apply And.intro)
  intro k hk
  unfold macC
  by_cases hk2 : k < 4
  case pos =>
    have g1 := ag k (by omega)
    have v1 := roValid_ac ((airL a)[k]?.getD (0,0))
    rw [c2 k hk2] at v1
    have ki : (k : Int) < ((4 : Nat) : Int) := by omega
    have ki4 : (k : Int) < 4 := by omega
    clear c2 c3 c4 c5 ag tc
    generalize (airL a)[k]?.getD (0,0) = zz at *
    generalize airL a = L at *
    (repeat' (first | (with_reducible first | refine thenQ_n ?_ | refine blockQ_n ?_ | refine thenQ_e ?_ | refine blockQ_t ?_ | refine blockQ_f (by decide) ?_) | apply aw_seq | apply aw_skip | apply aw_exit | apply aw_ret | apply aw_block | apply aw_condT rfl | apply aw_condF rfl | ((first | refine aw_hide fun K hK => aw_region ?_ | refine acall0 (v1) ?_ | refine ago_if (by omega) ?_ | skip); simp (disch := first | exact okY | omega) only [ZU,Nat.reduceMul,Nat.reduceAdd,dI,cast_lit,AOpRun,aexec,Nat.reduceBEq,↓eget_h,isSh,↓reduceIte,abin,ki4,aa,opt1,g1,Nat.reduceLeDiff,List.take,↓hget_h,D.isBot,D.cells,List.all,D.leaf,splice,List.drop,dB,fits]) | subst hK))
    refine ⟨k + 1,by omega,by omega,?_⟩
    try unfold macC
    refine wk_q [] [(0,0),(8,8)] ?_ ?_ <;> repeat' (first | exact trivial | exact vr_val _ | exact vr_list _ | exact vr_ptr _ _ _ rfl | apply vr_fn | refine And.intro ⟨_,rfl,.inl ⟨_,rfl,by decide,?_⟩⟩ ?_ | apply And.intro)
  obtain rfl : k = 4 := by omega
  clear c2 ag al aa ha2
  have q3 : ([s,z].any fun x => !spVB x) = false := by simp [hv.1,hv.2]
  rw [q3] at c3
  (repeat' (first | (with_reducible first | refine thenQ_n ?_ | refine blockQ_n ?_ | refine thenQ_e ?_ | refine blockQ_t ?_ | refine blockQ_f (by decide) ?_) | apply aw_seq | apply aw_skip | apply aw_exit | apply aw_ret | apply aw_block | apply aw_condT rfl | apply aw_condF rfl | ((first | refine aw_hide fun K hK => aw_region ?_ | refine acall0 (c3) ?_ | refine acallB (c4) (by repeat' (first | exact trivial | exact rfl | refine And.intro ?_ ?_)) (by kernel_rfl) (by kernel_rfl) (by kernel_rfl) ?_ | refine acall0 (c5) ?_ | refine ago_if (by omega) ?_ | skip); simp (disch := first | exact okY | omega) only [ZU,Nat.reduceMul,Nat.reduceAdd,dI,cast_lit,AOpRun,aexec,Nat.reduceBEq,↓eget_h,isSh,↓reduceIte,abin,Int.reduceLT,decide_false,dB,ARun_some,AG_ff]) | subst hK))
  all_goals (refine end_q [] [(0,0),(8,8)] ?_ ?_ <;> repeat' (first | exact trivial | exact vr_val _ | exact vr_list _ | refine And.intro ⟨_,rfl,_,rfl,by decide,?_⟩ ?_ | apply And.intro))
theorem roChkD_ac (r : Rot) (a : Air) (hx : 0 < r.f.x.length) (hs : RotSm r) (h0 : rotE r = 0) (hb : airB a = true) (h2 : lyB r.f (iat r.f.x 0,iat r.f.x 0) a.w = true) : AC Tryz.prog 19 [rotD r,airD a,.val (.slice none 0 0),.fn 20 [] [.ptr 0 0,.ptr 8 0]] [(0,macC r a),(8,rotC r)] [(0,some (macC r a)),(8,some (rotC r))] (dI 0) := by
  refine krotor_check.ac (n0 := 200) (by simp) ⟨in_rotD _ _,in_airD _ _,.val _,.fn _ _ _ (by simp) (by intro d hd; simp at hd; rcases hd with rfl | rfl <;> exact .ptr _ _ (by omega)),trivial⟩ ⟨⟨by omega,wals_in (c := macC r a) rfl⟩,⟨by omega,wals_in (c := rotC r) rfl⟩,trivial⟩ rfl ?_
  have tc : Tbl r.f.x r.f.y r.f.v := limB_tbl ((rotE_is h0).lim 5 (by omega))
  have c1 := roCheck_ac r hs
  rw [h0] at c1
  have c2 := fun k hk => airL_gd a hb k hk
  have c3 := cfspNil_ac
  have c4 := roDesc1_ac r a hx
  have c5 := roCont3_ac r.f (iat r.f.x 0,iat r.f.x 0) a.w tc (hs 5 (by omega))
  rw [h2] at c5
  have al : (sps (airL a)).length = 4 := rfl
  have aa := sps_all (airL a)
  have ag := fun k hk => sps_gd2 (airL a) k hk
  have ha2 : (airL a).length = 4 := rfl
  unfold crotor_check
  unfold rotD rotC airD airC macC at *
  refine aw_seq (aw_region ?_)
  simp (disch := first | exact okY | omega) only [ZU,dI,Nat.reduceAdd,Nat.reduceMul,AOpRun,aexec,D.isBot,↓eget_h,Nat.reduceBEq,or_self,↓reduceIte,D.cells]
  (repeat' (first | (with_reducible first | refine thenQ_n ?_ | refine blockQ_n ?_ | refine thenQ_e ?_ | refine blockQ_t ?_ | refine blockQ_f (by decide) ?_) | apply aw_seq | apply aw_skip | apply aw_exit | apply aw_ret | apply aw_block | apply aw_condT rfl | apply aw_condF rfl | ((first | refine aw_hide fun K hK => aw_region ?_ | refine acall0 (c1) ?_ | refine ago_if (by omega) ?_ | skip); simp (disch := first | exact okY | omega) only [ZU,Nat.reduceAdd,Nat.reduceMul,AOpRun,aexec,Nat.reduceBEq,↓eget_h,↓hget_h,Nat.reduceLeDiff,↓reduceIte,List.drop,List.take,dI,isSh,abin,bne_self_eq_false,fillD,D.isBot,D.cells,ne_eq,not_true_eq_false,Nat.reduceGT,or_self,splice,cast_lit]) | subst hK))
  clear c1
  refine aw_wk (s' := ⟨[(2,.val (.slice none 0 0)),(3,.fn 20 [] [.ptr 0 0,.ptr 8 0]),(25,.list (sps (airL a))),(26,dI (4 : Nat)),(27,dI (0 : Nat))],[(0,macC r a),(8,rotC r)],600⟩) ?_ ?_
  · unfold dI macC rotC
    refine wk_q [328] [(0,0),(8,8)] ?_ ?_ <;> repeat' (first | exact trivial | exact vr_val _ | exact vr_list _ | exact vr_ptr _ _ _ rfl | apply vr_fn | refine vr_fl _ _ _ _ _ (by decide) rfl ?_ ?_ ?_ ?_ | refine And.intro ⟨_,rfl,.inl ⟨_,rfl,by decide,?_⟩⟩ ?_ | apply And.intro)
    all_goals first | exact sps_two _ | rfl | (refine wals_in ?_; rfl)
  refine aw_loop (fun k : Nat => ⟨[(2,.val (.slice none 0 0)),(3,.fn 20 [] [.ptr 0 0,.ptr 8 0]),(25,.list (sps (airL a))),(26,dI (4 : Nat)),(27,dI k)],[(0,macC r a),(8,rotC r)],600⟩) (fun k => k ≤ 4) (fun k => 4 - k) ⟨0,by omega,?_⟩ ?_
  · unfold dI macC rotC
    refine wk_q [] [(0,0),(8,8)] ?_ ?_ <;> repeat' (first | exact trivial | exact vr_val _ | exact vr_list _ | exact vr_ptr _ _ _ rfl | apply vr_fn | refine And.intro ⟨_,rfl,.inl ⟨_,rfl,by decide,?_⟩⟩ ?_ | apply And.intro)
  intro k hk
  unfold macC rotC
  by_cases hk2 : k < 4
  case pos =>
    have g1 := ag k (by omega)
    have v1 := roValid_ac ((airL a)[k]?.getD (0,0))
    rw [c2 k hk2] at v1
    have ki : (k : Int) < ((4 : Nat) : Int) := by omega
    have ki4 : (k : Int) < 4 := by omega
    clear c2 c3 c4 c5 ag tc
    generalize (airL a)[k]?.getD (0,0) = zz at *
    generalize airL a = L at *
    (repeat' (first | (with_reducible first | refine thenQ_n ?_ | refine blockQ_n ?_ | refine thenQ_e ?_ | refine blockQ_t ?_ | refine blockQ_f (by decide) ?_) | apply aw_seq | apply aw_skip | apply aw_exit | apply aw_ret | apply aw_block | apply aw_condT rfl | apply aw_condF rfl | ((first | refine aw_hide fun K hK => aw_region ?_ | refine acall0 (v1) ?_ | refine ago_if (by omega) ?_ | skip); simp (disch := first | exact okY | omega) only [ZU,Nat.reduceMul,Nat.reduceAdd,dI,cast_lit,AOpRun,aexec,Nat.reduceBEq,↓eget_h,isSh,↓reduceIte,abin,ki4,aa,opt1,g1,Nat.reduceLeDiff,List.take,↓hget_h,D.isBot,D.cells,List.all,D.leaf,splice,List.drop,dB,fits]) | subst hK))
    refine ⟨k + 1,by omega,by omega,?_⟩
    try unfold macC rotC
    refine wk_q [] [(0,0),(8,8)] ?_ ?_ <;> repeat' (first | exact trivial | exact vr_val _ | exact vr_list _ | exact vr_ptr _ _ _ rfl | apply vr_fn | refine And.intro ⟨_,rfl,.inl ⟨_,rfl,by decide,?_⟩⟩ ?_ | apply And.intro)
  obtain rfl : k = 4 := by omega
  clear c2 ag al aa ha2
  (repeat' (first | (with_reducible first | refine thenQ_n ?_ | refine blockQ_n ?_ | refine thenQ_e ?_ | refine blockQ_t ?_ | refine blockQ_f (by decide) ?_) | apply aw_seq | apply aw_skip | apply aw_exit | apply aw_ret | apply aw_block | apply aw_condT rfl | apply aw_condF rfl | ((first | refine aw_hide fun K hK => aw_region ?_ | refine acall0 (c3) ?_ | refine acallB (c4) (by repeat' (first | exact trivial | exact rfl | refine And.intro ?_ ?_)) (by kernel_rfl) (by kernel_rfl) (by kernel_rfl) ?_ | refine acall0 (c5) ?_ | refine ago_if (by omega) ?_ | skip); simp (disch := first | exact okY | omega) only [ZU,Nat.reduceMul,Nat.reduceAdd,dI,cast_lit,AOpRun,aexec,Nat.reduceBEq,↓eget_h,isSh,↓reduceIte,abin,Int.reduceLT,decide_false,dB,ARun_some,AG_ff]) | subst hK))
  all_goals (refine end_q [] [(0,0),(8,8)] ?_ ?_ <;> repeat' (first | exact trivial | exact vr_val _ | exact vr_list _ | refine And.intro ⟨_,rfl,_,rfl,by decide,?_⟩ ?_ | apply And.intro))
def hasR (r : Rot) (a : Air) : Int × Int := (boundR r.d.x r.d.y r.d.v a.t a.h).1
theorem roHas_ac (r : Rot) (a : Air) (hs : RotSm r) (h0 : rotE r = 0) (hb : airB a = true) (h2 : lyB r.d a.t a.h = true) : AC Tryz.prog 94 [rotD r,airD a] [] [] (.tup [.agg [dI (hasR r a).1,dI (hasR r a).2],dI 0]) := by
  refine krotor_Has.ac (n0 := 0) (by simp) ⟨in_rotD _ _,in_airD _ _,trivial⟩ trivial rfl ?_
  have c1 := roChkH_ac r a hs h0 hb h2
  have c2 := roPowerM_ac r a
  have c3 := roBound_ac r.d a.t a.h (hs 3 (by omega))
  unfold crotor_Has
  unfold hasR
  unfold rotD rotC airD airC macC lkC at *
  generalize boundR r.d.x r.d.y r.d.v a.t a.h = B at *
  obtain ⟨⟨B1,B2⟩,B3⟩ := B
  refine aw_seq (aw_region ?_)
  simp (disch := first | exact okY | omega) only [ZU,dI,Nat.reduceAdd,Nat.reduceMul,AOpRun,aexec,D.isBot,↓eget_h,or_self,↓reduceIte,D.cells,Nat.reduceBEq]
  refine aw_seq (aw_region ?_)
  simp (disch := first | exact okY | omega) only [ZU,Nat.reduceAdd,Nat.reduceMul,AOpRun,aexec,Nat.reduceBEq,↓eget_h,Nat.reduceLeDiff,↓reduceIte,List.drop,List.take,↓hget_h,fillD,D.isBot,D.cells,ne_eq,not_true_eq_false,Nat.reduceGT,or_self,splice,List.all,D.leaf]
  refine aw_wk (s' := ⟨[(2,.ptr 8 0),(3,.ptr 16 0),(4,.ptr 24 0),(6,.ptr 0 0)],[(0,macC r a),(8,rotC r),(16,airC a),(24,[dI 0,dI 0])],600⟩) ?_ ?_
  · unfold dI macC rotC airC
    refine wk_q [] [(0,56),(8,0),(16,8),(24,16)] ?_ ?_ <;> repeat' (first | exact trivial | exact vr_val _ | exact vr_list _ | exact vr_ptr _ _ _ rfl | refine And.intro ⟨_,rfl,.inl ⟨_,rfl,by decide,?_⟩⟩ ?_ | apply And.intro)
  unfold macC rotC airC
  (repeat' (first | (with_reducible first | refine thenQ_n ?_ | refine blockQ_n ?_ | refine thenQ_e ?_ | refine blockQ_t ?_ | refine blockQ_f (by decide) ?_) | apply aw_seq | apply aw_skip | apply aw_exit | apply aw_ret | apply aw_block | apply aw_condT rfl | apply aw_condF rfl | ((first | refine aw_hide fun K hK => aw_region ?_ | refine acallB (c1) (by repeat' (first | exact trivial | exact rfl | refine And.intro ?_ ?_)) (by kernel_rfl) (by kernel_rfl) (by kernel_rfl) ?_ | refine acall0 (c2) ?_ | refine acall0 (c3) ?_ | refine ago_if (by omega) ?_ | skip); simp (disch := first | exact okY | omega) only [ZU,Nat.reduceAdd,Nat.reduceMul,dI,AOpRun,aexec,↓eget_h,Nat.reduceBEq,↓hget_h,Nat.reduceLeDiff,↓reduceIte,List.drop,List.take,isSh,abin,bne_self_eq_false,D.isBot,D.cells,List.all,D.leaf,splice]) | subst hK))
  all_goals (refine end_q [] [] ?_ ?_ <;> repeat' (first | exact trivial | exact vr_val _ | apply vr_agg | apply vr_tup | apply And.intro))
def wkB (r : Rot) (a : Air) (s k : Int × Int) : Bool := decide (k.2 ≥ (boundR r.f.x r.f.y r.f.v s a.w).1.1) && decide (k.1 ≤ (boundR r.g.x r.g.y r.g.v s a.w).1.2)
theorem roWakeM_ac (r : Rot) (a : Air) (s k : Int × Int) (hs : RotSm r) : AC Tryz.prog 26 [.agg (macC r a),.agg [dI s.1,dI s.2],.agg [dI k.1,dI k.2]] [] [] (dB (wkB r a s k)) := by
  refine krotor_machine_wake.ac (n0 := 0) (by simp) ⟨.agg _ (wals_in rfl),in_sp _ s.1 s.2,in_sp _ k.1 k.2,trivial⟩ trivial rfl ?_
  have c1 := roRing_ac r a s
  have c2 := roBound_ac r.f s a.w (hs 5 (by omega))
  have c3 := roBound_ac r.g s a.w (hs 6 (by omega))
  unfold crotor_machine_wake
  unfold wkB
  unfold macC lkC at *
  generalize boundR r.f.x r.f.y r.f.v s a.w = B at *
  obtain ⟨⟨B1,B2⟩,B3⟩ := B
  generalize boundR r.g.x r.g.y r.g.v s a.w = E at *
  obtain ⟨⟨E1,E2⟩,E3⟩ := E
  cases q1 : decide (k.2 ≥ B1) <;> cases q2 : decide (k.1 ≤ E2)
  all_goals
    (repeat' (first | (with_reducible first | refine thenQ_n ?_ | refine blockQ_n ?_ | refine thenQ_e ?_ | refine blockQ_t ?_ | refine blockQ_f (by decide) ?_) | apply aw_seq | apply aw_skip | apply aw_exit | apply aw_ret | apply aw_block | apply aw_condT rfl | apply aw_condF rfl | ((first | refine aw_hide fun K hK => aw_region ?_ | refine acall0 (c1) ?_ | refine acall0 (c2) ?_ | refine acall0 (c3) ?_ | refine ago_if (by omega) ?_ | skip); simp (disch := first | exact okY | omega) only [ZU,Nat.reduceAdd,Nat.reduceMul,dI,AOpRun,aexec,D.isBot,↓eget_h,or_self,↓reduceIte,D.cells,Nat.reduceBEq,Nat.reduceLeDiff,List.drop,List.take,↓hget_h,D.isAgg,opt1,fillD,ne_eq,not_true_eq_false,Nat.reduceGT,splice,run1,isSh,abin,q1,ARun_some,AG_ft,dB,Bool.and_false,AG_tt,q2]) | subst hK))
    all_goals (refine end_q [] [] ?_ ?_ <;> repeat' (first | exact trivial | exact vr_val _))
end Go.Proofs.YtbncpngjclabhaaGreat
/- The document's check of a rotor and an air. No conditions. -/
namespace Go.Proofs.YtbncpngjclabhaaGreat
open Go.RowKit Lift

theorem rFrom2_ac (n a b : Int) : AC Tryz.prog 107 [dI n,dI a,dI b] [] [] (dB (wI n a b)) := by
  refine kref02_from.ac (n0 := 0) (by simp) ⟨.val _,.val _,.val _,trivial⟩ trivial rfl ?_
  unfold cref02_from wI
  cases q1 : decide (a ≤ n) <;> cases q2 : decide (n ≤ b)
  all_goals
    (repeat' (first | apply aw_seq | ((first | apply aw_skip | apply aw_exit); try simp only [thenQ,blockQ,if_true,if_false,Nat.reduceEqDiff,reduceCtorEq]) | apply aw_ret | apply aw_block | apply aw_condT rfl | apply aw_condF rfl | ((first | refine aw_region ?_ | refine ago_if (by omega) ?_ | skip); simp (disch := first | exact okY | omega) only [ZU,dB,Bool.and_false,Nat.reduceMul,dI,Nat.reduceAdd,AOpRun,aexec,Nat.reduceBEq,↓eget_h,isSh,↓reduceIte,abin,ge_iff_le,q1,ARun_some,AG_ft,AG_tt,q2])))
    all_goals (refine end_q [] [] ?_ ?_ <;> repeat' (first | exact trivial | exact vr_val _))
theorem rFrom1_ac (n a b : Int) : AC Tryz.prog 77 [dI n,dI a,dI b] [] [] (dB (wI n a b)) := by
  refine kref01_From.ac (n0 := 0) (by simp) ⟨.val _,.val _,.val _,trivial⟩ trivial rfl ?_
  unfold cref01_From wI
  cases q1 : decide (a ≤ n) <;> cases q2 : decide (n ≤ b)
  all_goals
    (repeat' (first | apply aw_seq | ((first | apply aw_skip | apply aw_exit); try simp only [thenQ,blockQ,if_true,if_false,Nat.reduceEqDiff,reduceCtorEq]) | apply aw_ret | apply aw_block | apply aw_condT rfl | apply aw_condF rfl | ((first | refine aw_region ?_ | refine ago_if (by omega) ?_ | skip); simp (disch := first | exact okY | omega) only [ZU,dB,Bool.and_false,Nat.reduceMul,dI,Nat.reduceAdd,AOpRun,aexec,Nat.reduceBEq,↓eget_h,isSh,↓reduceIte,abin,ge_iff_le,q1,ARun_some,AG_ft,AG_tt,q2])))
    all_goals (refine end_q [] [] ?_ ?_ <;> repeat' (first | exact trivial | exact vr_val _))
theorem spVB_two (x : Int × Int) : spVB x = (wI x.1 (-1000000) 1000000 && wI x.2 x.1 1000000) := by
  unfold spVB wI
  rw [Bool.eq_iff_iff]
  simp only [Bool.and_eq_true,decide_eq_true_eq]
  omega
theorem rValid_ac (x : Int × Int) : AC Tryz.prog 57 [.agg [dI x.1,dI x.2]] [] [] (dB (spVB x)) := by
  refine kref01_Valid.ac (n0 := 0) (by simp) ⟨in_sp _ _ _,trivial⟩ trivial rfl ?_
  unfold cref01_Valid
  rw [spVB_two]
  have c1 := rFrom1_ac x.1 (-1000000) 1000000
  have c2 := rFrom1_ac x.2 x.1 1000000
  cases q1 : wI x.1 (-1000000) 1000000
  all_goals
    rw [q1] at c1
    generalize wI x.2 x.1 1000000 = b at *
    (repeat' (first | (with_reducible first | refine thenQ_n ?_ | refine blockQ_n ?_ | refine thenQ_e ?_ | refine blockQ_t ?_ | refine blockQ_f (by decide) ?_) | apply aw_seq | apply aw_skip | apply aw_exit | apply aw_ret | apply aw_block | apply aw_condT rfl | apply aw_condF rfl | ((first | refine aw_hide fun K hK => aw_region ?_ | refine acall0 (c1) ?_ | refine acall0 (c2) ?_ | refine ago_if (by omega) ?_ | skip); simp (disch := first | exact okY | omega) only [ZU,Nat.reduceAdd,Nat.reduceMul,dI,AOpRun,aexec,D.isBot,↓eget_h,or_self,↓reduceIte,D.cells,Nat.reduceBEq,Int.reduceNeg,run1,dB,ARun_some,AG_ft,Bool.false_and,AG_tt,Bool.true_and]) | subst hK))
    all_goals (refine end_q [] [] ?_ ?_ <;> repeat' (first | exact trivial | exact vr_val _))
theorem rSame2_ac (a b : List Int) (ha : a.length ≤ 1000000) (hb : b.length ≤ 1000000) : AC Tryz.prog 106 [.list (ints a),.list (ints b)] [] [] (dB (decide (a = b))) := by
  refine kref02_sameInts.ac (n0 := 0) (by simp) ⟨.list _,.list _,trivial⟩ trivial rfl ?_
  unfold cref02_sameInts
  have al := ints_len a
  have bl := ints_len b
  by_cases hl : a.length = b.length
  case neg =>
    have q : ((a.length : Int) != (b.length : Int)) = true := by simp only [bne_iff_ne,ne_eq]; omega
    rw [decide_eq_false (fun h => hl (by rw [h]))]
    (repeat' (first | (with_reducible first | refine thenQ_n ?_ | refine blockQ_n ?_ | refine thenQ_e ?_ | refine blockQ_t ?_ | refine blockQ_f (by decide) ?_) | apply aw_seq | apply aw_skip | apply aw_exit | apply aw_ret | apply aw_block | apply aw_condT rfl | apply aw_condF rfl | ((first | refine aw_hide fun K hK => aw_region ?_ | refine ago_if (by omega) ?_ | skip); simp (disch := first | exact okY | omega) only [ZU,Nat.reduceMul,AOpRun,aexec,Nat.reduceBEq,Nat.reduceAdd,↓eget_h,al,bl,isSh,↓reduceIte,abin,q,dB]) | subst hK))
    all_goals (refine end_q [] [] ?_ ?_ <;> repeat' (first | exact trivial | exact vr_val _))
  have q : ((a.length : Int) != (b.length : Int)) = false := by simp only [bne_eq_false_iff_eq]; omega
  (repeat' (first | (with_reducible first | refine thenQ_n ?_ | refine blockQ_n ?_ | refine thenQ_e ?_ | refine blockQ_t ?_ | refine blockQ_f (by decide) ?_) | apply aw_seq | apply aw_skip | apply aw_exit | apply aw_ret | apply aw_block | apply aw_condT rfl | apply aw_condF rfl | ((first | refine aw_hide fun K hK => aw_region ?_ | refine ago_if (by omega) ?_ | skip); simp (disch := first | exact okY | omega) only [ZU,Nat.reduceMul,AOpRun,aexec,Nat.reduceBEq,Nat.reduceAdd,↓eget_h,al,bl,isSh,↓reduceIte,abin,q,dB]) | subst hK))
  refine aw_loop (fun k : Nat => ⟨[(0,.list (ints a)),(1,.list (ints b)),(5,dI k)],[],400⟩) (fun k => k ≤ a.length ∧ ∀ j,j < k → iat a j = iat b j) (fun k => a.length - k) ⟨0,⟨by omega,fun j hj => by omega⟩,?_⟩ ?_
  · refine wk_q [] [] ?_ ?_ <;> repeat' (first | exact trivial | exact vr_val _ | exact vr_list _ | apply And.intro)
  rintro k ⟨hk,hin⟩
  by_cases hk2 : k < a.length
  case neg =>
    obtain rfl : k = a.length := by omega
    have e : a = b := by
      refine List.ext_getElem hl fun j h1 h2 => ?_
      have := hin j h1
      simpa [iat,h1,h2] using this
    rw [decide_eq_true e]
    (have hg : (987654321 : Nat) - 987654321 = 0 := rfl; have hr := hg; repeat' (first | (with_reducible first | refine thenQ_n ?_ | refine blockQ_n ?_ | refine thenQ_e ?_ | refine blockQ_t ?_ | refine blockQ_f (by decide) ?_) | apply aw_seq | apply aw_skip | apply aw_exit | apply aw_ret | apply aw_block | apply aw_condT rfl | apply aw_condF rfl | (refine aw_cond rfl (fun hg => ?_) (fun hg => ?_) <;> (try (have hq := hg; simp only [Bool.not_eq_true',Bool.not_eq_false',Bool.and_eq_true,Bool.and_eq_false_iff,Bool.or_eq_true,Bool.or_eq_false_iff,decide_eq_true_eq,decide_eq_false_iff_not,bne_iff_ne,beq_iff_eq,beq_eq_false_iff_ne,bne_eq_false_iff_eq,ne_eq,Int.not_lt,Int.not_le,Decidable.not_not] at hq)) <;> (try (have hr := hg; simp only [decide_eq_true_eq,decide_eq_false_iff_not] at hr)) <;> (try (exfalso; omega))) | ((first | refine aw_hide fun K hK => aw_region ?_ | refine ago_if (by omega) ?_ | skip); simp (disch := first | exact okY | omega) only [ZU,Nat.reduceAdd,Nat.reduceMul,dI,AOpRun,aexec,Nat.reduceBEq,↓eget_h,al,isSh,↓reduceIte,abin,hr,decide_false]) | subst hK))
    all_goals (refine end_q [] [] ?_ ?_ <;> repeat' (first | exact trivial | exact vr_val _))
  have ag := ints_all a
  have bg := ints_all b
  have g1 := ints_gd a k hk2
  have g2 := ints_gd b k (by omega)
  rw [show a[k]?.getD 0 = iat a k from rfl] at g1
  rw [show b[k]?.getD 0 = iat b k from rfl] at g2
  have ki : (k : Int) < (a.length : Int) := by omega
  have kb : (k : Int) < (b.length : Int) := by omega
  cases he : (iat a k != iat b k) with
  | true =>
    rw [decide_eq_false (fun h => by rw [h] at he; simp at he)]
    (repeat' (first | (with_reducible first | refine thenQ_n ?_ | refine blockQ_n ?_ | refine thenQ_e ?_ | refine blockQ_t ?_ | refine blockQ_f (by decide) ?_) | apply aw_seq | apply aw_skip | apply aw_exit | apply aw_ret | apply aw_block | apply aw_condT rfl | apply aw_condF rfl | ((first | refine aw_hide fun K hK => aw_region ?_ | refine ago_if (by omega) ?_ | skip); simp (disch := first | exact okY | omega) only [ZU,Nat.reduceAdd,Nat.reduceMul,dI,AOpRun,aexec,Nat.reduceBEq,↓eget_h,al,isSh,↓reduceIte,abin,ki,ag,opt1,g1,run1,bg,g2,he,blockQ]) | subst hK))
    all_goals (refine end_q [] [] ?_ ?_ <;> repeat' (first | exact trivial | exact vr_val _))
  | false =>
    (repeat' (first | (with_reducible first | refine thenQ_n ?_ | refine blockQ_n ?_ | refine thenQ_e ?_ | refine blockQ_t ?_ | refine blockQ_f (by decide) ?_) | apply aw_seq | apply aw_skip | apply aw_exit | apply aw_ret | apply aw_block | apply aw_condT rfl | apply aw_condF rfl | ((first | refine aw_hide fun K hK => aw_region ?_ | refine ago_if (by omega) ?_ | skip); simp (disch := first | exact okY | omega) only [ZU,Nat.reduceAdd,Nat.reduceMul,dI,AOpRun,aexec,Nat.reduceBEq,↓eget_h,al,isSh,↓reduceIte,abin,ki,ag,opt1,g1,run1,bg,g2,he,fits]) | subst hK))
    refine ⟨k + 1,⟨by omega,fun j hj => ?_⟩,by omega,?_⟩
    · rcases (by omega : j < k ∨ j = k) with h | rfl
      · exact hin j h
      · simpa using he
    · refine wk_q [] [] ?_ ?_ <;> repeat' (first | exact trivial | exact vr_val _ | exact vr_list _ | apply And.intro)
theorem TbSm.tsm {t : Tb} (h : TbSm t) : TSm t.x t.y t.v := ⟨by have := h.1; unfold maxLen; omega,by have := h.2.1; unfold maxLen; omega,by have := h.2.2.1; unfold maxLen; omega,fun r hr => by have := h.2.2.2 r hr; unfold maxLen; omega⟩
theorem tabErr_or (t : Tb) : (tabErr t.x t.y t.v = 0 ∧ Tbl t.x t.y t.v) ∨ tabErr t.x t.y t.v = 11 := by
  unfold tabErr
  cases h : tabB t.x t.y t.v
  · exact .inr rfl
  · exact .inl ⟨rfl,tbl_of h⟩
theorem rFill_ac (t : Tb) (lo hi : Int) (hs : TbSm t) : AC Tryz.prog 105 [.agg [.list (ints t.x),.list (ints t.y),.list (rows t.v)],dI lo,dI hi] [] [] (dB (limB t lo hi)) := by
  refine kref02_filled.ac (n0 := 0) (by simp) ⟨.agg _ (wals_in rfl),.val _,.val _,trivial⟩ trivial rfl ?_
  have ct := rcheckTable_ac hs.tsm
  unfold tabD at ct
  unfold cref02_filled
  rcases tabErr_or t with ⟨he,ht⟩ | he
  case inr =>
    rw [he] at ct
    have : limB t lo hi = false := by unfold limB; rw [he]; rfl
    rw [this]
    (repeat' (first | (with_reducible first | refine thenQ_n ?_ | refine blockQ_n ?_ | refine thenQ_e ?_ | refine blockQ_t ?_ | refine blockQ_f (by decide) ?_) | apply aw_seq | apply aw_skip | apply aw_exit | apply aw_ret | apply aw_block | apply aw_condT rfl | apply aw_condF rfl | ((first | refine aw_hide fun K hK => aw_region ?_ | refine acall0 (ct) ?_ | refine ago_if (by omega) ?_ | skip); simp (disch := first | exact okY | omega) only [ZU,Nat.reduceAdd,Nat.reduceMul,dI,AOpRun,aexec,D.isBot,↓eget_h,or_self,↓reduceIte,D.cells,Nat.reduceBEq,Nat.reduceLeDiff,List.drop,List.take,isSh,abin,Int.reduceBNe,dB]) | subst hK))
    all_goals (refine end_q [] [] ?_ ?_ <;> repeat' (first | exact trivial | exact vr_val _))
  rw [he] at ct
  have hlim : limB t lo hi = t.v.all fun r => allI r lo hi := by unfold limB; rw [he]; rfl
  rw [hlim]
  clear hlim
  have hlen := ht.len
  have hrow := ht.row
  have h1 := hs.1
  have h2 := hs.2.1
  have xl := ints_len t.x
  have yl := ints_len t.y
  have vl := rows_len t.v
  have va := rows_all t.v
  have hgd := rows_gd t.v
  clear ht hs he
  generalize t.x = xs at *
  generalize t.y = ys at *
  generalize t.v = vs at *
  (repeat' (first | (with_reducible first | refine thenQ_n ?_ | refine blockQ_n ?_ | refine thenQ_e ?_ | refine blockQ_t ?_ | refine blockQ_f (by decide) ?_) | apply aw_seq | apply aw_skip | apply aw_exit | apply aw_ret | apply aw_block | apply aw_condT rfl | apply aw_condF rfl | ((first | refine aw_hide fun K hK => aw_region ?_ | refine acall0 (ct) ?_ | refine ago_if (by omega) ?_ | skip); simp (disch := first | exact okY | omega) only [ZU,Nat.reduceAdd,Nat.reduceMul,dI,AOpRun,aexec,D.isBot,↓eget_h,or_self,↓reduceIte,D.cells,Nat.reduceBEq,Nat.reduceLeDiff,List.drop,List.take,isSh,abin,bne_self_eq_false,dB]) | subst hK))
  refine aw_loop (fun i : Nat => ⟨[(1,dI lo),(2,dI hi),(3,.ptr 0 0),(7,dI i)],[(0,[.list (ints xs),.list (ints ys),.list (rows vs)])],400⟩) (fun i => i ≤ xs.length ∧ ∀ j,j < i → allI (vs[j]?.getD []) lo hi = true) (fun i => xs.length - i) ⟨0,⟨by omega,fun j hj => by omega⟩,?_⟩ ?_
  · unfold dI
    refine wk_q [] [(0,0)] ?_ ?_ <;> repeat' (first | exact trivial | exact vr_val _ | exact vr_list _ | exact vr_ptr _ _ _ rfl | refine And.intro ⟨_,rfl,.inl ⟨_,rfl,by decide,?_⟩⟩ ?_ | apply And.intro)
  rintro i ⟨hi1,hout⟩
  by_cases hi2 : i < xs.length
  case neg =>
    obtain rfl : i = xs.length := by omega
    have e : (vs.all fun r => allI r lo hi) = true := by
      refine List.all_eq_true.2 fun r hr => ?_
      obtain ⟨j,hj,rfl⟩ := List.getElem_of_mem hr
      have := hout j (by omega)
      simpa [hj] using this
    rw [e]
    (have hg : (987654321 : Nat) - 987654321 = 0 := rfl; have hr := hg; repeat' (first | (with_reducible first | refine thenQ_n ?_ | refine blockQ_n ?_ | refine thenQ_e ?_ | refine blockQ_t ?_ | refine blockQ_f (by decide) ?_) | apply aw_seq | apply aw_skip | apply aw_exit | apply aw_ret | apply aw_block | apply aw_condT rfl | apply aw_condF rfl | (refine aw_cond rfl (fun hg => ?_) (fun hg => ?_) <;> (try (have hq := hg; simp only [Bool.not_eq_true',Bool.not_eq_false',Bool.and_eq_true,Bool.and_eq_false_iff,Bool.or_eq_true,Bool.or_eq_false_iff,decide_eq_true_eq,decide_eq_false_iff_not,bne_iff_ne,beq_iff_eq,beq_eq_false_iff_ne,bne_eq_false_iff_eq,ne_eq,Int.not_lt,Int.not_le,Decidable.not_not] at hq)) <;> (try (have hr := hg; simp only [decide_eq_true_eq,decide_eq_false_iff_not] at hr)) <;> (try (exfalso; omega))) | ((first | refine aw_hide fun K hK => aw_region ?_ | refine ago_if (by omega) ?_ | skip); simp (disch := first | exact okY | omega) only [ZU,Nat.reduceAdd,Nat.reduceMul,dI,AOpRun,aexec,Nat.reduceBEq,↓eget_h,run1,xl,isSh,↓reduceIte,abin,hr,decide_false]) | subst hK))
    all_goals (refine end_q [] [] ?_ ?_ <;> repeat' (first | exact trivial | exact vr_val _))
  have g1 := hgd i (by omega)
  have hrl := hrow i (by omega)
  have hno : allI (vs[i]?.getD []) lo hi = false → (vs.all fun r => allI r lo hi) = false := fun h => List.all_eq_false.2 ⟨_,List.getElem_mem (show i < vs.length by omega),by simpa [show i < vs.length by omega] using h⟩
  have hstep : allI (vs[i]?.getD []) lo hi = true → ∀ j,j < i + 1 → allI (vs[j]?.getD []) lo hi = true := fun h j hj => by
    rcases (by omega : j < i ∨ j = i) with h1 | rfl
    · exact hout j h1
    · exact h
  have ki : (i : Int) < (xs.length : Int) := by omega
  have kv : (i : Int) < (vs.length : Int) := by omega
  clear hout hgd hrow ct
  generalize hb : (vs.all fun r => allI r lo hi) = B at *
  generalize vs[i]?.getD [] = p at *
  clear hb
  have pl := ints_len p
  have pa := ints_all p
  (repeat' (first | (with_reducible first | refine thenQ_n ?_ | refine blockQ_n ?_ | refine thenQ_e ?_ | refine blockQ_t ?_ | refine blockQ_f (by decide) ?_) | apply aw_seq | apply aw_skip | apply aw_exit | apply aw_ret | apply aw_block | apply aw_condT rfl | apply aw_condF rfl | ((first | refine aw_hide fun K hK => aw_region ?_ | refine ago_if (by omega) ?_ | skip); simp (disch := first | exact okY | omega) only [ZU,Nat.reduceAdd,Nat.reduceMul,dI,AOpRun,aexec,Nat.reduceBEq,↓eget_h,run1,xl,isSh,↓reduceIte,abin,ki]) | subst hK))
  refine aw_loop (fun k : Nat => ⟨[(1,dI lo),(2,dI hi),(3,.ptr 0 0),(7,dI i),(8,dI k)],[(0,[.list (ints xs),.list (ints ys),.list (rows vs)])],800⟩) (fun k => k ≤ ys.length ∧ ∀ j,j < k → wI (iat p j) lo hi = true) (fun k => ys.length - k) ⟨0,⟨by omega,fun j hj => by omega⟩,?_⟩ ?_
  · unfold dI
    refine wk_q [] [(0,0)] ?_ ?_ <;> repeat' (first | exact trivial | exact vr_val _ | exact vr_list _ | exact vr_ptr _ _ _ rfl | refine And.intro ⟨_,rfl,.inl ⟨_,rfl,by decide,?_⟩⟩ ?_ | apply And.intro)
  rintro k ⟨hk,hin⟩
  by_cases hk2 : k < ys.length
  case neg =>
    obtain rfl : k = ys.length := by omega
    have e : allI p lo hi = true := by
      refine List.all_eq_true.2 fun r hr => ?_
      obtain ⟨j,hj,rfl⟩ := List.getElem_of_mem hr
      have := hin j (by omega)
      simpa [iat,hj] using this
    (have hg : (987654321 : Nat) - 987654321 = 0 := rfl; have hr := hg; repeat' (first | (with_reducible first | refine thenQ_n ?_ | refine blockQ_n ?_ | refine thenQ_e ?_ | refine blockQ_t ?_ | refine blockQ_f (by decide) ?_) | apply aw_seq | apply aw_skip | apply aw_exit | apply aw_ret | apply aw_block | apply aw_condT rfl | apply aw_condF rfl | (refine aw_cond rfl (fun hg => ?_) (fun hg => ?_) <;> (try (have hq := hg; simp only [Bool.not_eq_true',Bool.not_eq_false',Bool.and_eq_true,Bool.and_eq_false_iff,Bool.or_eq_true,Bool.or_eq_false_iff,decide_eq_true_eq,decide_eq_false_iff_not,bne_iff_ne,beq_iff_eq,beq_eq_false_iff_ne,bne_eq_false_iff_eq,ne_eq,Int.not_lt,Int.not_le,Decidable.not_not] at hq)) <;> (try (have hr := hg; simp only [decide_eq_true_eq,decide_eq_false_iff_not] at hr)) <;> (try (exfalso; omega))) | ((first | refine aw_hide fun K hK => aw_region ?_ | refine ago_if (by omega) ?_ | skip); simp (disch := first | exact okY | omega) only [ZU,Nat.reduceAdd,Nat.reduceMul,dI,AOpRun,aexec,Nat.reduceBEq,↓eget_h,run1,yl,isSh,↓reduceIte,abin,hr,decide_false,fits]) | subst hK))
    refine ⟨i + 1,⟨by omega,hstep e⟩,by omega,?_⟩
    refine wk_q [] [(0,0)] ?_ ?_ <;> repeat' (first | exact trivial | exact vr_val _ | exact vr_list _ | exact vr_ptr _ _ _ rfl | refine And.intro ⟨_,rfl,.inl ⟨_,rfl,by decide,?_⟩⟩ ?_ | apply And.intro)
  have g3 := ints_gd p k (by omega)
  rw [show p[k]?.getD 0 = iat p k from rfl] at g3
  have kk : (k : Int) < (ys.length : Int) := by omega
  have kp : (k : Int) < (p.length : Int) := by omega
  have cf := rFrom2_ac (iat p k) lo hi
  cases q5 : wI (iat p k) lo hi with
  | false =>
    rw [q5] at cf
    rw [hno (allI_no (k := k) (by omega) q5)]
    (repeat' (first | (with_reducible first | refine thenQ_n ?_ | refine blockQ_n ?_ | refine thenQ_e ?_ | refine blockQ_t ?_ | refine blockQ_f (by decide) ?_) | apply aw_seq | apply aw_skip | apply aw_exit | apply aw_ret | apply aw_block | apply aw_condT rfl | apply aw_condF rfl | ((first | refine aw_hide fun K hK => aw_region ?_ | refine acall0 (cf) ?_ | refine ago_if (by omega) ?_ | skip); simp (disch := first | exact okY | omega) only [ZU,Nat.reduceAdd,Nat.reduceMul,dI,AOpRun,aexec,Nat.reduceBEq,↓eget_h,run1,yl,isSh,↓reduceIte,abin,kk,va,opt1,g1,pa,g3,dB,blockQ]) | subst hK))
    all_goals (refine end_q [] [] ?_ ?_ <;> repeat' (first | exact trivial | exact vr_val _))
  | true =>
    rw [q5] at cf
    have hs2 : ∀ j,j < k + 1 → wI (iat p j) lo hi = true := fun j hj => by
      rcases (by omega : j < k ∨ j = k) with h | rfl
      · exact hin j h
      · exact q5
    (repeat' (first | (with_reducible first | refine thenQ_n ?_ | refine blockQ_n ?_ | refine thenQ_e ?_ | refine blockQ_t ?_ | refine blockQ_f (by decide) ?_) | apply aw_seq | apply aw_skip | apply aw_exit | apply aw_ret | apply aw_block | apply aw_condT rfl | apply aw_condF rfl | ((first | refine aw_hide fun K hK => aw_region ?_ | refine acall0 (cf) ?_ | refine ago_if (by omega) ?_ | skip); simp (disch := first | exact okY | omega) only [ZU,Nat.reduceAdd,Nat.reduceMul,dI,AOpRun,aexec,Nat.reduceBEq,↓eget_h,run1,yl,isSh,↓reduceIte,abin,kk,va,opt1,g1,pa,g3,dB,fits]) | subst hK))
    refine ⟨k + 1,⟨by omega,hs2⟩,by omega,?_⟩
    refine wk_q [] [(0,0)] ?_ ?_ <;> repeat' (first | exact trivial | exact vr_val _ | exact vr_list _ | exact vr_ptr _ _ _ rfl | refine And.intro ⟨_,rfl,.inl ⟨_,rfl,by decide,?_⟩⟩ ?_ | apply And.intro)
end Go.Proofs.YtbncpngjclabhaaGreat
/- rotor: Wake and Descent where their checks pass. No conditions. -/
namespace Go.Proofs.YtbncpngjclabhaaGreat
open Go.RowKit Lift

theorem roWake_ac (r : Rot) (a : Air) (s z : Int × Int) (hs : RotSm r) (h0 : rotE r = 0) (hb : airB a = true) (hv : spVB s = true ∧ spVB z = true) (h2 : lyB r.f s a.w = true) : AC Tryz.prog 98 [rotD r,airD a,.agg [dI s.1,dI s.2],.agg [dI z.1,dI z.2]] [] [] (.tup [dB (wkB r a s z),dI 0]) := by
  refine krotor_Wake.ac (n0 := 0) (by simp) ⟨in_rotD _ _,in_airD _ _,in_sp _ _ _,in_sp _ _ _,trivial⟩ trivial rfl ?_
  have c1 := roChkW_ac r a s z hs h0 hb hv h2
  have c2 := roWakeM_ac r a s z hs
  unfold crotor_Wake
  generalize wkB r a s z = B at *
  unfold rotD rotC airD airC macC at *
  refine aw_seq (aw_region ?_)
  simp (disch := first | exact okY | omega) only [ZU,dB,dI,Nat.reduceAdd,Nat.reduceMul,AOpRun,aexec,D.isBot,↓eget_h,or_self,↓reduceIte,D.cells,Nat.reduceBEq]
  refine aw_seq (aw_region ?_)
  simp (disch := first | exact okY | omega) only [ZU,Nat.reduceAdd,Nat.reduceMul,AOpRun,aexec,Nat.reduceBEq,↓eget_h,Nat.reduceLeDiff,↓reduceIte,List.drop,List.take,↓hget_h,fillD,D.isBot,D.cells,ne_eq,not_true_eq_false,Nat.reduceGT,or_self,splice,List.all,D.leaf]
  refine aw_wk (s' := ⟨[(4,.ptr 16 0),(5,.ptr 24 0),(6,.ptr 8 0),(7,.ptr 32 0),(10,.ptr 0 0)],[(0,macC r a),(8,[dI s.1,dI s.2]),(16,rotC r),(24,airC a),(32,[dI z.1,dI z.2])],600⟩) ?_ ?_
  · unfold dI macC rotC airC
    refine wk_q [] [(0,72),(8,16),(16,0),(24,8),(32,24)] ?_ ?_ <;> repeat' (first | exact trivial | exact vr_val _ | exact vr_list _ | exact vr_ptr _ _ _ rfl | refine And.intro ⟨_,rfl,.inl ⟨_,rfl,by decide,?_⟩⟩ ?_ | apply And.intro)
  unfold macC rotC airC
  refine aw_seq (aw_seq (aw_region_cut [⟨some 15,.loadN 26 (.tmp 4),none,[]⟩,
      ⟨some 16,.loadN 8 (.tmp 5),none,[]⟩,
      ⟨some 17,.loadN 2 (.tmp 6),none,[]⟩,
      ⟨some 18,.loadN 2 (.tmp 7),none,[]⟩,
      ⟨some 19,.buildSl 2 2 [(.val (.int .i64 0)),(.val (.int .i64 0)),(.val (.int .i64 0)),(.val (.int .i64 0))] [(0,2,(.tmp 17)),(2,2,(.tmp 18))],none,[]⟩]
     [⟨some 20, .mkfn 118 [] [(.tmp 10), (.tmp 6)], none, []⟩,
      ⟨some 21,.call (.func 19) [(.tmp 15),(.tmp 16),(.tmp 19),(.tmp 20)],none,[]⟩,
      ⟨some 11,.mv (.tmp 21),none,[]⟩] ?_))
  simp (disch := first | exact okY | omega) only [ZU,Nat.reduceAdd,Nat.reduceMul,AOpRun,aexec,dI,↓eget_h,Nat.reduceBEq,↓hget_h,Nat.reduceLeDiff,↓reduceIte,List.drop,List.take,fillD,D.isBot,D.cells,ne_eq,not_true_eq_false,Nat.reduceGT,or_self,splice]
  refine ⟨⟨[(6,.ptr 8 0),(7,.ptr 32 0),(10,.ptr 0 0),(15,rotD r),(16,airD a),(19,.list (sps [s,z]))],[(0,macC r a),(8,[dI s.1,dI s.2]),(32,[dI z.1,dI z.2])],1000⟩,?_,of_decide_eq_true (by kernel_rfl),?_⟩
  · unfold rotD rotC airD airC macC dI
    refine wk_q [632] [(0,0),(8,8),(32,32)] ?_ ?_ <;> repeat' (first | exact trivial | exact vr_val _ | exact vr_list _ | exact vr_ptr _ _ _ rfl | apply vr_agg | refine vr_fl _ _ _ _ _ (by decide) rfl ?_ ?_ ?_ ?_ | refine And.intro ⟨_,rfl,.inl ⟨_,rfl,by decide,?_⟩⟩ ?_ | apply And.intro)
    all_goals first | exact sps_two _ | rfl | (refine wals_in ?_; rfl)
  unfold rotD rotC airD airC macC
  simp (disch := first | exact okY | omega) only [ZU,Nat.reduceSub,Nat.reduceAdd,dI,Nat.reduceBEq,↓eget_h,eget_n]
  (repeat' (first | (with_reducible first | refine thenQ_n ?_ | refine blockQ_n ?_ | refine thenQ_e ?_ | refine blockQ_t ?_ | refine blockQ_f (by decide) ?_) | apply aw_seq | apply aw_skip | apply aw_exit | apply aw_ret | apply aw_block | apply aw_condT rfl | apply aw_condF rfl | ((first | refine aw_hide fun K hK => aw_region ?_ | refine acallB (c1) (by repeat' (first | exact trivial | exact rfl | refine And.intro ?_ ?_)) (by kernel_rfl) (by kernel_rfl) (by kernel_rfl) ?_ | refine acall0 (c2) ?_ | refine ago_if (by omega) ?_ | skip); simp (disch := first | exact okY | omega) only [ZU,Nat.reduceAdd,dI,Nat.reduceBEq,AOpRun,aexec,↓eget_h,Nat.reduceMul,isSh,↓reduceIte,abin,bne_self_eq_false,Nat.reduceLeDiff,List.drop,List.take,↓hget_h,dB]) | subst hK))
  all_goals (refine end_q [] [] ?_ ?_ <;> repeat' (first | exact trivial | exact vr_val _ | apply vr_tup | apply And.intro))
theorem spVB_t2 {n : Int} (h1 : -1000000 ≤ n) (h2 : n ≤ 1000000) : spVB (n,n) = true := by rw [spVB_two]; simp [wI]; omega
def drL (l : List (Int × Int)) : List (List D) := l.map fun x => [.val (.int .i64 x.1),.val (.int .i64 x.1),.val (.int .i64 x.2),.val (.int .i64 x.2),.val (.int .i64 1)]
theorem drL_len (l : List (Int × Int)) : (drL l).length = l.length := by simp [drL]
theorem drL_all (l : List (Int × Int)) : (drL l).all (fun x => x.length == 5) = true := by simp [drL]
theorem drL_gd (l : List (Int × Int)) (k : Nat) (h : k < l.length) : (drL l)[k]? = some [.val (.int .i64 (l[k]?.getD (0,0)).1),.val (.int .i64 (l[k]?.getD (0,0)).1),.val (.int .i64 (l[k]?.getD (0,0)).2),.val (.int .i64 (l[k]?.getD (0,0)).2),.val (.int .i64 1)] := by simp [drL,h]
def sumK (l : List (Int × Int)) : Nat → Int
  | 0 => 0
  | i + 1 => sumK l i + (l[i]?.getD (0,0)).2
structure DropOk (r : Rot) (a : Air) (x : Int × Int) : Prop where
  v : spVB (x.1,x.1) = true
  k1 : 0 ≤ x.2
  k2 : x.2 ≤ 3000
  ly : lyB r.f (x.1,x.1) a.w = true
  wk : wkB r a (x.1,x.1) (x.2,x.2) = false
theorem sumK_bd {r : Rot} {a : Air} {l : List (Int × Int)} (h : ∀ k : Nat,k < l.length → DropOk r a (l[k]?.getD (0,0))) : ∀ i,i ≤ l.length → 0 ≤ sumK l i ∧ sumK l i ≤ 3000 * i
  | 0,_ => by simp [sumK]
  | i + 1,hi => by
    have := sumK_bd h i (by omega)
    have h1 := (h i (by omega)).k1
    have h2 := (h i (by omega)).k2
    simp only [sumK]
    omega
theorem roDescent_ac (r : Rot) (a : Air) (l : List (Int × Int)) (hs : RotSm r) (h0 : rotE r = 0) (hb : airB a = true) (hx : 0 < r.f.x.length) (h2 : lyB r.f (iat r.f.x 0,iat r.f.x 0) a.w = true) (hl : l.length ≤ 50) (hd : ∀ k : Nat,k < l.length → DropOk r a (l[k]?.getD (0,0))) :
    AC Tryz.prog 9 [rotD r,airD a,.list (drL l)] [] [] (.tup [.agg [dI (sumK l l.length),dI (sumK l l.length)],dI 0,dI 0]) := by
  refine krotor_Descent.ac (n0 := 0) (by simp) ⟨in_rotD _ _,in_airD _ _,.list _,trivial⟩ trivial rfl ?_
  have c1 := roChkD_ac r a hx hs h0 hb h2
  have tc : Tbl r.f.x r.f.y r.f.v := limB_tbl ((rotE_is h0).lim 5 (by omega))
  have c2 := fun x => roRing_ac r a x
  have c3 := fun x => roLies_ac r.f x a.w tc (hs 5 (by omega))
  have c4 := fun x y => roWakeM_ac r a x y hs
  have dl := drL_len l
  have da := drL_all l
  have q50 : decide ((l.length : Int) > 50) = false := decide_eq_false (by omega)
  have sb := fun i hi => sumK_bd hd i hi
  unfold crotor_Descent
  unfold rotD rotC airD airC macC lkC at *
  refine aw_seq (aw_region ?_)
  simp (disch := first | exact okY | omega) only [ZU,dI,Nat.reduceAdd,Nat.reduceMul,AOpRun,aexec,D.isBot,↓eget_h,or_self,↓reduceIte,D.cells,Nat.reduceBEq]
  refine aw_seq (aw_region ?_)
  simp (disch := first | exact okY | omega) only [ZU,Nat.reduceAdd,Nat.reduceMul,AOpRun,aexec,Nat.reduceBEq,↓eget_h,Nat.reduceLeDiff,↓reduceIte,List.drop,List.take,↓hget_h,fillD,D.isBot,D.cells,ne_eq,not_true_eq_false,Nat.reduceGT,or_self,splice,List.all,D.leaf]
  refine aw_wk (s' := ⟨[(2,.list (drL l)),(3,.ptr 8 0),(4,.ptr 24 0),(6,.ptr 32 0),(9,.ptr 0 0)],[(0,macC r a),(8,rotC r),(24,airC a),(32,[dI 0,dI 0])],600⟩) ?_ ?_
  · unfold dI macC rotC airC
    refine wk_q [] [(0,64),(8,0),(24,8),(32,16)] ?_ ?_ <;> repeat' (first | exact trivial | exact vr_val _ | exact vr_list _ | exact vr_ptr _ _ _ rfl | refine And.intro ⟨_,rfl,.inl ⟨_,rfl,by decide,?_⟩⟩ ?_ | apply And.intro)
  unfold macC rotC airC
  refine aw_seq (aw_seq (aw_hide fun K hK => aw_region ?_))
  simp (disch := first | exact okY | omega) only [ZU,Nat.reduceAdd,Nat.reduceMul,dI,AOpRun,aexec,Nat.reduceBEq,↓eget_h,↓hget_h,Nat.reduceLeDiff,↓reduceIte,List.drop,List.take]
  refine acallB c1 (by repeat' (first | exact trivial | exact rfl | refine And.intro ?_ ?_)) (by kernel_rfl) (by kernel_rfl) (by kernel_rfl) ?_
  simp (disch := first | exact okY | omega) only [ZU,Nat.reduceAdd,dI,Nat.reduceBEq,AOpRun,aexec,↓eget_h]
  subst hK
  simp only [thenQ,blockQ,if_true,if_false,Nat.reduceEqDiff,reduceCtorEq]
  refine aw_seq (aw_hide fun K hK => aw_region ?_)
  simp (disch := first | exact okY | omega) only [ZU,Nat.reduceAdd,Nat.reduceMul,AOpRun,aexec,Nat.reduceBEq,↓eget_h,isSh,↓reduceIte,abin,bne_self_eq_false]
  subst hK
  refine aw_condF rfl (aw_skip ?_)
  simp only [thenQ,blockQ,if_true,if_false,Nat.reduceEqDiff,reduceCtorEq]
  clear c1
  refine aw_seq (aw_seq (aw_hide fun K hK => aw_region ?_))
  simp (disch := first | exact okY | omega) only [ZU,Nat.reduceAdd,Nat.reduceMul,AOpRun,aexec,↓eget_h,Nat.reduceBEq,dl,isSh,↓reduceIte,abin,q50]
  subst hK
  refine aw_condF rfl (aw_skip ?_)
  simp only [thenQ,blockQ,if_true,if_false,Nat.reduceEqDiff,reduceCtorEq]
  refine aw_seq (aw_hide fun K hK => aw_region ?_)
  simp (disch := first | exact okY | omega) only [ZU,Nat.reduceMul,Nat.reduceAdd,AOpRun,aexec,Nat.reduceBEq,↓reduceIte]
  subst hK
  simp only [thenQ,blockQ,if_true,if_false,Nat.reduceEqDiff,reduceCtorEq]
  refine aw_seq (aw_seq (aw_hide fun K hK => aw_region ?_))
  simp (disch := first | exact okY | omega) only [ZU,Nat.reduceAdd,Nat.reduceMul,AOpRun,aexec,↓eget_h,Nat.reduceBEq,dl]
  subst hK
  simp only [thenQ,blockQ,if_true,if_false,Nat.reduceEqDiff,reduceCtorEq]
  refine aw_block (aw_loop (fun i : Nat => ⟨[(6,.ptr 32 0),(9,.ptr 0 0),(11,.ptr 40 0),(29,.list (drL l)),(30,dI l.length),(31,dI i)],[(0,macC r a),(32,[dI 0,dI 0]),(40,[dI (sumK l i),dI (sumK l i)])],2000⟩) (fun i => i ≤ l.length) (fun i => l.length - i) ⟨0,by omega,?_⟩ ?_)
  · unfold dI macC
    have e : sumK l 0 = 0 := rfl
    rw [e]
    refine wk_q [] [(0,0),(32,32),(40,680)] ?_ ?_ <;> repeat' (first | exact trivial | exact vr_val _ | exact vr_list _ | exact vr_ptr _ _ _ rfl | refine And.intro ⟨_,rfl,.inl ⟨_,rfl,by decide,?_⟩⟩ ?_ | apply And.intro)
  intro i hi
  unfold macC
  by_cases hlt : i < l.length
  case neg =>
    obtain rfl : i = l.length := by omega
    have s1 := sb l.length (Nat.le_refl _)
    have v1 := roValid_ac (sumK l l.length,sumK l l.length)
    have e1 : spVB (sumK l l.length,sumK l l.length) = true := spVB_t2 (by omega) (by omega)
    rw [e1] at v1
    generalize sumK l l.length = S at *
    clear sb hd c2 c3 c4
    (repeat' (first | (with_reducible first | refine thenQ_n ?_ | refine blockQ_n ?_ | refine thenQ_e ?_ | refine blockQ_t ?_ | refine blockQ_f (by decide) ?_) | apply aw_seq | apply aw_skip | apply aw_exit | apply aw_ret | apply aw_block | apply aw_condT rfl | apply aw_condF rfl | ((first | refine aw_hide fun K hK => aw_region ?_ | refine acall0 (v1) ?_ | refine ago_if (by omega) ?_ | skip); simp (disch := first | exact okY | omega) only [ZU,Nat.reduceMul,Nat.reduceAdd,dI,AOpRun,aexec,Nat.reduceBEq,↓eget_h,isSh,↓reduceIte,abin,Int.lt_irrefl,decide_false,↓hget_h,Nat.reduceLeDiff,List.drop,List.take,dB,D.isBot,D.cells,List.all,D.leaf,splice]) | subst hK))
    all_goals (refine end_q [] [] ?_ ?_ <;> repeat' (first | exact trivial | exact vr_val _ | apply vr_agg | apply vr_tup | apply And.intro))
  have g1 := drL_gd l i hlt
  have ki : (i : Int) < (l.length : Int) := by omega
  have hx := hd i hlt
  have s1 := sb i hi
  have s2 := sb (i + 1) hlt
  have es : sumK l (i + 1) = sumK l i + (l[i]?.getD (0,0)).2 := rfl
  rw [es] at s2
  clear sb hd
  generalize l[i]?.getD (0,0) = x at *
  obtain ⟨v,k⟩ := x
  obtain ⟨d1,d2,d3,d4,d5⟩ := hx
  simp only at d1 d2 d3 d4 d5 es s2
  have w1 := roWithin_ac 1 0 1000
  have w2 := roValid_ac (v,v)
  have w3 := roValid_ac (k,k)
  have e3 : spVB (k,k) = true := spVB_t2 (by omega) (by omega)
  have c2' := c2 (v,v)
  have c3' := c3 (v,v)
  have c4' := c4 (v,v) (k,k)
  rw [show wI 1 0 1000 = true from rfl] at w1
  rw [d1] at w2
  rw [e3] at w3
  rw [d4] at c3'
  rw [d5] at c4'
  clear c2 c3 c4
  have sS : sumK l i ≤ 150000 := by omega
  have km : k * 1 = k := Int.mul_one k
  (repeat' (first | (with_reducible first | refine thenQ_n ?_ | refine blockQ_n ?_ | refine thenQ_e ?_ | refine blockQ_t ?_ | refine blockQ_f (by decide) ?_) | apply aw_seq | apply aw_skip | apply aw_exit | apply aw_ret | apply aw_block | apply aw_condT rfl | apply aw_condF rfl | ((first | refine aw_hide fun K hK => aw_region ?_ | refine acall0 (w1) ?_ | refine acall0 (w2) ?_ | refine acall0 (w3) ?_ | refine acall0 (c2') ?_ | refine acall0 (c3') ?_ | refine acall0 (c4') ?_ | refine ago_if (by omega) ?_ | skip); simp (disch := first | exact okY | omega) only [ZU,Nat.reduceMul,Nat.reduceAdd,dI,AOpRun,aexec,Nat.reduceBEq,↓eget_h,isSh,↓reduceIte,abin,ki,da,opt1,g1,Nat.reduceLeDiff,List.take,↓hget_h,D.isBot,D.cells,List.all,D.leaf,splice,List.drop,run1,dB,ARun_some,AG_ff,km,fits]) | subst hK))
  refine ⟨i + 1,by omega,by omega,?_⟩
  rw [es]
  refine wk_q [] [(0,0),(32,32),(40,40)] ?_ ?_ <;> repeat' (first | exact trivial | exact vr_val _ | exact vr_list _ | exact vr_ptr _ _ _ rfl | refine And.intro ⟨_,rfl,.inl ⟨_,rfl,by decide,?_⟩⟩ ?_ | apply And.intro)
end Go.Proofs.YtbncpngjclabhaaGreat
/- Operations with several outcomes: append to a slice behind an offset, a cut of such a slice; a yield in a region that draws its order, in a loop whose assignments are code of their own. No conditions. -/
namespace Go.Proofs.YtbncpngjclabhaaGreat.Lift
open Go Go.RowKit

def DoesF (P : Program) (o : Oper) (ρ : Operand → D) (H : Heap) (F : List D → Eff) : Prop :=
  ∀ (w : World) (ev : Operand → Value) (β : Bet) (Z : Blk),(∀ x ∈ o.op.operands,Rep w β Z (ev x) (ρ x)) → (∀ i,PreOp w β Z H (F i)) →
    NextPost P ((execOp ev o).run P w) fun v w' => ∃ i,Post w β Z H (F i) v w'
theorem RelS.wpF {P : Program} {C : Ctx} {β : Bet} {Z : Blk} {s : FSt} {a : Act} {w : World} {F : List D → Eff} {o : Oper} {K : Act → World → Prop} {Q : Exit → Act → World → Prop} (h : RelS C β Z s a w)
    (hd : ∀ d,o.dst = some d → d < C.n) (hpl : ∀ c,o.op ≠ .defer c) (hdo : DoesF P o s.ev s.H F) (hf : ∀ i g,g ∈ (F i).ids → s.H g = none → β g = none)
    (hK : ∀ i β' Z' v w',PostAt w β Z s.H (F i) v w' β' → RelS C β' Z' (s.app o.dst (F i)) (a.put o.dst v) w' → K (a.put o.dst v) w') : o.wpIn (Fw C.r) 0 P a w K Q := by
  have h1 := hdo w a.eval β Z (fun x _ => h.ev x) fun i => ⟨fun g c _ hc => h.objs g c hc,fun g g' c c' B _ _ => h.inj g g' c c' B,hf i,h.zlt,h.gl⟩
  refine ⟨fun _ _ => trivial,?_⟩
  rw [Oper.semAt_eq _ _ _ hpl]
  generalize (execOp a.eval o).run P w = r at h1
  unfold NextPost at h1
  split at h1
  · obtain ⟨i, β',p⟩ := h1
    exact hK i β' _ _ _ p (h.step hd p)
  · obtain ⟨i, β',p⟩ := h1
    exact hK i β' _ _ _ p (h.step hd p)
  · refine ⟨fun hh => (by cases hh),(calls_fw C.r (0 - 1) h1).mono ?_⟩
    rintro e w'' ⟨v,rfl,i, β',p⟩
    exact hK i β' _ _ _ p (h.step hd p)
  · refine ⟨fun hh => (by cases hh),(round_fw C.r (0 - 1) 0 h1).mono ?_⟩
    rintro e w'' ⟨v,rfl,i, β',p⟩
    exact hK i β' _ _ _ p (h.step hd p)
  · exact h1.elim
def SpQ (P : Program) (ao : AOp) (dst : Option Nat) (len1 nx : Nat) (ops2 : List AOper) (drop : List Nat) (Q : AExit → St → Prop) (s1 : St) : Prop :=
  ∃ F : List D → Eff,(∀ o : Oper,compOp P o.op = some ao → DoesF P o s1.F.ev (hget s1.hp) F) ∧ (∀ i g,g ∈ (F i).ids → hget s1.hp g = none → nx + 8 * len1 ≤ g ∧ g < nx + 8 * len1 + 8) ∧
    ∀ i,ARun P false nx (fun s2 => Q .norm ⟨dropE s2.env drop,s2.hp,nx + 8 * (len1 + 1 + ops2.length)⟩) ops2 (len1 + 1) (s1.app dst (F i).d (F i).up) []
theorem aw_region_sp {rd : Rd} {P : Program} {n : Nat} {pre : List Nat} {Q : AExit → St → Prop} {s : St} (ops1 ops2 : List AOper) {ao : AOp} {dst : Option Nat} {anc : List Nat} {drop : List Nat}
    (h : ARun P false s.nx (SpQ P ao dst ops1.length s.nx ops2 drop Q) ops1 0 s []) :
    AWb rd P n pre (.region false (ops1 ++ ⟨dst,ao,none,anc⟩ :: ops2) drop) Q s := fun code keep hc C a w hn hp hd hr => by
  cases code with
  | region id oa draw =>
    simp only [compCode] at hc
    split at hc
    · rename_i al hal
      split at hc
      · rename_i hcond
        cases hc
        obtain ⟨β,Z,hR,hβ⟩ := hr
        obtain ⟨hd',hlen⟩ := compOps_dst _ _ _ hal
        have hpl := compOps_plain _ _ _ hal
        obtain ⟨l1,l2',hl,e1,e2,e3,e4⟩ := compOps_app _ _ _ _ hal
        rw [Nat.zero_add] at e4
        obtain ⟨oy,l2,rfl,hoy,e5⟩ : ∃ oy l2,l2' = oy :: l2 ∧ compOper P n oa [] oy = some ⟨dst,ao,none,anc⟩ ∧ compOps P n oa [] l2 (ops1.length + 1) = some ops2 := by
          cases l2' with
          | nil => simp at e2
          | cons oy l2 =>
            simp only [compOps] at e4
            split at e4
            · rename_i x y hx hy
              cases e4
              exact ⟨oy,l2,rfl,by simpa using hx,by simpa using hy⟩
            · cases e4
        have hans : ∀ i j,j ∈ (([] : List (List Nat))[i]?).getD [] → Anc .any oa i j := by simp
        have hdo : ∀ o ∈ oa, ∀ d,o.dst = some d → d < C.n := fun o ho d hdd => hn ▸ hd' o (by simpa using ho) d hdd
        have hplo : ∀ o ∈ oa, ∀ c,o.op ≠ .defer c := fun o ho => hpl o (by simpa using ho)
        have hsz : oa.size = l1.length + (l2.length + 1) := by have := congrArg List.length hl; simpa using this
        have hl2 : l2.length = ops2.length := by simpa using e2
        refine wpIn_region ?_
        have hrange : List.range oa.size = List.range' 0 l1.length ++ List.range' l1.length (l2.length + 1) := by
          rw [List.range_eq_range',hsz]
          have := List.range'_append (s := 0) (m := l1.length) (n := l2.length + 1) (step := 1)
          simpa using this.symm
        rw [hrange]
        have hget : ∀ j,oa[j]? = (l1 ++ oy :: l2)[j]? := fun j => by rw [← hl,Array.getElem?_toList]
        have hoyat : oa[l1.length]? = some oy := by rw [hget,List.getElem?_append_right (by omega)]; simp
        refine wpOps_pre (base := s.nx) (K := l1.length) hdo hplo ?_ l1 0 _ (fun _ _ => False) a w β Z (fun j hj => by rw [Nat.zero_add,hget,List.getElem?_append_left hj]) (by simp) hR (fun g hg hn => absurd (hβ g hg) hn)
          (arun_lex hans l1 ops1 0 s [] _ e3 (fun j ef hf => hf.elim) h)
        rintro fs a1 w1 β1 Z1 hR1 hF ⟨s1,rfl,_,F,hdoF,hids,hcont⟩
        unfold compOper at hoy
        split at hoy
        · rename_i ao' hao
          split at hoy
          · rename_i hdst
            simp only [Option.some.injEq,AOper.mk.injEq] at hoy
            obtain ⟨rfl,rfl,hgd,_⟩ := hoy
            have hg0 : oy.guard = none := by simpa using hgd
            rw [List.range'_succ,wpOpsIn_cons]
            unfold wpOpIn
            simp only [hoyat]
            have hw : Region.wanted oy (yielded oa a1.tmps) = true := by simp [Region.wanted,hg0]
            rw [hw]
            simp only [if_true]
            refine hR1.wpF (hdo oy (Array.mem_of_getElem? hoyat)) (hplo oy (Array.mem_of_getElem? hoyat)) (hdoF oy hao) (fun i g hg hn => ?_) fun i β2 Z2 v w2 p hR2 => ?_
            · obtain ⟨h1,h2⟩ := hids i g hg hn
              cases hb : β1 g with
              | none => rfl
              | some B =>
                obtain ⟨j,hj,h3,h4⟩ := hF g (by omega) (by rw [hb]; simp)
                omega
            · have hF2 : FreeB s.nx (fun j => j < l1.length + 1) β2 := fun g hb hg => by
                rcases p.dom g hg with h1 | h1
                · obtain ⟨j,hj,h3⟩ := hF g hb h1
                  exact ⟨j,by omega,h3⟩
                · have := hids i g h1.1 h1.2
                  exact ⟨l1.length,by omega,by omega,by omega⟩
              rw [← St.app_F] at hR2
              have hr2 := wpOps_pre (P := P) (ops := oa) (base := s.nx) (K := l1.length + 1 + l2.length) (C := C) (Q' := PostQ C Q) (rest := []) hdo hplo
                (Q := fun fs => ∃ s3 : St,fs = s3.F ∧ s3.nx = (s1.app oy.dst (F i).d (F i).up).nx ∧ Q .norm ⟨dropE s3.env _,s3.hp,s.nx + 8 * (ops1.length + 1 + ops2.length)⟩) ?_ l2 (l1.length + 1) _ (fun _ _ => False) _ _ β2 Z2 (fun j hj => by rw [hget,List.getElem?_append_right (by omega)]; simp [show l1.length + 1 + j - l1.length = j + 1 by omega]) rfl hR2 hF2
                (arun_lex hans l2 ops2 (l1.length + 1) (s1.app oy.dst (F i).d (F i).up) [] _ (by rw [e1]; exact e5) (fun j ef hf => hf.elim) (by rw [e1]; exact hcont i))
              · simpa using hr2
              · rintro fs a4 w5 β4 Z4 hR5 hF5 ⟨s3,rfl,_,hQ⟩
                refine ⟨_,hQ, β4,Z4,⟨hR5.size,hR5.defers,fun t => ?_,hR5.objs,hR5.inj,hR5.fr,hR5.z0,hR5.old,hR5.orig,hR5.ext,hR5.zlt⟩,fun g' hg' => ?_⟩
                · show Rep w5 β4 Z4 _ (eget (dropE s3.env _) t)
                  rcases get_drop s3.env _ t with h1 | h1
                  · rw [h1]; exact hR5.env t
                  · rw [h1]; exact .bot _
                · cases hb : β4 g' with
                  | none => rfl
                  | some B =>
                    simp only at hg'
                    obtain ⟨j,hj,h1,h2⟩ := hF5 g' (by omega) (by rw [hb]; simp)
                    omega
          · cases hoy
        · cases hoy
      · cases hc
    · cases hc
  | seq a b => simp only [compCode] at hc; split at hc <;> cases hc
  | cond c a b => simp only [compCode] at hc; split at hc <;> cases hc
  | block id a => simp [compCode] at hc
  | loop a => simp [compCode] at hc
  | rangeFunc x1 x2 x3 x4 => simp only [compCode] at hc; repeat' (first | (cases hc; done) | split at hc)
  | _ => cases hc

section
variable {P : Program} {o : Oper} {ρ : Operand → D} {H : Heap} {id : Nat}
theorem comp_appI {ao : AOp} {sz bytes : Nat} {x y : Operand} (h : compOp P o.op = some ao) (ha : ao = .app sz bytes x y) :
    ∃ t tx e e2 ti z,o.op = .call ⟨.builtin .append, #[x,y], #[t,tx]⟩ ∧ P.underlying t = some (.slice e) ∧ P.underlying tx = some (.slice e2) ∧ P.info? e = some ti ∧ ti.zero = some z ∧ z.cells.size = P.cellsOf e ∧ sz = P.cellsOf e ∧ bytes = ti.bytes := by
  subst ha
  cases ho : o.op with
  | call c =>
    rw [ho] at h
    simp only [compOp,cCall] at h
    have mk : ∀ (b : Builtin) (ay : List Operand) (ts : List TypeId),c.callee = .builtin b → c.args.toList = ay → c.argTypes.toList = ts → (Op.call c) = .call ⟨.builtin b,ay.toArray,ts.toArray⟩ := by
      intro b ay ts h1 h2 h3
      cases c
      simp only at h1 h2 h3
      subst h1; subst h2; subst h3
      simp
    split at h
    · split at h
      · simp only [cLen] at h; split at h <;> cases h
      · cases h
    · rename_i hcal
      split at h
      · rename_i x' y' t tx h1 h2
        simp only [cApp] at h
        split at h
        · rename_i e e2 hu hu2
          split at h
          · rename_i j hj
            split at h
            · rename_i z hz
              split at h
              · rename_i h0
                cases h
                exact ⟨t,tx,e,e2,j,z,mk _ _ _ hcal h1 h2,hu,hu2,hj,hz,h0,rfl,rfl⟩
              · cases h
            · cases h
          · cases h
        · cases h
      · cases h
    · cases h
    · cases h
    · cases h
    · cases h
  | _ => rw [ho] at h; simp only [compOp,cAlloc,cBuild,cBuildSl,cLoad,cStore,cBin,cConv,cSlice,cFad,cField,cIad,cIdx,cMake,cMk,cLook,cMset,cEqA] at h; repeat' (first | (cases h; done) | (simp [cEq] at h; done) | (simp only [cEq] at h) | contradiction | split at h)
theorem comp_slI {sz : Nat} {x : Operand} {lo hi : Option Operand} (h : compOp P o.op = some (.slS sz x lo hi)) :
    ∃ t e ti,o.op = .slice t x lo hi none ∧ P.underlying t = some (.slice e) ∧ P.info? e = some ti ∧ sz = P.cellsOf e := by
  cases ho : o.op with
  | slice t x' lo' hi' m =>
    rw [ho] at h
    cases m with
    | none =>
      simp only [compOp,cSlice] at h
      split at h
      · rename_i e hu
        split at h
        · rename_i ti hti
          cases h
          exact ⟨t,e,ti,rfl,hu,hti,rfl⟩
        · cases h
      · split at h
        · split at h <;> cases h
        · cases h
      · cases h
    | some m => cases h
  | _ => rw [ho] at h; simp only [compOp,cAlloc,cBuild,cBuildSl,cLoad,cStore,cBin,cConv,cFad,cField,cIad,cIdx,cMake,cMk,cLook,cMset,cEqA,cCall,cLen,cApp] at h; repeat' (first | (cases h; done) | (simp [cEq] at h; done) | (simp only [cEq] at h) | contradiction | split at h)
theorem doesF_sl {sz g off n : Nat} {x lo : Operand} {a : Nat} {k : IntKind} (h : compOp P o.op = some (.slS sz x (some lo) none)) (hx : ρ x = .own g off n sz) (hlo : ρ lo = .val (.int k a)) (ha : a < n) :
    DoesF P o ρ H fun _ => ⟨.own g (off + a * sz) (n - a) sz,[],[]⟩ := by
  obtain ⟨t,e,ti,ho,ht,hi',rfl⟩ := comp_slI h
  intro w ev β Z hev hp
  have hxr := hev x (by simp [ho,Op.operands])
  have hlr : ∀ y,some lo = some y → Rep w β Z (ev y) (ρ y) := fun y hy => hev y (by cases hy; simp [ho,Op.operands])
  have hhr : ∀ y,(none : Option Operand) = some y → Rep w β Z (ev y) (ρ y) := fun y hy => by cases hy
  rw [hx] at hxr
  generalize hv : ev x = v at hxr
  cases hxr with
  | own _ _ _ _ B cap e' m hB hlt hlen hs hm =>
    have hla : asI ((some lo).map ρ) 0 = some (a : Int) := by simp [asI,hlo]
    have hlb : asI ((none : Option Operand).map ρ) n = some (n : Int) := rfl
    have key : (execOp ev o).run P w = .ok (.value (.slice (if cap = a then (some ⟨B,off,none⟩ : Option Addr) else (some ⟨B,off,none⟩ : Option Addr).map (·.add (a * P.cellsOf e))) (n - a) (cap - a))) w := by
      have hb := run_bounds (P := P) (w := w) (ρ := ρ) true n cap (a : Int) (n : Int) hlr hhr hla hlb (by omega) (by omega) (by omega) hlen
      simp only [Option.map_none] at hb
      simp only [execOp,ho,Instr.sliceAt,Sem.run_bind,run_underlying ht,Result.andThen_ok,hv,Instr.slice,Option.map_none,hb,run_sizeOf w hi',Sem.run_pure,Int.toNat_natCast]
    rw [key,if_neg (by omega),Option.map_some,add_none]
    refine ⟨[],post_same (.own g _ _ _ B (cap - a) e' m hB hlt (by omega) hs ?_)⟩
    rw [Nat.add_assoc,← Nat.add_mul,show a + (cap - a) = cap by omega]
    exact hm
def cho (cg : List D) (off : Nat) (l : List D) : List D := if l.isEmpty = true then [] else cg.take off
theorem cho_same (cg : List D) (off : Nat) : cho cg off (cg.take off) = cg.take off := by
  unfold cho
  cases h : cg.take off with
  | nil => rfl
  | cons a b => rfl
theorem cho_or (cg : List D) (off : Nat) (l : List D) : cho cg off l = [] ∨ cho cg off l = cg.take off := by
  unfold cho; split
  · exact .inl rfl
  · exact .inr rfl
theorem doesF_app {sz bytes g off n m id : Nat} {x y : Operand} {cg c' : List D} {rd : List Nat} (h : compOp P o.op = some (.app sz bytes x y)) (hx : ρ x = .own g off n sz) (hg : H g = some cg) (hle : off + n * sz ≤ cg.length) (hel : elems H sz (ρ y) = some (m,c',rd))
    (hm : 0 < m) (hfit : (n + m) * 2 * bytes ≤ 2 ^ 48) (h62 : n + m < 2 ^ 62) (hid : (H id).isSome = false) (hleaf : c'.all D.leaf = true) :
    DoesF P o ρ H fun l => ⟨.own id (cho cg off l).length (n + m) sz,rd,ups [g] id (cho cg off l ++ ((cg.drop off).take (n * sz) ++ c'))⟩ := by
  obtain ⟨t,tx,e,e2,ti,z,hop,ht,hk,hi,hz,hzc,rfl,rfl⟩ := comp_appI h rfl
  intro w ev β Z hev hp
  have hp : ∀ c0,(c0 = [] ∨ c0 = cg.take off) → PreOp w β Z H ⟨.own id c0.length (n + m) (P.cellsOf e),rd,ups [g] id (c0 ++ ((cg.drop off).take (n * P.cellsOf e) ++ c'))⟩ := fun c0 h0 => by
    rcases h0 with rfl | rfl
    · exact hp []
    · have := hp (cg.take off); simp only [cho_same] at this; exact this
  have out : ∀ c0 v w',(c0 = [] ∨ c0 = cg.take off) → Post w β Z H ⟨.own id c0.length (n + m) (P.cellsOf e),rd,ups [g] id (c0 ++ ((cg.drop off).take (n * P.cellsOf e) ++ c'))⟩ v w' →
      ∃ l,Post w β Z H ⟨.own id (cho cg off l).length (n + m) (P.cellsOf e),rd,ups [g] id (cho cg off l ++ ((cg.drop off).take (n * P.cellsOf e) ++ c'))⟩ v w' := fun c0 v w' h0 hpo => by
    rcases h0 with rfl | rfl
    · exact ⟨[],hpo⟩
    · exact ⟨cg.take off,by rw [cho_same]; exact hpo⟩
  generalize hc : (cg.drop off).take (n * P.cellsOf e) = c at *
  have hcl : c.length = n * P.cellsOf e := by rw [← hc]; simp; omega
  have hidg : id ≠ g := by rintro rfl; rw [hg] at hid; cases hid
  have hmem : ∀ c0,id ∈ (⟨.own id c0.length (n + m) (P.cellsOf e),rd,ups [g] id (c0 ++ (c ++ c'))⟩ : Eff).ids := fun c0 => by unfold Eff.ids; rw [ups_ids]; simp
  have hgm : ∀ c0,g ∈ (⟨.own id c0.length (n + m) (P.cellsOf e),rd,ups [g] id (c0 ++ (c ++ c'))⟩ : Eff).ids := fun c0 => by unfold Eff.ids; rw [ups_ids]; simp
  obtain ⟨hn,hβ⟩ := freshOf (hp [] (.inl rfl)) (hmem []) hid
  have hxr := hev x (by simp [hop,Op.operands,Call.operands])
  have hyr := hev y (by simp [hop,Op.operands,Call.operands])
  obtain ⟨xa,xc,news,hyv,hnr,hnl,hnw⟩ := elems_sound hyr hel (fun g c hg hc => (hp [] (.inl rfl)).objs g c (.inl hg) hc)
  have hidk : id ∉ [g] := by simpa using hidg
  rw [hx] at hxr
  generalize hv : ev x = v at hxr
  cases hxr with
  | own _ _ _ _ B cap e' mm hB hlt hlen hs hmm =>
    obtain ⟨cs,e'',hO⟩ := ((hp [] (.inl rfl)).objs g cg (.inr (hgm [])) hg).real hB
    have hee : e' = e'' ∧ mm = cs.size := by have hs' := hs; simp [World.shape?,hO.block hs] at hs'; exact ⟨hs'.1.symm,hs'.2.symm⟩
    obtain ⟨rfl,rfl⟩ := hee
    have hkz : ∀ g' ∈ [g], ∀ b, β g' = some b → Z b := fun g' hg' b hb' => by
      rw [List.mem_singleton.1 hg',hB] at hb'; cases hb'; exact hO.ours
    have run : ∀ v w',(Builtin.append_ #[t,tx] o.type #[.slice (some ⟨B,off,none⟩) n cap,.slice xa m xc]).run P w = .ok v w' → (execOp ev o).run P w = .ok (.value v) w' := by
      intro v w' hr
      simp only [execOp,hop,resolve,invoke,builtin,Sem.run_bind,Sem.run_pure,Result.andThen_ok]
      rw [show (#[x,y].map ev) = #[ev x,ev y] by simp,hv,hyv,hr]
      rfl
    have hfits := hO.fits
    by_cases hroom : n + m ≤ cap
    · -- in place
      have hnsz := hnr.1
      have hlv : ∀ u ∈ news.toList,(∀ a,u ≠ .agg a) ∧ (∀ a,u ≠ .tuple a) := by
        intro u hu
        obtain ⟨i,hi',rfl⟩ := List.getElem_of_mem hu
        have hi2 : i < news.size := by simpa using hi'
        have hi3 : i < c'.length := by omega
        have := hnr.2 i hi3
        have hl := List.all_eq_true.1 hleaf _ (List.getElem_mem hi3)
        rw [show news.getD i undef = news[i] by simp [hi2]] at this
        simpa using this.leaf hl
      have hmm' : off + (n + m) * P.cellsOf e ≤ cs.size := by
        have := Nat.mul_le_mul_right (P.cellsOf e) hroom
        omega
      rw [Nat.add_mul] at hmm'
      obtain ⟨w',cs',hr,hf,hb',hsz,hgt⟩ := run_stores (P := P) B e' (off + n * P.cellsOf e) news.toList 0 w cs (hO.block hs) (by simp; omega) hlv
      have hra := run_app_room (ty := o.type) (w' := w') ht hk hi (some ⟨B,off,none⟩) n cap m xa xc news (hyv ▸ hnw w rfl) hroom (fun a ha => by cases ha; rw [add_none]; exact hr) (fun h => by cases h)
      rw [run _ _ hra]
      obtain ⟨c0,hc0⟩ : ∃ c0,cg.take off = c0 := ⟨_,rfl⟩
      have hc0l : c0.length = off := by rw [← hc0]; simp; omega
      refine out c0 _ _ (.inr hc0.symm) ?_
      have hwr : Wr H ⟨.own id c0.length (n + m) (P.cellsOf e),rd,ups [g] id (c0 ++ (c ++ c'))⟩ β B := ⟨g,cg,hgm c0,hg,hO.at_⟩
      have hX : ∀ b,b < w.heap.size → b = B → Z b := fun b _ h => h ▸ hO.ours
      have hZ : ∀ b,b < w.heap.size → Zof Z (setB β id (some B)) ⟨.own id c0.length (n + m) (P.cellsOf e),rd,ups [g] id (c0 ++ (c ++ c'))⟩ b → Z b := by
        rintro b _ (h | ⟨g',hg',hb2⟩)
        · exact h
        · by_cases h3 : g' = id
          · subst h3; rw [setB_id] at hb2; cases hb2; exact hO.ours
          · have : g' ∈ [g] := by unfold Eff.ids at hg'; rw [ups_ids] at hg'; simpa [h3] using hg'
            exact hkz g' this b (by simpa [setB,h3] using hb2)
      refine post_one (Bo := some B) hidk hn hβ hkz (hf.mono fun b _ h => h ▸ hwr) (fun B' h => by cases h; exact .inr ⟨hwr,hO.ours⟩) ?_ ?_
      · have h1 := Rep.own (w := w') (β := setB β id (some B)) (Z := Zof Z (setB β id (some B)) ⟨.own id c0.length (n + m) (P.cellsOf e),rd,ups [g] id (c0 ++ (c ++ c'))⟩) id c0.length (n + m) (P.cellsOf e) B cap e' cs.size setB_id (Nat.lt_of_lt_of_le hO.lt hf.size) hroom (by rw [hf.shp B hO.lt]; exact hs) (by rw [hc0l]; exact hmm)
        rw [hc0l] at h1 ⊢
        exact h1
      · refine .inr ⟨B,cs',e',setB_id,.inr ⟨id,hmem c0,setB_id⟩,.inl hb',?_,fun i hi' => ?_⟩
        · rw [hsz]; simp only [List.length_append,hcl,hnl,hc0l]; omega
        · rw [hgt]
          by_cases h1 : i < off + c.length
          · rw [if_neg (by omega)]
            have h2 : i < cg.length := by omega
            have h3 := (hO.rep i h2).mono hf hX (setB_ext (B := some B) hβ) hZ
            have e5 : (c0 ++ (c ++ c'))[i] = cg[i] := by
              by_cases h4 : i < off
              · rw [List.getElem_append_left (by omega)]; subst hc0; simp
              · rw [List.getElem_append_right (by omega),List.getElem_append_left (by omega)]
                subst hc
                simp only [List.getElem_take,List.getElem_drop]
                congr 1; omega
            rw [e5]; exact h3
          · rw [if_pos (by simp at hi' ⊢; omega),List.getElem_append_right (by omega),List.getElem_append_right (by omega)]
            have h2 : i - c0.length - c.length < c'.length := by simp at hi'; omega
            have := (hnr.2 (i - c0.length - c.length) h2).mono hf hX (setB_ext (B := some B) hβ) hZ
            have e4 : news.toList.getD (i - (off + n * P.cellsOf e + 0)) undef = news.getD (i - c0.length - c.length) undef := by rw [hcl,hc0l,Nat.sub_sub]; simp
            rw [e4]
            exact this
    · -- grown
      obtain ⟨olds,hor,how⟩ : ∃ olds,RepL w β Z olds c ∧ ∀ w2 : World,w2.heap = w.heap → (Builtin.firstCells (P.cellsOf e) n (.slice (some ⟨B,off,none⟩) n cap)).run P w2 = .ok olds w2 := by
        refine ⟨((List.range (n * P.cellsOf e)).map fun j => cs.getD (off + j) undef).toArray,rep_range _ _ _ hcl fun i hi' => ?_,fun w2 h2 => ?_⟩
        · have h2 : off + i < cg.length := by omega
          have := hO.rep (off + i) h2
          subst hc
          simpa using this
        · have := run_loads (P := P) w2 B off (n * P.cellsOf e) (fun j => cs.getD (off + j) undef) (fun j hj => by
            have := hO.cell hs (off + j) (by omega)
            simp only [World.cell?,h2] at this ⊢
            exact this)
          simpa [Builtin.firstCells] using this
      obtain ⟨q,hq,hr⟩ := run_app_grow (ty := o.type) ht hk hi hz (some ⟨B,off,none⟩) n cap m xa xc olds news how (hyv ▸ hnw) (by omega) hfit h62
      rw [run _ _ hr]
      have happ := repL_app hor hnr
      refine out [] _ _ (.inl rfl) ?_
      have hsz : (olds ++ news ++ Builtin.zeroCells z.cells (q - (n + m))).size = q * P.cellsOf e := by
        have hos := hor.1
        have hns := hnr.1
        simp only [Array.size_append,Builtin.zeroCells,Array.size_map,Array.size_range,hzc,hos,hns,hcl,hnl]
        rw [← Nat.add_mul,← Nat.add_mul]
        congr 1
        omega
      refine post_new hidk hn hβ hkz ?_ (fun i hi' => ?_) _ (fun w' β' Z' hb' hs hsh => .own id 0 (n + m) _ _ q e _ hb' (by omega) hq hsh (by rw [hsz,Nat.zero_add]; exact Nat.le_refl _))
      · have := happ.1; rw [Array.size_append,this]; simp
      · rw [List.nil_append] at hi'
        rw [getD_append_left _ _ _ (by rw [happ.1]; exact hi')]
        exact happ.2 i hi'
end
theorem spApp {P : Program} {sz bytes g off n m len1 nx : Nat} {x y : Operand} {cg c' : List D} {rd : List Nat} {dst : Option Nat} {ops2 : List AOper} {drop : List Nat} {Q : AExit → St → Prop} {s1 : St} (hx : s1.F.ev x = .own g off n sz) (hg : hget s1.hp g = some cg) (hle : off + n * sz ≤ cg.length)
    (hel : elems (hget s1.hp) sz (s1.F.ev y) = some (m,c',rd)) (hm : 0 < m) (hfit : (n + m) * 2 * bytes ≤ 2 ^ 48) (h62 : n + m < 2 ^ 62) (hid : (hget s1.hp (nx + 8 * len1)).isSome = false) (hleaf : c'.all D.leaf = true)
    (hK : ∀ c0 : List D,(c0 = [] ∨ c0 = cg.take off) → ARun P false nx (fun s2 => Q .norm ⟨dropE s2.env drop,s2.hp,nx + 8 * (len1 + 1 + ops2.length)⟩) ops2 (len1 + 1) (s1.app dst (.own (nx + 8 * len1) c0.length (n + m) sz) (ups [g] (nx + 8 * len1) (c0 ++ ((cg.drop off).take (n * sz) ++ c')))) []) :
    SpQ P (.app sz bytes x y) dst len1 nx ops2 drop Q s1 :=
  ⟨fun l => ⟨.own (nx + 8 * len1) (cho cg off l).length (n + m) sz,rd,ups [g] (nx + 8 * len1) (cho cg off l ++ ((cg.drop off).take (n * sz) ++ c'))⟩,fun _ h => doesF_app h hx hg hle hel hm hfit h62 hid hleaf,fun c0 g' hg' hn => by
    unfold Eff.ids at hg'
    rw [ups_ids] at hg'
    simp only [List.mem_append,List.mem_singleton] at hg'
    rcases hg' with rfl | rfl
    · rw [hg] at hn; cases hn
    · omega,fun l => hK _ (cho_or cg off l)⟩
theorem spSl {P : Program} {sz g off n len1 nx : Nat} {x lo : Operand} {a : Nat} {k : IntKind} {dst : Option Nat} {ops2 : List AOper} {drop : List Nat} {Q : AExit → St → Prop} {s1 : St} (hx : s1.F.ev x = .own g off n sz) (hlo : s1.F.ev lo = .val (.int k a)) (ha : a < n)
    (hK : ARun P false nx (fun s2 => Q .norm ⟨dropE s2.env drop,s2.hp,nx + 8 * (len1 + 1 + ops2.length)⟩) ops2 (len1 + 1) (s1.app dst (.own g (off + a * sz) (n - a) sz) []) []) :
    SpQ P (.slS sz x (some lo) none) dst len1 nx ops2 drop Q s1 :=
  ⟨fun _ => ⟨.own g (off + a * sz) (n - a) sz,[],[]⟩,fun _ h => doesF_sl h hx hlo ha,fun _ g' hg' => by simp [Eff.ids] at hg',fun _ => hK⟩

end Go.Proofs.YtbncpngjclabhaaGreat.Lift
/- A guarded yield in a loop whose assignments are code of their own. No conditions. -/
namespace Go.Proofs.YtbncpngjclabhaaGreat.Lift
open Go Go.RowKit

def YieldKGA (P : Program) (nb : Nat) (pre ps : List Nat) (ca cb : ACode) (f : Operand) (args : List Operand) (dst : Option Nat) (guard : Option (Option Nat × Bool)) (len1 : Nat) (ops2 : List AOper) (drop : List Nat) (Q : AExit → St → Prop) (nx1 : Nat) (s1 : St) : Prop :=
  ∃ g r k pin env' args',YOf s1 f g r k ∧ gOK s1.env guard ∧ args' = args.map s1.F.ev ∧ LoopIsA P nb ps ca cb r ∧ args'.length = ps.length ∧ hpY s1.hp = true ∧ (∀ g ∈ pre,g ∈ pin) ∧ EK s1.env pin env' ∧
      AWb true P nb pin ca (AsgQ P nb pin cb (YieldQ P len1 ops2 drop Q env' dst)) ⟨parE (envOf 0 k) ps args',s1.hp,nx1⟩
theorem yieldKGA {P : Program} {nb : Nat} {pre ps : List Nat} {ca cb : ACode} {f : Operand} {args : List Operand} {dst : Option Nat} {guard : Option (Option Nat × Bool)} {len1 : Nat} {ops2 : List AOper} {drop : List Nat} {Q : AExit → St → Prop} {nx1 : Nat} {s1 : St} {g : Nat} {r : Loop} {k : List D} (pin : List Nat) (env' : Env) (args' : List D)
    (h1 : YOf s1 f g r k) (hg : gOK s1.env guard) (h0 : args' = args.map s1.F.ev) (hr : LoopIsA P nb ps ca cb r) (h2 : args'.length = ps.length) (h5 : hpY s1.hp = true) (h6 : ∀ g ∈ pre,g ∈ pin) (h7 : EK s1.env pin env')
    (hw : AWb true P nb pin ca (AsgQ P nb pin cb (YieldQ P len1 ops2 drop Q env' dst)) ⟨parE (envOf 0 k) ps args',s1.hp,nx1⟩) : YieldKGA P nb pre ps ca cb f args dst guard len1 ops2 drop Q nx1 s1 := ⟨g,r,k,pin,env',args',h1,hg,h0,hr,h2,h5,h6,h7,hw⟩
theorem aw_region_yieldGA {P : Program} {n nb : Nat} {pre : List Nat} {Q : AExit → St → Prop} {s : St} {ps : List Nat} {ca cb : ACode} {r0 : Loop} (_ : LoopIsA P nb ps ca cb r0) (ops1 ops2 : List AOper) {f : Operand} {args : List Operand} {dst : Option Nat} {guard : Option (Option Nat × Bool)} {anc : List Nat} {drop : List Nat} {rd : Rd}
    (h : ARun P false s.nx (YieldKGA P nb pre ps ca cb f args dst guard ops1.length ops2 drop Q (s.nx + 8 * ops1.length)) ops1 0 s []) :
    AWb rd P n pre (.region false (ops1 ++ ⟨dst,.call f args,guard,anc⟩ :: ops2) drop) Q s := fun code keep hc C a w hn hp hd hr => by
  cases code with
  | region id oa draw =>
    simp only [compCode] at hc
    split at hc
    · rename_i al hal
      split at hc
      · rename_i hcond
        cases hc
        obtain ⟨β,Z,hR,hβ⟩ := hr
        obtain ⟨hd',hlen⟩ := compOps_dst _ _ _ hal
        have hpl := compOps_plain _ _ _ hal
        obtain ⟨l1,l2',hl,e1,e2,e3,e4⟩ := compOps_app _ _ _ _ hal
        rw [Nat.zero_add] at e4
        obtain ⟨oy,l2,rfl,hoy,e5⟩ : ∃ oy l2,l2' = oy :: l2 ∧ compOper P n oa [] oy = some ⟨dst,.call f args,guard,anc⟩ ∧ compOps P n oa [] l2 (ops1.length + 1) = some ops2 := by
          cases l2' with
          | nil => simp at e2
          | cons oy l2 =>
            simp only [compOps,List.getElem?_nil,Option.getD_none] at e4
            split at e4
            · rename_i x y hx hy
              cases e4
              exact ⟨oy,l2,rfl,by simpa using hx,by simpa using hy⟩
            · cases e4
        have hans : ∀ i j,j ∈ (([] : List (List Nat))[i]?).getD [] → Anc .any oa i j := by simp
        have hdo : ∀ o ∈ oa, ∀ d,o.dst = some d → d < C.n := fun o ho d hdd => hn ▸ hd' o (by simpa using ho) d hdd
        have hplo : ∀ o ∈ oa, ∀ c,o.op ≠ .defer c := fun o ho => hpl o (by simpa using ho)
        have hsz : oa.size = l1.length + (l2.length + 1) := by have := congrArg List.length hl; simpa using this
        have hl2 : l2.length = ops2.length := by simpa using e2
        refine wpIn_region ?_
        have hrange : List.range oa.size = List.range' 0 l1.length ++ List.range' l1.length (l2.length + 1) := by
          rw [List.range_eq_range',hsz]
          have := List.range'_append (s := 0) (m := l1.length) (n := l2.length + 1) (step := 1)
          simpa using this.symm
        rw [hrange]
        have hget : ∀ j,oa[j]? = (l1 ++ oy :: l2)[j]? := fun j => by rw [← hl,Array.getElem?_toList]
        have hoyat : oa[l1.length]? = some oy := by rw [hget,List.getElem?_append_right (by omega)]; simp
        refine wpOps_pre (base := s.nx) (K := l1.length) hdo hplo ?_ l1 0 _ (fun _ _ => False) a w β Z (fun j hj => by rw [Nat.zero_add,hget,List.getElem?_append_left hj]) (by simp) hR (fun g hg hn => absurd (hβ g hg) hn)
          (arun_lex hans l1 ops1 0 s [] _ e3 (fun j ef hf => hf.elim) h)
        rintro fs a1 w1 β1 Z1 hR1 hF ⟨s1,rfl,_,g,r,k,pin,env',args',hfy,hgok,rfl,hLoop,hal1,hyh,hsub,hE,hbody⟩
        have hβ1 : ∀ g,s.nx + 8 * ops1.length ≤ g → β1 g = none := fun g hg => by
          cases hb : β1 g with
          | none => rfl
          | some B =>
            obtain ⟨j,hj,h1,h2⟩ := hF g (by omega) (by rw [hb]; simp)
            omega
        -- the call
        unfold compOper at hoy
        split at hoy
        · rename_i ao hao
          split at hoy
          · rename_i hdst
            simp only [Option.some.injEq,AOper.mk.injEq] at hoy
            obtain ⟨rfl,rfl,hgd,_⟩ := hoy
            obtain ⟨c,ho,hcal,hargs⟩ := comp_call hao
            subst hargs
            have hev := hfy.rep hR1
            rw [List.range'_succ,wpOpsIn_cons]
            unfold wpOpIn
            simp only [hoyat]
            have hw : Region.wanted oy (yielded oa a1.tmps) = true := by
              refine hR1.wanted ?_
              unfold wantedA
              cases hgu : oy.guard with
              | none => rfl
              | some x =>
                obtain ⟨j,want⟩ := x
                rw [hgu] at hgd
                simp only [Option.map_some] at hgd
                rw [← hgd] at hgok
                simp only
                cases hbd : (oa[j]?).bind (·.dst) with
                | none => rw [hbd] at hgok; exact hgok.elim
                | some t =>
                  rw [hbd] at hgok
                  have : s1.F.env t = .val (.bool want) := hgok
                  simp [this]
            rw [hw]
            simp only [if_true]
            refine ⟨fun _ _ => trivial,?_⟩
            rw [Oper.semAt_eq _ _ _ (hplo oy (Array.mem_of_getElem? hoyat))]
            generalize hvf : a1.eval f = vf at hev
            cases hev with
            | yld _ l _ _ y1 y2 y3 y4 y5 y6 =>
              have hps : (c.args.map a1.eval).size = r.params.size := by
                have h1 := congrArg List.length hLoop.pars
                simp at h1 hal1 ⊢; omega
              have hrun : (execOp a1.eval oy).run P w1 = .ok (.round l r.fn ((r.params.zip (c.args.map a1.eval)).foldl (fun t (p,v) => t.setIfInBounds p v) r.tmps) r.assign r.body) w1 := by
                simp only [execOp,ho,resolve,hcal,hvf,Deferred.ofValue,Sem.run_bind,Sem.run_pure,Result.andThen_ok,invoke,Array.append_empty,Array.empty_append]
                exact run_yield y4 hps
              rw [hrun]
              refine ⟨fun hh => (by cases hh),round_fw C.r (0 - 1) 0 ?_⟩
              refine round_coreA (C := C) (nx1 := s.nx + 8 * ops1.length) hR1 hβ1 hd y1 y2 y3 y4 y5 hLoop (by simp) (fun i hi => ?_) hyh (fun g' hg' => hsub g' (hp ▸ hg')) hE hbody (fun e s2 hq => ⟨hq.2.1,.inl hq.1⟩) ?_
              · have hj : i < c.args.size := by simpa using hi
                have q1 : (c.args.map a1.eval).getD i undef = a1.eval c.args[i] := by simp [hj]
                have q2 : (c.args.toList.map s1.F.ev)[i] = s1.F.ev c.args[i] := by simp
                rw [q1,q2]
                exact hR1.ev _
              rintro e s2 β2 Z2 w4 ⟨rfl,hy2,hge,hrun2⟩ hback hβ2
              -- the rest of the region
              have hdn : ∀ d,oy.dst = some d → d < C.n := hdo oy (Array.mem_of_getElem? hoyat)
              have hR4 : RelS C β2 Z2 (⟨putO env' oy.dst (.val (.bool true)),s2.hp,s2.nx⟩ : St).F (a1.put oy.dst (.bool true)) w4 := by
                refine ⟨by cases hx : oy.dst <;> simp [Act.put,hback.size],?_,fun t => ?_,hback.objs,hback.inj,hback.fr,hback.z0,hback.old,hback.orig,hback.ext,hback.zlt⟩
                · have : (a1.put oy.dst (.bool true)).defers = a1.defers := by cases oy.dst <;> rfl
                  rw [this]; exact hback.defers
                · rw [getD_put]
                  show Rep _ _ _ _ (eget (putO env' oy.dst _) t)
                  rw [get_putO]
                  by_cases ht : oy.dst = some t
                  · rw [if_pos ⟨ht,by rw [hback.size]; exact hdn t ht⟩,if_pos ht]; exact .val _
                  · rw [if_neg (fun hh => ht hh.1),if_neg ht]; exact hback.env t
              have hr2 := wpOps_pre (P := P) (ops := oa) (base := s2.nx - 8 * (ops1.length + 1)) (K := l1.length + 1 + l2.length) (C := C) (Q' := PostQ C Q) (rest := []) hdo hplo
                (Q := fun fs => ∃ s3 : St,fs = s3.F ∧ s3.nx = s2.nx ∧ Q .norm ⟨dropE s3.env _,s3.hp,s2.nx + 8 * ops2.length⟩) ?_ l2 (l1.length + 1) _ (fun _ _ => False) _ _ β2 Z2 (fun j hj => by rw [hget,List.getElem?_append_right (by omega)]; simp [show l1.length + 1 + j - l1.length = j + 1 by omega]) rfl hR4 (fun g' hg' hn0 => by
                  by_cases hgn : s2.nx ≤ g'
                  · exact absurd (hβ2 g' hgn) hn0
                  · refine ⟨(g' - (s2.nx - 8 * (ops1.length + 1))) / 8,?_,?_,?_⟩ <;> omega)
                (arun_lex hans l2 ops2 (l1.length + 1) ⟨putO env' oy.dst (.val (.bool true)),s2.hp,s2.nx⟩ [] _ (by rw [e1]; exact e5) (fun j ef hf => hf.elim) (by rw [e1]; exact hrun2))
              · rw [show (exitC AExit.norm).isNone = true from rfl]; simpa using hr2
              · rintro fs a4 w5 β4 Z4 hR5 hF5 ⟨s3,rfl,_,hQ⟩
                refine ⟨_,hQ, β4,Z4,⟨hR5.size,hR5.defers,fun t => ?_,hR5.objs,hR5.inj,hR5.fr,hR5.z0,hR5.old,hR5.orig,hR5.ext,hR5.zlt⟩,fun g' hg' => ?_⟩
                · show Rep w5 β4 Z4 _ (eget (dropE s3.env _) t)
                  rcases get_drop s3.env _ t with h1 | h1
                  · rw [h1]; exact hR5.env t
                  · rw [h1]; exact .bot _
                · cases hb : β4 g' with
                  | none => rfl
                  | some B =>
                    simp only at hg'
                    obtain ⟨j,hj,h1,h2⟩ := hF5 g' (by omega) (by rw [hb]; simp)
                    omega
          · cases hoy
        · cases hoy
      · cases hc
    · cases hc
  | seq a b => simp only [compCode] at hc; split at hc <;> cases hc
  | cond c a b => simp only [compCode] at hc; split at hc <;> cases hc
  | block id a => simp [compCode] at hc
  | loop a => simp [compCode] at hc
  | rangeFunc x1 x2 x3 x4 => simp only [compCode] at hc; repeat' (first | (cases hc; done) | split at hc)
  | _ => cases hc

end Go.Proofs.YtbncpngjclabhaaGreat.Lift
/- Walks: a queue that is cut to its end, more names, a slice behind an offset of nothing. No conditions. -/
namespace Go.Proofs.YtbncpngjclabhaaGreat.Lift
open Go Go.RowKit

section
variable {P : Program} {o : Oper} {ρ : Operand → D} {H : Heap}
theorem doesF_sl0 {sz g off n : Nat} {x lo : Operand} {k : IntKind} (h : compOp P o.op = some (.slS sz x (some lo) none)) (hx : ρ x = .own g off n sz) (hlo : ρ lo = .val (.int k n)) :
    DoesF P o ρ H fun _ => ⟨.list [],[],[]⟩ := by
  obtain ⟨t,e,ti,ho,ht,hi',rfl⟩ := comp_slI h
  intro w ev β Z hev hp
  have hxr := hev x (by simp [ho,Op.operands])
  have hlr : ∀ y,some lo = some y → Rep w β Z (ev y) (ρ y) := fun y hy => hev y (by cases hy; simp [ho,Op.operands])
  have hhr : ∀ y,(none : Option Operand) = some y → Rep w β Z (ev y) (ρ y) := fun y hy => by cases hy
  rw [hx] at hxr
  generalize hv : ev x = v at hxr
  cases hxr with
  | own _ _ _ _ B cap e' m hB hlt hlen hs hm =>
    have hla : asI ((some lo).map ρ) 0 = some (n : Int) := by simp [asI,hlo]
    have hlb : asI ((none : Option Operand).map ρ) n = some (n : Int) := rfl
    have key : (execOp ev o).run P w = .ok (.value (.slice (if cap = n then (some ⟨B,off,none⟩ : Option Addr) else (some ⟨B,off,none⟩ : Option Addr).map (·.add (n * P.cellsOf e))) (n - n) (cap - n))) w := by
      have hb := run_bounds (P := P) (w := w) (ρ := ρ) true n cap (n : Int) (n : Int) hlr hhr hla hlb (by omega) (by omega) (by omega) hlen
      simp only [Option.map_none] at hb
      simp only [execOp,ho,Instr.sliceAt,Sem.run_bind,run_underlying ht,Result.andThen_ok,hv,Instr.slice,Option.map_none,hb,run_sizeOf w hi',Sem.run_pure,Int.toNat_natCast]
    rw [key,Nat.sub_self]
    exact ⟨[],post_same (.list0 _ _)⟩
end
theorem spSl0 {P : Program} {sz g off n len1 nx : Nat} {x lo : Operand} {k : IntKind} {dst : Option Nat} {ops2 : List AOper} {drop : List Nat} {Q : AExit → St → Prop} {s1 : St} (hx : s1.F.ev x = .own g off n sz) (hlo : s1.F.ev lo = .val (.int k n))
    (hK : ARun P false nx (fun s2 => Q .norm ⟨dropE s2.env drop,s2.hp,nx + 8 * (len1 + 1 + ops2.length)⟩) ops2 (len1 + 1) (s1.app dst (.list []) []) []) :
    SpQ P (.slS sz x (some lo) none) dst len1 nx ops2 drop Q s1 :=
  ⟨fun _ => ⟨.list [],[],[]⟩,fun _ h => doesF_sl0 h hx hlo,fun _ g' hg' => by simp [Eff.ids] at hg',fun _ => hK⟩
theorem wkVo {pre : List Nat} {k g n sz nx : Nat} {env : Env} {rest : Hp} (hn : 0 < n) : Wk pre ⟨env,(k,[.vec g n sz]) :: rest,nx⟩ ⟨env,(k,[.own g 0 n sz]) :: rest,nx⟩ := by
  rintro C a w rfl ⟨β,Z,h,hβ⟩
  have key : ∀ x c',hget ((k,[D.own g 0 n sz]) :: rest) x = some c' → ∃ c,hget ((k,[D.vec g n sz]) :: rest) x = some c ∧ ((x = k ∧ c = [.vec g n sz] ∧ c' = [.own g 0 n sz]) ∨ c = c') := by
    intro x c' hx
    simp only [hget] at hx ⊢
    split at hx
    · rename_i he; cases hx; exact ⟨_,if_pos he,.inl ⟨he.symm,rfl,rfl⟩⟩
    · rename_i he; exact ⟨c',by rw [if_neg he]; exact hx,.inr rfl⟩
  refine ⟨β,Z,⟨h.size,h.defers,h.env,fun x c' hc => ?_,fun x x' c c' B hc hc' hb hb' => ?_,h.fr,h.z0,h.old,fun x c B hc hB => ?_,h.ext,h.zlt⟩,hβ⟩
  · obtain ⟨c,h1,h2⟩ := key x c' hc
    have h3 := h.objs x c h1
    rcases h2 with ⟨_,rfl,rfl⟩ | rfl
    · rcases h3 with ⟨h4,_⟩ | ⟨B,cs,e,hO⟩
      · cases h4
      · refine .inr ⟨B,cs,e,hO.at_,hO.ours,hO.blk,hO.fits,fun i hi => ?_⟩
        obtain rfl : i = 0 := by simpa using hi
        have h5 := hO.rep 0 (by simp)
        simp only [List.getElem_cons_zero] at h5 ⊢
        generalize cs.getD 0 undef = v at h5
        cases h5 with
        | vec0 => omega
        | vec _ _ _ B cap e m hB hlt hlen hs hm => exact .own g 0 n sz B cap e m hB hlt hlen hs (by omega)
    · exact h3
  · obtain ⟨c1,h1,_⟩ := key x c hc
    obtain ⟨c2,h2,_⟩ := key x' c' hc'
    exact h.inj x x' c1 c2 B h1 h2 hb hb'
  · obtain ⟨c1,h1,_⟩ := key x c hc
    exact h.orig x c1 B h1 hB
end Go.Proofs.YtbncpngjclabhaaGreat.Lift
