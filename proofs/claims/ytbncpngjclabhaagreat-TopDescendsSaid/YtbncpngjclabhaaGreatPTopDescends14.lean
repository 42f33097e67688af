/- Texts of the law TopDescends, part 14. No conditions. -/
import Derived.Test.YtbncpngjclabhaaGreatPTopDescends13
set_option linter.unusedSimpArgs false
set_option linter.unusedVariables false
set_option maxRecDepth 100000
set_option maxHeartbeats 16000000
/- The law of the way down, walked. No conditions. -/
namespace Go.Proofs.YtbncpngjclabhaaGreat
open Go Go.RowKit Lift

def cfB (c : Crf) (f : Fld) : Bool := farRot c.r || decide (f.hd.length > 10)
theorem craftFar_ac (c : Crf) (f : Fld) (hs : RotIn c.r) : AC Tryz.prog 4 [.agg (crfC c),.agg (fldC f),.val (.slice none 0 0)] [] [] (dB (cfB c f)) := by
  refine ktop_craftFar.ac (n0 := 0) (by simp) ⟨.agg _ (wals_in (c := crfC c) rfl),.agg _ (wals_in (c := fldC f) rfl),.val _,trivial⟩ trivial rfl ?_
  have c1 := farR_ac c.r hs
  have sl := sps_len f.hd
  unfold ctop_craftFar cfB
  unfold crfC fldC rotD rotC at *
  cases q1 : farRot c.r with
  | true =>
    rw [q1] at c1
    simp only [Bool.true_or]
    (repeat' (first | (with_reducible first | refine thenQ_n ?_ | refine blockQ_n ?_ | refine thenQ_e ?_ | refine blockQ_t ?_ | refine blockQ_f (by decide) ?_) | apply aw_seq | apply aw_skip | apply aw_exit | apply aw_ret | apply aw_block | apply aw_condT rfl | apply aw_condF rfl | ((first | refine aw_hide fun K hK => aw_region ?_ | refine acall0 (c1) ?_ | refine ago_if (by omega) ?_ | skip); simp (disch := first | exact okY | omega) only [ZU,Nat.reduceAdd,Nat.reduceMul,dI,AOpRun,aexec,D.isBot,↓eget_h,or_self,↓reduceIte,D.cells,Nat.reduceBEq,Nat.reduceLeDiff,List.drop,List.take,dB,ARun_some,AG_tf]) | subst hK))
    all_goals (refine end_q [] [] ?_ ?_ <;> repeat' (first | exact trivial | exact vr_val _))
  | false =>
    rw [q1] at c1
    simp only [Bool.false_or]
    by_cases h : f.hd.length > 10
    · have q2 : decide ((f.hd.length : Int) > 10) = true := decide_eq_true (by omega)
      rw [decide_eq_true h]
      (repeat' (first | (with_reducible first | refine thenQ_n ?_ | refine blockQ_n ?_ | refine thenQ_e ?_ | refine blockQ_t ?_ | refine blockQ_f (by decide) ?_) | apply aw_seq | apply aw_skip | apply aw_exit | apply aw_ret | apply aw_block | apply aw_condT rfl | apply aw_condF rfl | ((first | refine aw_hide fun K hK => aw_region ?_ | refine acall0 (c1) ?_ | refine ago_if (by omega) ?_ | skip); simp (disch := first | exact okY | omega) only [ZU,Nat.reduceAdd,Nat.reduceMul,dI,AOpRun,aexec,D.isBot,↓eget_h,or_self,↓reduceIte,D.cells,Nat.reduceBEq,Nat.reduceLeDiff,List.drop,List.take,dB,ARun_some,AG_ff,run1,↓hget_h,sl,isSh,abin,q2,AG_tf]) | subst hK))
      all_goals (refine end_q [] [] ?_ ?_ <;> repeat' (first | exact trivial | exact vr_val _))
    · have q2 : decide ((f.hd.length : Int) > 10) = false := decide_eq_false (by omega)
      rw [decide_eq_false h]
      (repeat' (first | (with_reducible first | refine thenQ_n ?_ | refine blockQ_n ?_ | refine thenQ_e ?_ | refine blockQ_t ?_ | refine blockQ_f (by decide) ?_) | apply aw_seq | apply aw_skip | apply aw_exit | apply aw_ret | apply aw_block | apply aw_condT rfl | apply aw_condF rfl | ((first | refine aw_hide fun K hK => aw_region ?_ | refine acall0 (c1) ?_ | refine ago_if (by omega) ?_ | skip); simp (disch := first | exact okY | omega) only [ZU,Nat.reduceAdd,Nat.reduceMul,dI,AOpRun,aexec,D.isBot,↓eget_h,or_self,↓reduceIte,D.cells,Nat.reduceBEq,Nat.reduceLeDiff,List.drop,List.take,dB,ARun_some,AG_ff,run1,↓hget_h,sl,isSh,abin,q2,cast_lit]) | subst hK))
      all_goals (refine end_q [] [] ?_ ?_ <;> repeat' (first | exact trivial | exact vr_val _))
def falC (f : Fld) (p : Ps) : List D := [dI f.len,dI f.cl,dI f.sf,.list (sps f.hd),dI p.x,dI p.v,dI p.h]
theorem descends_ac (c : Crf) (a : Air) (f : Fld) (p : Ps) (hs : RotIn c.r) : AC Tryz.prog 3 [.agg (crfC c),airD a,.agg (falC f p)] [] [] (dB true) := by
  have cf := craftFar_ac c f hs
  cases hcf : cfB c f with
  | true =>
    rw [hcf] at cf
    refine ktop_TopDescends.ac (n0 := 0) (by simp) ⟨.agg _ (wals_in (c := crfC c) rfl),in_airD _ _,.agg _ (wals_in (c := falC f p) rfl),trivial⟩ trivial rfl ?_
    unfold ctop_TopDescends
    unfold crfC airD airC falC fldC at *
    (repeat' (first | (with_reducible first | refine thenQ_n ?_ | refine blockQ_n ?_ | refine thenQ_e ?_ | refine blockQ_t ?_ | refine blockQ_f (by decide) ?_) | apply aw_seq | apply aw_skip | apply aw_exit | apply aw_ret | apply aw_block | apply aw_condT rfl | apply aw_condF rfl | ((first | refine aw_hide fun K hK => aw_region ?_ | refine acall0 (cf) ?_ | refine acall0 (measures_ac) ?_ | refine ago_if (by omega) ?_ | skip); simp (disch := first | exact okY | omega) only [ZU,Nat.reduceAdd,Nat.reduceMul,dI,AOpRun,aexec,D.isBot,↓eget_h,or_self,↓reduceIte,D.cells,Nat.reduceBEq,↓hget_h,Nat.reduceLeDiff,List.drop,List.take,List.all,D.leaf,splice,dB,ARun_some,AG_tf]) | subst hK))
    all_goals (refine end_q [] [] ?_ ?_ <;> repeat' (first | exact trivial | exact vr_val _))
  | false =>
  rw [hcf] at cf
  have hsm : RotSm c.r := by
    unfold cfB at hcf
    rw [Bool.or_eq_false_iff] at hcf
    exact farRot_sm hcf.1
  obtain ⟨e,cp,he⟩ := r3Pose_ac c a f p hsm
  by_cases h0 : e = 0
  case neg =>
    have q : (e != 0) = true := by simpa using h0
    refine ktop_TopDescends.ac (n0 := 0) (by simp) ⟨.agg _ (wals_in (c := crfC c) rfl),in_airD _ _,.agg _ (wals_in (c := falC f p) rfl),trivial⟩ trivial rfl ?_
    unfold ctop_TopDescends
    unfold crfC airD airC falC fldC psL at *
    (repeat' (first | (with_reducible first | refine thenQ_n ?_ | refine blockQ_n ?_ | refine thenQ_e ?_ | refine blockQ_t ?_ | refine blockQ_f (by decide) ?_) | apply aw_seq | apply aw_skip | apply aw_exit | apply aw_ret | apply aw_block | apply aw_condT rfl | apply aw_condF rfl | ((first | refine aw_hide fun K hK => aw_region ?_ | refine acall0 (cf) ?_ | refine acall0 (cp) ?_ | refine acall0 (measures_ac) ?_ | refine ago_if (by omega) ?_ | skip); simp (disch := first | exact okY | omega) only [ZU,Nat.reduceAdd,Nat.reduceMul,dI,AOpRun,aexec,D.isBot,↓eget_h,or_self,↓reduceIte,D.cells,Nat.reduceBEq,↓hget_h,Nat.reduceLeDiff,List.drop,List.take,List.all,D.leaf,splice,dB,ARun_some,AG_ff,isSh,abin,q]) | subst hK))
    all_goals (refine end_q [] [] ?_ ?_ <;> repeat' (first | exact trivial | exact vr_val _))
  obtain ⟨hC,hF,hP,hD⟩ := he h0
  subst h0
  have cs := stop_ac c a f p hC hF hP hD
  cases hW : stopF c a f p with
  | none =>
    rw [hW] at cs
    simp only [wayD,Option.isSome_none,Bool.false_eq_true,if_false] at cs
    clear he hD hP
    refine ktop_TopDescends.ac (n0 := 0) (by simp) ⟨.agg _ (wals_in (c := crfC c) rfl),in_airD _ _,.agg _ (wals_in (c := falC f p) rfl),trivial⟩ trivial rfl ?_
    unfold ctop_TopDescends
    unfold crfC airD airC falC fldC psL at *
    (repeat' (first | (with_reducible first | refine thenQ_n ?_ | refine blockQ_n ?_ | refine thenQ_e ?_ | refine blockQ_t ?_ | refine blockQ_f (by decide) ?_) | apply aw_seq | apply aw_skip | apply aw_exit | apply aw_ret | apply aw_block | apply aw_condT rfl | apply aw_condF rfl | ((first | refine aw_hide fun K hK => aw_region ?_ | refine acall0 (cf) ?_ | refine acall0 (cp) ?_ | refine acall0 (cs) ?_ | refine acall0 (measures_ac) ?_ | refine ago_if (by omega) ?_ | skip); simp (disch := first | exact okY | omega) only [ZU,Nat.reduceAdd,Nat.reduceMul,dI,AOpRun,aexec,D.isBot,↓eget_h,or_self,↓reduceIte,D.cells,Nat.reduceBEq,↓hget_h,Nat.reduceLeDiff,List.drop,List.take,List.all,D.leaf,splice,dB,ARun_some,AG_ff,isSh,abin,bne_self_eq_false,opt1,Int.reduceBNe,AG_tt]) | subst hK))
    all_goals (refine end_q [] [] ?_ ?_ <;> repeat' (first | exact trivial | exact vr_val _))
  | some l =>
  rw [hW] at cs
  simp only [wayD,Option.isSome_some,if_true] at cs
  have hso := steOk_of hC hF
  obtain ⟨e,hpa,hde⟩ := wayF_path hso 8000 [(p,p)] 0 l (inv_start hP) hW
  have hll := wayF_len hso 8000 [(p,p)] 0 l (inv_start hP) hW
  have hend : (atP p l l.length).h = 0 := by
    rw [path_end hpa]
    unfold downB at hde
    simp only [Bool.and_eq_true,decide_eq_true_eq] at hde
    exact hde.1
  have hok := fun k hk => path_ok hso hpa hP k hk
  have hst := fun k hk => steps_ok hso (hok k (Nat.le_of_lt hk)) (path_step hpa k hk)
  have hdo := fun k hk => drF_ok hC hF hP hpa k hk
  have hi := crB_in hC.b
  have htp := wI_t hi.t
  have hu := wI_t hi.u
  have hst1 := wI_t hi.s
  have hdr := wI_t hi.d
  have hdl := drF_len c p l
  have tf : 2 ≤ c.r.f.x.length ∧ c.r.f.x.length ≤ 12 ∧ 2 ≤ c.r.f.y.length ∧ c.r.f.y.length ≤ 12 := lim_len ((rotE_is hC.rot).lim 5 (by omega))
  obtain ⟨m,hm⟩ : ∃ m : Nat,c.r.f.x.length = m + 1 := ⟨c.r.f.x.length - 1,by omega⟩
  have gm := ints_gd c.r.f.x m (by omega)
  have ga := ints_all c.r.f.x
  have gl := ints_len c.r.f.x
  have em : ((c.r.f.x.length : Nat) : Int) - 1 = (m : Int) := by omega
  have el : c.r.f.x[m]?.getD 0 = lastX c := by unfold lastX; rw [show c.r.f.x.length - 1 = m by omega]; rfl
  rw [el] at gm
  have hly : lyB c.r.f (iat c.r.f.x 0,iat c.r.f.x 0) a.w = true := ly_of (by
    have h2 := hC.l2
    rw [liesB_is] at h2 ⊢
    simp only [Bool.and_eq_true,decide_eq_true_eq] at h2 ⊢
    omega) hC.p4
  have cd := fun L h50 hL => roDescent_ac c.r a L hC.sm hC.rot hC.air (by omega) hly h50 hL
  have pl := pss_len l
  have pa := pss_all l
  clear he hD hP hpa hde hso
  refine ktop_TopDescends.ac (n0 := 0) (by simp) ⟨.agg _ (wals_in (c := crfC c) rfl),in_airD _ _,.agg _ (wals_in (c := falC f p) rfl),trivial⟩ trivial rfl ?_
  unfold ctop_TopDescends
  unfold rotD rotC airD airC falC fldC psL at *
  unfold crfC at cf cp cs ⊢
  (repeat' (first | (with_reducible first | refine thenQ_n ?_ | refine blockQ_n ?_ | refine thenQ_e ?_ | refine blockQ_t ?_ | refine blockQ_f (by decide) ?_) | apply aw_seq | apply aw_skip | apply aw_exit | apply aw_ret | apply aw_block | apply aw_condT rfl | apply aw_condF rfl | ((first | refine aw_hide fun K hK => aw_region ?_ | refine acall0 (cf) ?_ | refine acall0 (cp) ?_ | refine acall0 (cs) ?_ | refine ago_if (by omega) ?_ | skip); simp (disch := first | exact okY | omega) only [ZU,Nat.reduceAdd,Nat.reduceMul,dI,AOpRun,aexec,D.isBot,↓eget_h,or_self,↓reduceIte,D.cells,Nat.reduceBEq,↓hget_h,Nat.reduceLeDiff,List.drop,List.take,List.all,D.leaf,splice,dB,ARun_some,AG_ff,isSh,abin,bne_self_eq_false,opt1,run1,gl,em,fits,ga,gm]) | subst hK))
  clear cf cp cs gm ga gl em
  refine aw_loop (fun k : Nat => ⟨[(3,.ptr 0 0),(4,.ptr 8 0),(9,.list (pss l)),(11,dI (lastX c)),(12,.vec 300 (drF c p l k).length 5),(13,dI (lostF c p l k)),(14,.ptr 16 0),(15,dI k)],[(0,crfC c),(8,airC a),(16,psL (atP p l k)),(300,dcl (drF c p l k))],600⟩) (fun k => k ≤ l.length) (fun k => l.length - k) ⟨0,by omega,?_⟩ ?_
  · have e1 : drF c p l 0 = [] := rfl
    have e2 : lostF c p l 0 = 0 := rfl
    have e3 : dcl [] = [] := rfl
    have e4 : atP p l 0 = p := rfl
    rw [e1,e2,e3,e4]
    simp only [Int.natCast_zero,List.length_nil]
    unfold crfC airC psL dI
    refine wk_q [] [(0,0),(8,8),(16,408),(300,700)] ?_ ?_ <;> repeat' (first | exact trivial | exact vr_val _ | exact vr_list _ | exact vr_ptr _ _ _ rfl | exact vr_nilv _ _ _ rfl | refine And.intro ⟨_,rfl,.inl ⟨_,rfl,by decide,?_⟩⟩ ?_ | refine And.intro ⟨_,rfl,.inr ⟨rfl,rfl,of_decide_eq_true (by kernel_rfl)⟩⟩ ?_ | apply And.intro)
  intro k hk
  have hdk := hdl k
  have dL := dcl_len (drF c p l k)
  have dT : (dcl (drF c p l k)).take ((drF c p l k).length * 5) = dcl (drF c p l k) := List.take_of_length_le (by rw [dL]; exact Nat.le_refl _)
  have din := dcl_in (fun _ => False) (drF c p l k)
  have din2 := dcl_in (fun _ => False) (drF c p l (k + 1))
  unfold psL crfC airC
  by_cases hlt : k < l.length
  case neg =>
    obtain rfl : k = l.length := by omega
    have hlo : sumK (drF c p l l.length) (drF c p l l.length).length = lostF c p l l.length := rfl
    have hdd := dro_get (hdo l.length (Nat.le_refl _))
    clear hok hst hdo hdl
    generalize hPe : atP p l l.length = Pe at *
    obtain ⟨ex,ev,eh⟩ := Pe
    simp only at hend
    subst hend
    refine aw_seq (aw_seq (aw_hide fun K hK => aw_region ?_))
    simp (disch := first | exact okY | omega) only [ZU,Nat.reduceAdd,Nat.reduceMul,dI,AOpRun,aexec,Nat.reduceBEq,↓eget_h,pl,isSh,↓reduceIte,abin,Int.lt_irrefl,decide_false]
    subst hK
    simp only [thenQ,blockQ,if_true,if_false,Nat.reduceEqDiff,reduceCtorEq]
    refine aw_condF rfl (aw_exit ?_)
    simp only [thenQ,blockQ,if_true,if_false,Nat.reduceEqDiff,reduceCtorEq]
    by_cases h50 : (drF c p l l.length).length ≤ 50
    case neg =>
      have q50 : decide (((drF c p l l.length).length : Int) > 50) = true := decide_eq_true (by omega)
      generalize lostF c p l l.length = S at *
      generalize drF c p l l.length = L at *
      clear cd hdd
      (repeat' (first | (with_reducible first | refine thenQ_n ?_ | refine blockQ_n ?_ | refine thenQ_e ?_ | refine blockQ_t ?_ | refine blockQ_f (by decide) ?_) | apply aw_seq | apply aw_skip | apply aw_exit | apply aw_ret | apply aw_block | apply aw_condT rfl | apply aw_condF rfl | ((first | refine aw_hide fun K hK => aw_region ?_ | refine acall0 (measures_ac) ?_ | refine ago_if (by omega) ?_ | skip); simp (disch := first | exact okY | omega) only [ZU,Nat.reduceAdd,Nat.reduceMul,AOpRun,aexec,Nat.reduceBEq,↓eget_h,isSh,↓reduceIte,abin,q50,dB]) | subst hK))
      all_goals (refine end_q [] [] ?_ ?_ <;> repeat' (first | exact trivial | exact vr_val _))
    have q50 : decide (((drF c p l l.length).length : Int) > 50) = false := decide_eq_false (by omega)
    have cdd := cd (drF c p l l.length) h50 hdd
    rw [hlo] at cdd
    clear cd hdd hlo
    generalize lostF c p l l.length = S at *
    generalize drF c p l l.length = L at *
    have fo := topOne_ac S
    have hss : (S == S) = true := by simp
    have dl := drL_len L
    refine aw_wk (s' := ⟨[(3,.ptr 0 0),(4,.ptr 8 0),(12,.list (drL L)),(13,dI S),(14,.ptr 16 0)],[(0,crfC c),(8,airC a),(16,[dI ex,dI ev,dI 0])],900⟩) ?_ ?_
    · unfold dI crfC airC
      refine wk_q [300] [(0,0),(8,8),(16,16)] ?_ ?_ <;> repeat' (first | exact trivial | exact vr_val _ | exact vr_list _ | exact vr_ptr _ _ _ rfl | refine vr_fl _ _ _ _ _ (by decide) rfl ?_ ?_ ?_ ?_ | refine And.intro ⟨_,rfl,.inl ⟨_,rfl,by decide,?_⟩⟩ ?_ | apply And.intro)
      all_goals first | exact drL_five _ | exact drL_len _ | (rw [dL]; exact Nat.le_refl _) | exact dT.symm | (rw [dT]; rfl) | rfl | exact dcl_in _ _ | skip
    unfold crfC airC
    have hne : (true != false) = true := rfl
    (repeat' (first | (with_reducible first | refine thenQ_n ?_ | refine blockQ_n ?_ | refine thenQ_e ?_ | refine blockQ_t ?_ | refine blockQ_f (by decide) ?_) | apply aw_seq | apply aw_skip | apply aw_exit | apply aw_ret | apply aw_block | apply aw_condT rfl | apply aw_condF rfl | ((first | refine aw_hide fun K hK => aw_region ?_ | refine acall0 (cdd) ?_ | refine acall0 (fo) ?_ | refine acall0 (measures_ac) ?_ | refine ago_if (by omega) ?_ | skip); simp (disch := first | exact okY | omega) only [ZU,Nat.reduceAdd,Nat.reduceMul,dI,AOpRun,aexec,Nat.reduceBEq,↓eget_h,dl,isSh,↓reduceIte,abin,q50,Nat.reduceLeDiff,List.drop,List.take,↓hget_h,opt1,D.isBot,D.cells,List.all,D.leaf,splice,ARun_some,AG_tt,D.isAgg,isB,eqCells,scalarEq,hne,run1,dB]) | subst hK))
    all_goals try contradiction
    all_goals (refine end_q [] [] ?_ ?_ <;> repeat' (first | exact trivial | exact vr_val _))
  have ki : (k : Int) < (l.length : Int) := by omega
  have hQ : atP p l (k + 1) = l[k] := atP_succ _ _ _ hlt
  have g1 := pss_gd l k hlt
  have hP1 := hok k hk
  have hS1 := hst k hlt
  have hdS : drF c p l (k + 1) = drF c p l k ++ (if takeB c (atP p l k) (atP p l (k + 1)) = true then [((atP p l (k + 1)).v * c.un,((atP p l k).h - (atP p l (k + 1)).h) * c.st)] else []) := rfl
  have hdo1 := hdo (k + 1) hlt
  have hlb := sumK_bd (dro_get (hdo k hk)) (drF c p l k).length (Nat.le_refl _)
  have hlo : sumK (drF c p l k) (drF c p l k).length = lostF c p l k := rfl
  rw [hlo] at hlb
  rw [hQ] at hdS hS1
  clear hok hst hdo hend
  generalize hPP : atP p l k = P at *
  generalize hQQ : l[k] = R at *
  obtain ⟨px,pv,ph⟩ := P
  obtain ⟨qx,qv,qh⟩ := R
  have htk : takeB c ⟨px,pv,ph⟩ ⟨qx,qv,qh⟩ = (decide (qh > 0) && (decide (qh < ph) && decide (qv * c.un ≤ lastX c))) := rfl
  have b1 : 0 ≤ qv := hS1.ok.v1
  have b2 : qv ≤ c.top := hS1.ok.v2
  have b3 : 0 ≤ qh := hS1.ok.h1
  have b4 : qh ≤ 12 := hS1.ok.h2
  have b5 : ph - qh ≤ c.dr := hS1.drop
  have b6 : 0 ≤ ph := hP1.h1
  have b7 : ph ≤ 12 := hP1.h2
  clear hS1 hP1
  have u1 : 0 ≤ qv * c.un := Int.mul_nonneg b1 (by omega)
  have u2 : qv * c.un ≤ 6000 := by
    have := Int.mul_le_mul (show qv ≤ 6 by omega) hu.2 (by omega) (by omega)
    omega
  unfold psL at g1
  simp only at g1 hdS ⊢
  generalize hqu : qv * c.un = u at *
  cases q1 : decide (qh > 0) with
  | false =>
    have hE : drF c p l (k + 1) = drF c p l k := by rw [hdS,if_neg (by rw [htk]; simp [q1])]; exact List.append_nil _
    have hlE : lostF c p l (k + 1) = lostF c p l k := by unfold lostF; rw [hE]
    clear hdS htk
    refine aw_seq (aw_seq (aw_hide fun K hK => aw_region ?_))
    simp (disch := first | exact okY | omega) only [ZU,Nat.reduceAdd,Nat.reduceMul,dI,AOpRun,aexec,Nat.reduceBEq,↓eget_h,pl,isSh,↓reduceIte,abin,ki]
    subst hK
    simp only [thenQ,blockQ,if_true,if_false,Nat.reduceEqDiff,reduceCtorEq]
    refine aw_condT rfl (aw_skip ?_)
    simp only [thenQ,blockQ,if_true,if_false,Nat.reduceEqDiff,reduceCtorEq]
    refine aw_seq (aw_block (aw_seq (aw_hide fun K hK => aw_region ?_)))
    simp (disch := first | exact okY | omega) only [ZU,Nat.reduceAdd,Nat.reduceMul,AOpRun,aexec,Nat.reduceBEq,↓eget_h,pa,↓reduceIte,opt1,g1,dI,Nat.reduceLeDiff,List.take,↓hget_h,D.isBot,D.cells,List.all,D.leaf,splice,List.drop]
    subst hK
    simp only [thenQ,blockQ,if_true,if_false,Nat.reduceEqDiff,reduceCtorEq]
    refine aw_seq (aw_seq (aw_hide fun K hK => aw_region ?_))
    simp (disch := first | exact okY | omega) only [ZU,Nat.reduceAdd,Nat.reduceMul,AOpRun,aexec,Nat.reduceBEq,↓eget_h,run1,↓hget_h,isSh,↓reduceIte,abin,q1,ARun_some,AG_ft]
    subst hK
    simp only [thenQ,blockQ,if_true,if_false,Nat.reduceEqDiff,reduceCtorEq]
    refine aw_condF rfl (aw_skip ?_)
    simp only [thenQ,blockQ,if_true,if_false,Nat.reduceEqDiff,reduceCtorEq]
    refine aw_hide fun K hK => aw_region ?_
    simp (disch := first | exact okY | omega) only [ZU,Nat.reduceAdd,Nat.reduceMul,AOpRun,aexec,Nat.reduceBEq,↓eget_h,↓hget_h,Nat.reduceLeDiff,↓reduceIte,List.drop,List.take,D.isBot,D.cells,List.all,D.leaf,splice]
    subst hK
    simp only [thenQ,blockQ,if_true,if_false,Nat.reduceEqDiff,reduceCtorEq]
    refine aw_hide fun K hK => aw_region ?_
    simp (disch := first | exact okY | omega) only [ZU,Nat.reduceAdd,Nat.reduceMul,AOpRun,aexec,Nat.reduceBEq,↓eget_h,isSh,↓reduceIte,abin,fits]
    subst hK
    refine ⟨k + 1,by omega,by omega,?_⟩
    rw [hE,hlE,hQ]
    try unfold psL
    try unfold crfC
    try unfold airC
    try unfold dI
    refine wk_q [] [(0,0),(8,8),(16,16),(300,300)] ?_ ?_ <;> repeat' (first | exact trivial | exact vr_val _ | exact vr_list _ | exact vr_vec _ _ _ _ rfl | exact vr_ptr _ _ _ rfl | refine And.intro ⟨_,rfl,.inl ⟨_,rfl,by decide,?_⟩⟩ ?_ | apply And.intro | exact vrl_flat _ (by first | exact icells_in _ | exact rcells_in _ | exact scells_in _ | exact bcells_in _ | assumption))
  | true =>
  cases q2 : decide (qh < ph) with
  | false =>
    have hE : drF c p l (k + 1) = drF c p l k := by rw [hdS,if_neg (by rw [htk]; simp [q1,q2])]; exact List.append_nil _
    have hlE : lostF c p l (k + 1) = lostF c p l k := by unfold lostF; rw [hE]
    clear hdS htk
    refine aw_seq (aw_seq (aw_hide fun K hK => aw_region ?_))
    simp (disch := first | exact okY | omega) only [ZU,Nat.reduceAdd,Nat.reduceMul,dI,AOpRun,aexec,Nat.reduceBEq,↓eget_h,pl,isSh,↓reduceIte,abin,ki]
    subst hK
    simp only [thenQ,blockQ,if_true,if_false,Nat.reduceEqDiff,reduceCtorEq]
    refine aw_condT rfl (aw_skip ?_)
    simp only [thenQ,blockQ,if_true,if_false,Nat.reduceEqDiff,reduceCtorEq]
    refine aw_seq (aw_block (aw_seq (aw_hide fun K hK => aw_region ?_)))
    simp (disch := first | exact okY | omega) only [ZU,Nat.reduceAdd,Nat.reduceMul,AOpRun,aexec,Nat.reduceBEq,↓eget_h,pa,↓reduceIte,opt1,g1,dI,Nat.reduceLeDiff,List.take,↓hget_h,D.isBot,D.cells,List.all,D.leaf,splice,List.drop]
    subst hK
    simp only [thenQ,blockQ,if_true,if_false,Nat.reduceEqDiff,reduceCtorEq]
    refine aw_seq (aw_seq (aw_hide fun K hK => aw_region ?_))
    simp (disch := first | exact okY | omega) only [ZU,Nat.reduceAdd,Nat.reduceMul,AOpRun,aexec,Nat.reduceBEq,↓eget_h,run1,↓hget_h,isSh,↓reduceIte,abin,q1,ARun_some,AG_tt,q2,AG_ft]
    subst hK
    simp only [thenQ,blockQ,if_true,if_false,Nat.reduceEqDiff,reduceCtorEq]
    refine aw_condF rfl (aw_skip ?_)
    simp only [thenQ,blockQ,if_true,if_false,Nat.reduceEqDiff,reduceCtorEq]
    refine aw_hide fun K hK => aw_region ?_
    simp (disch := first | exact okY | omega) only [ZU,Nat.reduceAdd,Nat.reduceMul,AOpRun,aexec,Nat.reduceBEq,↓eget_h,↓hget_h,Nat.reduceLeDiff,↓reduceIte,List.drop,List.take,D.isBot,D.cells,List.all,D.leaf,splice]
    subst hK
    simp only [thenQ,blockQ,if_true,if_false,Nat.reduceEqDiff,reduceCtorEq]
    refine aw_hide fun K hK => aw_region ?_
    simp (disch := first | exact okY | omega) only [ZU,Nat.reduceAdd,Nat.reduceMul,AOpRun,aexec,Nat.reduceBEq,↓eget_h,isSh,↓reduceIte,abin,fits]
    subst hK
    refine ⟨k + 1,by omega,by omega,?_⟩
    rw [hE,hlE,hQ]
    try unfold psL
    try unfold crfC
    try unfold airC
    try unfold dI
    refine wk_q [] [(0,0),(8,8),(16,16),(300,300)] ?_ ?_ <;> repeat' (first | exact trivial | exact vr_val _ | exact vr_list _ | exact vr_vec _ _ _ _ rfl | exact vr_ptr _ _ _ rfl | refine And.intro ⟨_,rfl,.inl ⟨_,rfl,by decide,?_⟩⟩ ?_ | apply And.intro | exact vrl_flat _ (by first | exact icells_in _ | exact rcells_in _ | exact scells_in _ | exact bcells_in _ | assumption))
  | true =>
  cases q3 : decide (u ≤ lastX c) with
  | false =>
    have hE : drF c p l (k + 1) = drF c p l k := by rw [hdS,if_neg (by rw [htk]; simp [q1,q2,q3])]; exact List.append_nil _
    have hlE : lostF c p l (k + 1) = lostF c p l k := by unfold lostF; rw [hE]
    clear hdS htk
    refine aw_seq (aw_seq (aw_hide fun K hK => aw_region ?_))
    simp (disch := first | exact okY | omega) only [ZU,Nat.reduceAdd,Nat.reduceMul,dI,AOpRun,aexec,Nat.reduceBEq,↓eget_h,pl,isSh,↓reduceIte,abin,ki]
    subst hK
    simp only [thenQ,blockQ,if_true,if_false,Nat.reduceEqDiff,reduceCtorEq]
    refine aw_condT rfl (aw_skip ?_)
    simp only [thenQ,blockQ,if_true,if_false,Nat.reduceEqDiff,reduceCtorEq]
    refine aw_seq (aw_block (aw_seq (aw_hide fun K hK => aw_region ?_)))
    simp (disch := first | exact okY | omega) only [ZU,Nat.reduceAdd,Nat.reduceMul,AOpRun,aexec,Nat.reduceBEq,↓eget_h,pa,↓reduceIte,opt1,g1,dI,Nat.reduceLeDiff,List.take,↓hget_h,D.isBot,D.cells,List.all,D.leaf,splice,List.drop]
    subst hK
    simp only [thenQ,blockQ,if_true,if_false,Nat.reduceEqDiff,reduceCtorEq]
    refine aw_seq (aw_seq (aw_hide fun K hK => aw_region ?_))
    simp (disch := first | exact okY | omega) only [ZU,Nat.reduceAdd,Nat.reduceMul,AOpRun,aexec,Nat.reduceBEq,↓eget_h,run1,↓hget_h,isSh,↓reduceIte,abin,q1,ARun_some,AG_tt,q2,hqu,fits,q3]
    subst hK
    simp only [thenQ,blockQ,if_true,if_false,Nat.reduceEqDiff,reduceCtorEq]
    refine aw_condF rfl (aw_skip ?_)
    simp only [thenQ,blockQ,if_true,if_false,Nat.reduceEqDiff,reduceCtorEq]
    refine aw_hide fun K hK => aw_region ?_
    simp (disch := first | exact okY | omega) only [ZU,Nat.reduceAdd,Nat.reduceMul,AOpRun,aexec,Nat.reduceBEq,↓eget_h,↓hget_h,Nat.reduceLeDiff,↓reduceIte,List.drop,List.take,D.isBot,D.cells,List.all,D.leaf,splice]
    subst hK
    simp only [thenQ,blockQ,if_true,if_false,Nat.reduceEqDiff,reduceCtorEq]
    refine aw_hide fun K hK => aw_region ?_
    simp (disch := first | exact okY | omega) only [ZU,Nat.reduceAdd,Nat.reduceMul,AOpRun,aexec,Nat.reduceBEq,↓eget_h,isSh,↓reduceIte,abin,fits]
    subst hK
    refine ⟨k + 1,by omega,by omega,?_⟩
    rw [hE,hlE,hQ]
    try unfold psL
    try unfold crfC
    try unfold airC
    try unfold dI
    refine wk_q [] [(0,0),(8,8),(16,16),(300,300)] ?_ ?_ <;> repeat' (first | exact trivial | exact vr_val _ | exact vr_list _ | exact vr_vec _ _ _ _ rfl | exact vr_ptr _ _ _ rfl | refine And.intro ⟨_,rfl,.inl ⟨_,rfl,by decide,?_⟩⟩ ?_ | apply And.intro | exact vrl_flat _ (by first | exact icells_in _ | exact rcells_in _ | exact scells_in _ | exact bcells_in _ | assumption))
  | true =>
    have z1 : 0 ≤ (ph - qh) * c.st := Int.mul_nonneg (by have := of_decide_eq_true q2; omega) (by omega)
    have z2 : (ph - qh) * c.st ≤ 3000 := by
      have := Int.mul_le_mul (show ph - qh ≤ 3 by omega) hst1.2 (by omega) (by omega)
      omega
    have hE : drF c p l (k + 1) = drF c p l k ++ [(u,(ph - qh) * c.st)] := by rw [hdS,if_pos (by rw [htk]; simp [q1,q2,q3])]
    have hlE : lostF c p l (k + 1) = lostF c p l k + (ph - qh) * c.st := by unfold lostF; rw [hE,sumK_one]
    have hap := dcl_app (drF c p l k) (u,(ph - qh) * c.st)
    rw [← hE] at hap
    have hnl : (drF c p l (k + 1)).length = (drF c p l k).length + 1 := by rw [hE]; simp
    simp only at hap
    clear hdS htk hE
    generalize hsk : (ph - qh) * c.st = z at *
    have o1 := topOne_ac u
    have o2 := topOne_ac z
    refine aw_seq (aw_seq (aw_hide fun K hK => aw_region ?_))
    simp (disch := first | exact okY | omega) only [ZU,Nat.reduceAdd,Nat.reduceMul,dI,AOpRun,aexec,Nat.reduceBEq,↓eget_h,pl,isSh,↓reduceIte,abin,ki]
    subst hK
    simp only [thenQ,blockQ,if_true,if_false,Nat.reduceEqDiff,reduceCtorEq]
    refine aw_condT rfl (aw_skip ?_)
    simp only [thenQ,blockQ,if_true,if_false,Nat.reduceEqDiff,reduceCtorEq]
    refine aw_seq (aw_block (aw_seq (aw_hide fun K hK => aw_region ?_)))
    simp (disch := first | exact okY | omega) only [ZU,Nat.reduceAdd,Nat.reduceMul,AOpRun,aexec,Nat.reduceBEq,↓eget_h,pa,↓reduceIte,opt1,g1,dI,Nat.reduceLeDiff,List.take,↓hget_h,D.isBot,D.cells,List.all,D.leaf,splice,List.drop]
    subst hK
    simp only [thenQ,blockQ,if_true,if_false,Nat.reduceEqDiff,reduceCtorEq]
    refine aw_seq (aw_seq (aw_hide fun K hK => aw_region ?_))
    simp (disch := first | exact okY | omega) only [ZU,Nat.reduceAdd,Nat.reduceMul,AOpRun,aexec,Nat.reduceBEq,↓eget_h,run1,↓hget_h,isSh,↓reduceIte,abin,q1,ARun_some,AG_tt,q2,hqu,fits,q3]
    subst hK
    simp only [thenQ,blockQ,if_true,if_false,Nat.reduceEqDiff,reduceCtorEq]
    refine aw_condT rfl (aw_seq (aw_hide fun K hK => aw_region ?_))
    simp (disch := first | exact okY | omega) only [ZU,Nat.reduceAdd,Nat.reduceMul,AOpRun,aexec,Nat.reduceBEq,↓eget_h,run1,↓hget_h,isSh,↓reduceIte,abin,fits,hsk]
    subst hK
    simp only [thenQ,blockQ,if_true,if_false,Nat.reduceEqDiff,reduceCtorEq]
    refine aw_seq (aw_hide fun K hK => aw_region ?_)
    simp (disch := first | exact okY | omega) only [ZU,Nat.reduceAdd,Nat.reduceMul,AOpRun,aexec,Nat.reduceBEq,↓eget_h,run1,↓hget_h,isSh,↓reduceIte,abin,hqu,fits]
    refine acall0 o1 ?_
    simp (disch := first | exact okY | omega) only [ZU,Nat.reduceAdd,dI,Nat.reduceBEq,AOpRun,aexec,↓eget_h]
    refine acall0 o2 ?_
    simp (disch := first | exact okY | omega) only [ZU,Nat.reduceAdd,dI,Nat.reduceBEq,AOpRun,aexec,fillD,D.isBot,↓eget_h,D.cells,ne_eq,not_true_eq_false,Nat.reduceGT,or_self,↓reduceIte,splice,List.take,List.drop,Nat.reduceMul,base,↓hget_h,dL,Nat.le_refl,dT,elems,List.all,D.leaf,and_true,ups]
    refine ago_if (by omega) ?_
    simp (disch := first | exact okY | omega) only [ZU,hap,Nat.reduceAdd,Nat.reduceBEq,hdel_c,hdel_n,AOpRun,aexec,↓eget_h]
    subst hK
    simp only [thenQ,blockQ,if_true,if_false,Nat.reduceEqDiff,reduceCtorEq]
    refine aw_hide fun K hK => aw_region ?_
    simp (disch := first | exact okY | omega) only [ZU,Nat.reduceAdd,Nat.reduceMul,AOpRun,aexec,Nat.reduceBEq,↓eget_h,isSh,↓reduceIte,abin,fits]
    subst hK
    simp only [thenQ,blockQ,if_true,if_false,Nat.reduceEqDiff,reduceCtorEq]
    refine aw_hide fun K hK => aw_region ?_
    simp (disch := first | exact okY | omega) only [ZU,Nat.reduceAdd,Nat.reduceMul,AOpRun,aexec,Nat.reduceBEq,↓eget_h,↓hget_h,Nat.reduceLeDiff,↓reduceIte,List.drop,List.take,D.isBot,D.cells,List.all,D.leaf,splice]
    subst hK
    simp only [thenQ,blockQ,if_true,if_false,Nat.reduceEqDiff,reduceCtorEq]
    refine aw_hide fun K hK => aw_region ?_
    simp (disch := first | exact okY | omega) only [ZU,Nat.reduceAdd,Nat.reduceMul,AOpRun,aexec,Nat.reduceBEq,↓eget_h,isSh,↓reduceIte,abin,fits]
    subst hK
    refine ⟨k + 1,by omega,by omega,?_⟩
    rw [hnl,hlE,hQ]
    try unfold psL
    try unfold crfC
    try unfold airC
    try unfold dI
    refine wk_q [] [(0,0),(8,8),(16,16),(300,992)] ?_ ?_ <;> repeat' (first | exact trivial | exact vr_val _ | exact vr_list _ | exact vr_vec _ _ _ _ rfl | exact vr_ptr _ _ _ rfl | refine And.intro ⟨_,rfl,.inl ⟨_,rfl,by decide,?_⟩⟩ ?_ | apply And.intro | exact vrl_flat _ (by first | exact icells_in _ | exact rcells_in _ | exact scells_in _ | exact bcells_in _ | assumption))
end Go.Proofs.YtbncpngjclabhaaGreat
/- Arguments that came in: what their cells are. No conditions. -/
namespace Go.Proofs.YtbncpngjclabhaaGreat
open Go.RowKit Lift

theorem in_ints {l : List (List D)} (h : ∀ x ∈ l,CfL [.int] x) : ∃ xs,l = ints xs ∧ ∀ x ∈ xs, -9223372036854775808 ≤ x ∧ x ≤ 9223372036854775807 := by
  induction l with
  | nil => exact ⟨[],rfl,by simp⟩
  | cons x l ih =>
    obtain ⟨xs,rfl,hx⟩ := ih fun y hy => h y (List.mem_cons_of_mem _ hy)
    have h0 := h x (List.mem_cons_self ..)
    cases h0 with
    | int n ss ds h1 h2 h3 =>
      cases h3
      exact ⟨n :: xs,rfl,fun y hy => by
        rcases List.mem_cons.1 hy with rfl | hy
        · exact ⟨h1,h2⟩
        · exact hx y hy⟩
theorem in_rows {l : List (List D)} (h : ∀ x ∈ l,CfL [.sl [.int]] x) : ∃ vs,l = rows vs ∧ ∀ r ∈ vs,r.length ≤ maxLen := by
  induction l with
  | nil => exact ⟨[],rfl,by simp⟩
  | cons x l ih =>
    obtain ⟨vs,rfl,hx⟩ := ih fun y hy => h y (List.mem_cons_of_mem _ hy)
    have h0 := h x (List.mem_cons_self ..)
    cases h0 with
    | sl e k ss ds h1 h2 h3 =>
      cases h3
      obtain ⟨xs,rfl,_⟩ := in_ints h2
      exact ⟨xs :: vs,rfl,fun y hy => by
        rcases List.mem_cons.1 hy with rfl | hy
        · simpa [ints] using h1
        · exact hx y hy⟩
theorem in_2 {ds : List D} (h : CfL [.int,.int] ds) : ∃ a b : Int,ds = [dI a,dI b] ∧ (-9223372036854775808 ≤ a ∧ a ≤ 9223372036854775807) ∧ -9223372036854775808 ≤ b ∧ b ≤ 9223372036854775807 := by
  cases h with
  | int a ss ds h1 h2 h =>
    cases h with
    | int b ss ds h3 h4 h => cases h; exact ⟨a,b,rfl,⟨h1,h2⟩,h3,h4⟩
end Go.Proofs.YtbncpngjclabhaaGreat
/- Heads of what came in. No conditions. -/
namespace Go.Proofs.YtbncpngjclabhaaGreat
open Go.RowKit Lift

theorem fin_int {ss : List Sh} {ds : List D} (h : CfL (.int :: ss) ds) : ∃ (a : Int) (r : List D),ds = dI a :: r ∧ CfL ss r := by
  cases h with
  | int a ss ds h1 h2 h3 => exact ⟨a,ds,rfl,h3⟩
theorem fin_sl {e ss : List Sh} {ds : List D} (h : CfL (.sl e :: ss) ds) : ∃ (l : List (List D)) (r : List D),ds = .list l :: r ∧ CfL ss r ∧ l.length ≤ maxLen ∧ ∀ x ∈ l,CfL e x := by
  cases h with
  | sl e l ss ds h1 h2 h3 => exact ⟨l,ds,rfl,h3,h1,h2⟩
theorem fin_tab {ss : List Sh} {ds : List D} (h : CfL (.sl [.int] :: .sl [.int] :: .sl [.sl [.int]] :: ss) ds) : ∃ (t : Tb) (r : List D),ds = .list (ints t.x) :: .list (ints t.y) :: .list (rows t.v) :: r ∧ CfL ss r ∧ TbIn t := by
  obtain ⟨l1,_,rfl,e1,n1,h1⟩ := fin_sl h
  obtain ⟨l2,_,rfl,e2,n2,h2⟩ := fin_sl e1
  obtain ⟨l3,r,rfl,e3,n3,h3⟩ := fin_sl e2
  obtain ⟨xs,rfl,_⟩ := in_ints h1
  obtain ⟨ys,rfl,_⟩ := in_ints h2
  obtain ⟨vs,rfl,hr⟩ := in_rows h3
  exact ⟨⟨xs,ys,vs⟩,r,rfl,e3,by simpa [ints] using n1,by simpa [ints] using n2,by simpa [rows] using n3,hr⟩
end Go.Proofs.YtbncpngjclabhaaGreat
/- Boxes that came in. No conditions. -/
namespace Go.Proofs.YtbncpngjclabhaaGreat
open Go.RowKit Lift Go.ChangeShapes Go.WideShapes Go.ChangeAt Go.Joins

theorem in_sps {l : List (List D)} (h : ∀ x ∈ l,CfL [.int,.int] x) : ∃ b,l = sps b ∧ ∀ x ∈ b,(-9223372036854775808 ≤ x.1 ∧ x.1 ≤ 9223372036854775807) ∧ -9223372036854775808 ≤ x.2 ∧ x.2 ≤ 9223372036854775807 := by
  induction l with
  | nil => exact ⟨[],rfl,by simp⟩
  | cons x l ih =>
    obtain ⟨b,rfl,hb⟩ := ih fun y hy => h y (List.mem_cons_of_mem _ hy)
    obtain ⟨u,v,rfl,hu,hv⟩ := in_2 (h x (List.mem_cons_self ..))
    exact ⟨(u,v) :: b,rfl,fun y hy => by
      rcases List.mem_cons.1 hy with rfl | hy
      · exact ⟨hu,hv⟩
      · exact hb y hy⟩
end Go.Proofs.YtbncpngjclabhaaGreat
/- Arguments that came in: a craft, an air, a field with a pose. No conditions. -/
namespace Go.Proofs.YtbncpngjclabhaaGreat
open Go.RowKit Lift

theorem in_crf {ds : List D} (h : CfL [.sl [.int],.sl [.int],.sl [.sl [.int]],.sl [.int],.sl [.int],.sl [.sl [.int]],.sl [.int],.sl [.int],.sl [.sl [.int]],.sl [.int],.sl [.int],.sl [.sl [.int]],.sl [.int],.sl [.int],.sl [.sl [.int]],.sl [.int],.sl [.int],.sl [.sl [.int]],.sl [.int],.sl [.int],.sl [.sl [.int]],.sl [.int],.sl [.int],.sl [.sl [.int]],.int,.int,.int,.int,.int,.int,.int,.int,.int] ds) : ∃ c : Crf,ds = crfC c ∧ RotIn c.r := by
  have e0 := h
  obtain ⟨t0,_,rfl,e1,k0⟩ := fin_tab e0
  obtain ⟨t1,_,rfl,e2,k1⟩ := fin_tab e1
  obtain ⟨t2,_,rfl,e3,k2⟩ := fin_tab e2
  obtain ⟨t3,_,rfl,e4,k3⟩ := fin_tab e3
  obtain ⟨t4,_,rfl,e5,k4⟩ := fin_tab e4
  obtain ⟨t5,_,rfl,e6,k5⟩ := fin_tab e5
  obtain ⟨t6,_,rfl,e7,k6⟩ := fin_tab e6
  obtain ⟨t7,_,rfl,e8,k7⟩ := fin_tab e7
  obtain ⟨a0,_,rfl,e9⟩ := fin_int e8
  obtain ⟨a1,_,rfl,e10⟩ := fin_int e9
  obtain ⟨a2,_,rfl,e11⟩ := fin_int e10
  obtain ⟨a3,_,rfl,e12⟩ := fin_int e11
  obtain ⟨a4,_,rfl,e13⟩ := fin_int e12
  obtain ⟨a5,_,rfl,e14⟩ := fin_int e13
  obtain ⟨a6,_,rfl,e15⟩ := fin_int e14
  obtain ⟨a7,_,rfl,e16⟩ := fin_int e15
  obtain ⟨a8,_,rfl,e17⟩ := fin_int e16
  cases e17
  refine ⟨⟨⟨t0,t1,t2,t3,t4,t5,t6,t7,a0,a1⟩,a2,a3,a4,a5,a6,a7,a8⟩,rfl,?_⟩
  intro k hk
  rcases (by omega : k = 0 ∨ k = 1 ∨ k = 2 ∨ k = 3 ∨ k = 4 ∨ k = 5 ∨ k = 6 ∨ k = 7) with rfl | rfl | rfl | rfl | rfl | rfl | rfl | rfl <;> assumption
theorem in_airC {ds : List D} (h : CfL [.int,.int,.int,.int,.int,.int,.int,.int] ds) : ∃ a : Air,ds = airC a := by
  obtain ⟨a0,_,rfl,e1⟩ := fin_int h
  obtain ⟨a1,_,rfl,e2⟩ := fin_int e1
  obtain ⟨a2,_,rfl,e3⟩ := fin_int e2
  obtain ⟨a3,_,rfl,e4⟩ := fin_int e3
  obtain ⟨a4,_,rfl,e5⟩ := fin_int e4
  obtain ⟨a5,_,rfl,e6⟩ := fin_int e5
  obtain ⟨a6,_,rfl,e7⟩ := fin_int e6
  obtain ⟨a7,_,rfl,e8⟩ := fin_int e7
  cases e8
  exact ⟨⟨(a0,a1),(a2,a3),(a4,a5),(a6,a7)⟩,rfl⟩
theorem in_fal {ds : List D} (h : CfL [.int,.int,.int,.sl [.int,.int],.int,.int,.int] ds) : ∃ (f : Fld) (p : Ps),ds = falC f p := by
  obtain ⟨a0,_,rfl,e1⟩ := fin_int h
  obtain ⟨a1,_,rfl,e2⟩ := fin_int e1
  obtain ⟨a2,_,rfl,e3⟩ := fin_int e2
  obtain ⟨l,_,rfl,e4,_,hl⟩ := fin_sl e3
  obtain ⟨b0,_,rfl,e5⟩ := fin_int e4
  obtain ⟨b1,_,rfl,e6⟩ := fin_int e5
  obtain ⟨b2,_,rfl,e7⟩ := fin_int e6
  cases e7
  obtain ⟨l,rfl,_⟩ := in_sps hl
  exact ⟨⟨a0,a1,a2,l⟩,⟨b0,b1,b2⟩,rfl⟩
end Go.Proofs.YtbncpngjclabhaaGreat
