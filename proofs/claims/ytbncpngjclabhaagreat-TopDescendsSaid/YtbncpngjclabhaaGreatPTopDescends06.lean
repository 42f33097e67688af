/- Texts of the law TopDescends, part 6. No conditions. -/
import Derived.Test.YtbncpngjclabhaaGreatPTopDescends05
import Derived.Test.YtbncpngjclabhaaGreatRows
set_option linter.unusedSimpArgs false
set_option linter.unusedVariables false
set_option maxRecDepth 100000
set_option maxHeartbeats 16000000
/- record: what a case must be. No conditions. -/
namespace Go.Proofs.YtbncpngjclabhaaGreat
open Go Go.RowKit Lift

theorem in_sp (S : Nat → Prop) (a b : Int) : In S (.agg [dI a,dI b]) := .agg _ (by intro d hd; simp at hd; rcases hd with rfl | rfl <;> exact .val _)
theorem swithin_ac (n a b : Int) : AC Tryz.prog 74 [dI n,dI a,dI b] [] [] (dB (wI n a b)) := by
  refine kspans_within.ac (n0 := 0) (by simp) ⟨.val _,.val _,.val _,trivial⟩ trivial rfl ?_
  unfold cspans_within wI
  cases q1 : decide (a ≤ n) <;> cases q2 : decide (n ≤ b)
  all_goals
    (repeat' (first | apply aw_seq | ((first | apply aw_skip | apply aw_exit); try simp only [thenQ,blockQ,if_true,if_false,Nat.reduceEqDiff,reduceCtorEq]) | apply aw_ret | apply aw_block | apply aw_condT rfl | apply aw_condF rfl | ((first | refine aw_region ?_ | refine ago_if (by omega) ?_ | skip); simp (disch := first | exact okY | omega) only [ZU,dB,Bool.and_false,Nat.reduceMul,dI,Nat.reduceAdd,AOpRun,aexec,Nat.reduceBEq,↓eget_h,isSh,↓reduceIte,abin,ge_iff_le,q1,ARun_some,AG_ft,AG_tt,q2])))
    all_goals (refine end_q [] [] ?_ ?_ <;> repeat' (first | exact trivial | exact vr_val _))
def spVB (x : Int × Int) : Bool := wI x.1 (-1000000) x.2 && decide (x.2 ≤ 1000000)
theorem svalid_ac (x : Int × Int) : AC Tryz.prog 87 [.agg [dI x.1,dI x.2]] [] [] (dB (spVB x)) := by
  refine kspans_valid.ac (n0 := 0) (by simp) ⟨in_sp _ _ _,trivial⟩ trivial rfl ?_
  unfold cspans_valid spVB
  cases q1 : wI x.1 (-1000000) x.2 <;> cases q2 : decide (x.2 ≤ 1000000)
  all_goals
    have cw := swithin_ac x.1 (-1000000) x.2
    rw [q1] at cw
    (repeat' (first | apply aw_seq | ((first | apply aw_skip | apply aw_exit); try simp only [thenQ,blockQ,if_true,if_false,Nat.reduceEqDiff,reduceCtorEq]) | apply aw_ret | apply aw_block | apply aw_condT rfl | apply aw_condF rfl | ((first | refine aw_region ?_ | refine acall0 (cw) ?_ | refine ago_if (by omega) ?_ | skip); simp (disch := first | exact okY | omega) only [ZU,Int.reduceNeg,dB,Bool.and_false,Nat.reduceAdd,Nat.reduceMul,dI,AOpRun,aexec,D.isBot,↓eget_h,or_self,↓reduceIte,D.cells,Nat.reduceBEq,run1,ARun_some,AG_ft,AG_tt,isSh,abin,q2])))
    all_goals (refine end_q [] [] ?_ ?_ <;> repeat' (first | exact trivial | exact vr_val _))
theorem sspan1_ac (x : Int × Int) : AC Tryz.prog 86 [.agg [dI x.1,dI x.2]] [] [] (dB (!spVB x)) := by
  refine kspans_spanned_S1.ac (n0 := 0) (by simp) ⟨in_sp _ _ _,trivial⟩ trivial rfl ?_
  unfold cspans_spanned_S1
  (repeat' (first | apply aw_seq | ((first | apply aw_skip | apply aw_exit); try simp only [thenQ,blockQ,if_true,if_false,Nat.reduceEqDiff,reduceCtorEq]) | apply aw_ret | apply aw_block | apply aw_condT rfl | apply aw_condF rfl | ((first | refine aw_region ?_ | refine acall0 (svalid_ac x) ?_ | refine ago_if (by omega) ?_ | skip); simp (disch := first | exact okY | omega) only [ZU,dB,Nat.reduceAdd,Nat.reduceMul,dI,AOpRun,aexec,D.isBot,↓eget_h,or_self,↓reduceIte,D.cells,Nat.reduceBEq,Nat.reduceLeDiff,List.drop,List.take])))
  all_goals (refine end_q [] [] ?_ ?_ <;> repeat' (first | exact trivial | exact vr_val _))
theorem sp_at (l : List (Int × Int)) (k : Nat) (h : k < l.length) : (sps l)[k]? = some [dI (l[k]?.getD (0,0)).1,dI (l[k]?.getD (0,0)).2] := by simp [sps,h,dI]
theorem ifsp_ac (F : FuncId) (p : Int × Int → Bool) (hF : ∀ x : Int × Int,AC Tryz.prog F [.agg [dI x.1,dI x.2]] [] [] (dB (p x))) (l : List (Int × Int)) (hl : l.length ≤ 1000000) : AC Tryz.prog 72 [.list (sps l),.fn F [] []] [] [] (dI (match l.findIdx? p with
    | some k => (k : Int)
    | none => -1)) := by
  refine kslices_IndexFunc_L_L_Japi_Span_Kapi_Span_J.ac (n0 := 0) (by simp) ⟨.list _,.fn _ _ _ (by simp) (by simp),trivial⟩ trivial rfl ?_
  unfold cslices_IndexFunc_L_L_Japi_Span_Kapi_Span_J
  (repeat' (first | apply aw_seq | ((first | apply aw_skip | apply aw_exit); try simp only [thenQ,blockQ,if_true,if_false,Nat.reduceEqDiff,reduceCtorEq]) | apply aw_ret | apply aw_block | apply aw_condT rfl | apply aw_condF rfl | ((first | refine aw_region ?_ | refine ago_if (by omega) ?_ | skip); simp (disch := first | exact okY | omega) only [ZU,Int.reduceNeg,dI,Nat.reduceMul,AOpRun,aexec,Nat.reduceBEq,Nat.reduceAdd,↓eget_h,sps_len])))
  refine aw_loop (fun k : Nat => ⟨[(0,.list (sps l)),(1,.fn F [] []),(7,dI l.length),(8,dI k)],[],400⟩) (fun k => k ≤ l.length ∧ ∀ j,j < k → p (l[j]?.getD (0,0)) = false) (fun k => l.length - k) ⟨0,⟨by omega,fun j hj => by omega⟩,?_⟩ ?_
  · refine wk_q [] [] ?_ ?_ <;> repeat' (first | exact trivial | exact vr_val _ | exact vr_list _ | apply vr_fn | apply And.intro)
  rintro k ⟨hk,hin⟩
  by_cases hk2 : k < l.length
  · have g1 := sp_at l k hk2
    have hc := hF (l[k]?.getD (0,0))
    cases he : p (l[k]?.getD (0,0)) with
    | true =>
      have q : l.findIdx? p = some k := by
        rw [List.findIdx?_eq_some_iff_getElem]
        refine ⟨hk2,by have := he; simp [hk2] at this; simp [this],fun j hj => ?_⟩
        have := hin j hj
        simpa [show j < l.length by omega] using this
      rw [q]
      rw [he] at hc
      (have hg : (987654321 : Nat) - 987654321 = 0 := rfl; have hr := hg; repeat' (first | apply aw_seq | ((first | apply aw_skip | apply aw_exit); try simp only [thenQ,blockQ,if_true,if_false,Nat.reduceEqDiff,reduceCtorEq]) | apply aw_ret | apply aw_block | apply aw_condT rfl | apply aw_condF rfl | (refine aw_cond rfl (fun hg => ?_) (fun hg => ?_) <;> (try (have hq := hg; simp only [Bool.not_eq_true',Bool.not_eq_false',Bool.and_eq_true,Bool.and_eq_false_iff,Bool.or_eq_true,Bool.or_eq_false_iff,decide_eq_true_eq,decide_eq_false_iff_not,bne_iff_ne,beq_iff_eq,beq_eq_false_iff_ne,bne_eq_false_iff_eq,ne_eq,Int.not_lt,Int.not_le,Decidable.not_not] at hq)) <;> (try (have hr := hg; simp only [decide_eq_true_eq,decide_eq_false_iff_not] at hr)) <;> (try (exfalso; omega))) | ((first | refine aw_region ?_ | refine acall0 (hc) ?_ | refine ago_if (by omega) ?_ | skip); simp (disch := first | exact okY | omega) only [ZU,dI,Int.reduceNeg,Nat.reduceMul,Nat.reduceAdd,AOpRun,aexec,Nat.reduceBEq,↓eget_h,isSh,↓reduceIte,abin,hr,sps_all,opt1,g1,Nat.reduceLeDiff,List.take,dB,blockQ])))
      all_goals (refine end_q [] [] ?_ ?_ <;> repeat' (first | exact trivial | exact vr_val _))
    | false =>
      rw [he] at hc
      (have hg : (987654321 : Nat) - 987654321 = 0 := rfl; have hr := hg; repeat' (first | apply aw_seq | ((first | apply aw_skip | apply aw_exit); try simp only [thenQ,blockQ,if_true,if_false,Nat.reduceEqDiff,reduceCtorEq]) | apply aw_ret | apply aw_block | apply aw_condT rfl | apply aw_condF rfl | (refine aw_cond rfl (fun hg => ?_) (fun hg => ?_) <;> (try (have hq := hg; simp only [Bool.not_eq_true',Bool.not_eq_false',Bool.and_eq_true,Bool.and_eq_false_iff,Bool.or_eq_true,Bool.or_eq_false_iff,decide_eq_true_eq,decide_eq_false_iff_not,bne_iff_ne,beq_iff_eq,beq_eq_false_iff_ne,bne_eq_false_iff_eq,ne_eq,Int.not_lt,Int.not_le,Decidable.not_not] at hq)) <;> (try (have hr := hg; simp only [decide_eq_true_eq,decide_eq_false_iff_not] at hr)) <;> (try (exfalso; omega))) | ((first | refine aw_region ?_ | refine acall0 (hc) ?_ | refine ago_if (by omega) ?_ | skip); simp (disch := first | exact okY | omega) only [ZU,dI,Int.reduceNeg,Nat.reduceMul,Nat.reduceAdd,AOpRun,aexec,Nat.reduceBEq,↓eget_h,isSh,↓reduceIte,abin,hr,sps_all,opt1,g1,Nat.reduceLeDiff,List.take,dB,fits])))
      refine ⟨k + 1,⟨by omega,fun j hj => ?_⟩,by omega,by refine wk_q [] [] ?_ ?_ <;> repeat' (first | exact trivial | exact vr_val _ | exact vr_list _ | apply vr_fn | apply And.intro)⟩
      rcases (by omega : j < k ∨ j = k) with h | rfl
      · exact hin j h
      · exact he
  · obtain rfl : k = l.length := by omega
    have q : l.findIdx? p = none := by
      rw [List.findIdx?_eq_none_iff]
      intro y hy
      obtain ⟨j,hj,rfl⟩ := List.getElem_of_mem hy
      have := hin j hj
      simp [hj] at this
      simp [this]
    rw [q]
    (have hg : (987654321 : Nat) - 987654321 = 0 := rfl; have hr := hg; repeat' (first | apply aw_seq | ((first | apply aw_skip | apply aw_exit); try simp only [thenQ,blockQ,if_true,if_false,Nat.reduceEqDiff,reduceCtorEq]) | apply aw_ret | apply aw_block | apply aw_condT rfl | apply aw_condF rfl | (refine aw_cond rfl (fun hg => ?_) (fun hg => ?_) <;> (try (have hq := hg; simp only [Bool.not_eq_true',Bool.not_eq_false',Bool.and_eq_true,Bool.and_eq_false_iff,Bool.or_eq_true,Bool.or_eq_false_iff,decide_eq_true_eq,decide_eq_false_iff_not,bne_iff_ne,beq_iff_eq,beq_eq_false_iff_ne,bne_eq_false_iff_eq,ne_eq,Int.not_lt,Int.not_le,Decidable.not_not] at hq)) <;> (try (have hr := hg; simp only [decide_eq_true_eq,decide_eq_false_iff_not] at hr)) <;> (try (exfalso; omega))) | ((first | refine aw_region ?_ | refine ago_if (by omega) ?_ | skip); simp (disch := first | exact okY | omega) only [ZU,dI,Int.reduceNeg,Nat.reduceMul,Nat.reduceAdd,AOpRun,aexec,Nat.reduceBEq,↓eget_h,isSh,↓reduceIte,abin,hr,decide_false])))
    all_goals (refine end_q [] [] ?_ ?_ <;> repeat' (first | exact trivial | exact vr_val _))
theorem cfsp_ac (F : FuncId) (p : Int × Int → Bool) (hF : ∀ x : Int × Int,AC Tryz.prog F [.agg [dI x.1,dI x.2]] [] [] (dB (p x))) (l : List (Int × Int)) (hl : l.length ≤ 1000000) : AC Tryz.prog 44 [.list (sps l),.fn F [] []] [] [] (dB (l.any p)) := by
  refine kslices_ContainsFunc_L_L_Japi_Span_Kapi_Span_J.ac (n0 := 0) (by simp) ⟨.list _,.fn _ _ _ (by simp) (by simp),trivial⟩ trivial rfl ?_
  unfold cslices_ContainsFunc_L_L_Japi_Span_Kapi_Span_J
  have hf := ifsp_ac F p hF l hl
  cases h : l.findIdx? p with
  | none =>
    have ha : l.any p = false := by
      rw [List.findIdx?_eq_none_iff] at h
      exact List.any_eq_false.2 fun x hx => by simp [h x hx]
    rw [h] at hf
    rw [ha]
    (repeat' (first | apply aw_seq | ((first | apply aw_skip | apply aw_exit); try simp only [thenQ,blockQ,if_true,if_false,Nat.reduceEqDiff,reduceCtorEq]) | apply aw_ret | apply aw_block | apply aw_condT rfl | apply aw_condF rfl | ((first | refine aw_region ?_ | refine acall0 (hf) ?_ | refine ago_if (by omega) ?_ | skip); simp (disch := first | exact okY | omega) only [ZU,dB,Nat.reduceMul,AOpRun,aexec,Nat.reduceBEq,Nat.reduceAdd,↓eget_h,dI,Int.reduceNeg,isSh,↓reduceIte,abin])))
    all_goals (refine end_q [] [] ?_ ?_ <;> repeat' (first | exact trivial | exact vr_val _))
  | some k =>
    have ha : l.any p = true := by
      rw [List.findIdx?_eq_some_iff_getElem] at h
      obtain ⟨hk,he,_⟩ := h
      exact List.any_eq_true.2 ⟨l[k],List.getElem_mem hk,he⟩
    rw [h] at hf
    rw [ha]
    have q : decide ((k : Int) ≥ 0) = true := decide_eq_true (by omega)
    (repeat' (first | apply aw_seq | ((first | apply aw_skip | apply aw_exit); try simp only [thenQ,blockQ,if_true,if_false,Nat.reduceEqDiff,reduceCtorEq]) | apply aw_ret | apply aw_block | apply aw_condT rfl | apply aw_condF rfl | ((first | refine aw_region ?_ | refine acall0 (hf) ?_ | refine ago_if (by omega) ?_ | skip); simp (disch := first | exact okY | omega) only [ZU,dB,Nat.reduceMul,AOpRun,aexec,Nat.reduceBEq,Nat.reduceAdd,↓eget_h,dI,isSh,↓reduceIte,abin])))
    all_goals (refine end_q [] [] ?_ ?_ <;> repeat' (first | exact trivial | exact vr_val _))
theorem scheck_ac (x : Int × Int) : AC Tryz.prog 48 [.list (sps [x])] [] [] (dI (if spVB x = true then 0 else 10)) := by
  have h1 : AC Tryz.prog 61 [.list (sps [x])] [] [] (dI (if spVB x = true then 0 else 10)) := by
    refine kspans_spanned.ac (n0 := 0) (by simp) ⟨.list _,trivial⟩ trivial rfl ?_
    unfold cspans_spanned
    have hc := cfsp_ac 86 (fun x => !spVB x) sspan1_ac [x] (by simp)
    cases h : spVB x with
    | true =>
      rw [show ([x].any fun x => !spVB x) = false by simp [h]] at hc
      rw [if_pos rfl]
      (repeat' (first | apply aw_seq | ((first | apply aw_skip | apply aw_exit); try simp only [thenQ,blockQ,if_true,if_false,Nat.reduceEqDiff,reduceCtorEq]) | apply aw_ret | apply aw_block | apply aw_condT rfl | apply aw_condF rfl | ((first | refine aw_region ?_ | refine acall0 (hc) ?_ | refine ago_if (by omega) ?_ | skip); simp (disch := first | exact okY | omega) only [ZU,dI,Nat.reduceMul,AOpRun,aexec,Nat.reduceBEq,Nat.reduceAdd,↓eget_h,dB])))
      all_goals (refine end_q [] [] ?_ ?_ <;> repeat' (first | exact trivial | exact vr_val _))
    | false =>
      rw [show ([x].any fun x => !spVB x) = true by simp [h]] at hc
      rw [if_neg (by simp)]
      (repeat' (first | apply aw_seq | ((first | apply aw_skip | apply aw_exit); try simp only [thenQ,blockQ,if_true,if_false,Nat.reduceEqDiff,reduceCtorEq]) | apply aw_ret | apply aw_block | apply aw_condT rfl | apply aw_condF rfl | ((first | refine aw_region ?_ | refine acall0 (hc) ?_ | refine ago_if (by omega) ?_ | skip); simp (disch := first | exact okY | omega) only [ZU,dI,Nat.reduceMul,AOpRun,aexec,Nat.reduceBEq,Nat.reduceAdd,↓eget_h,dB])))
      all_goals (refine end_q [] [] ?_ ?_ <;> repeat' (first | exact trivial | exact vr_val _))
  refine kspans_Check.ac (n0 := 0) (by simp) ⟨.list _,trivial⟩ trivial rfl ?_
  unfold cspans_Check
  have cw : AC Tryz.prog 74 [dI 1,dI 1,dI 3] [] [] (dB true) := swithin_ac 1 1 3
  generalize (if spVB x = true then (0 : Int) else 10) = E at *
  (repeat' (first | apply aw_seq | ((first | apply aw_skip | apply aw_exit); try simp only [thenQ,blockQ,if_true,if_false,Nat.reduceEqDiff,reduceCtorEq]) | apply aw_ret | apply aw_block | apply aw_condT rfl | apply aw_condF rfl | ((first | refine aw_region ?_ | refine acall0 (cw) ?_ | refine acall0 (h1) ?_ | refine ago_if (by omega) ?_ | skip); simp (disch := first | exact okY | omega) only [ZU,dI,Nat.reduceMul,AOpRun,aexec,Nat.reduceBEq,Nat.reduceAdd,↓eget_h,sps_len,cast_lit,dB])))
  all_goals (refine end_q [] [] ?_ ?_ <;> repeat' (first | exact trivial | exact vr_val _))
end Go.Proofs.YtbncpngjclabhaaGreat
/- A vibration, its check and its average, in numbers. No conditions. -/
namespace Go.Proofs.YtbncpngjclabhaaGreat
open Go.RowKit Lift

def iat (l : List Int) (k : Nat) : Int := l[k]?.getD 0
def allI (l : List Int) (a b : Int) : Bool := l.all fun x => wI x a b
theorem allI_no {l : List Int} {a b : Int} {k : Nat} (hk : k < l.length) (h : wI (iat l k) a b = false) : allI l a b = false := by
  have e : iat l k = l[k] := by simp [iat,hk]
  exact List.all_eq_false.2 ⟨l[k],List.getElem_mem hk,by rw [← e,h]; simp⟩
structure VibOk (s m : List Int) : Prop where
  sl : s.length ≤ 400
  sb : ∀ k,k < s.length → -100 ≤ iat s k ∧ iat s k ≤ 100
  ml : 2 ≤ m.length
  mh : m.length ≤ 9
  mb : ∀ k,k < m.length → 0 ≤ iat m k ∧ iat m k ≤ (s.length : Int) - 1
  mr : ∀ k,k + 1 < m.length → iat m k < iat m (k + 1)
end Go.Proofs.YtbncpngjclabhaaGreat
/- The functions' bodies, translated. Written by a program; no conditions. -/
namespace Go.Proofs.YtbncpngjclabhaaGreat
open Go.RowKit Lift

def crotor_within : ACode :=
 (.seq
 (.region false [oo 6 (.mv (.const (.bool false)))] [])
 (.seq
 (.region false [om 7 0,
 om 8 1,
 oo 9 (.bin .geq (.tmp 7) (.tmp 8)),
 om 10 9,
 og 11 10 true (.mv (.tmp 0)) [],
 og 12 10 true (.mv (.tmp 2)) [],
 og 13 10 true (.bin .leq (.tmp 11) (.tmp 12)) [],
 oo 14 (.pick (.tmp 10) (.tmp 13) (.const (.bool false))),
 om 6 14] [7,8,9,10,11,12,13,14])
 .ret))
theorem krotor_within : IsCode Tryz.prog 23 15 crotor_within [.tmp 6] :=
 ⟨Tryz.f23,_,[0,1,2,6],Tryz.func23,rfl,by decide,rfl,by kernel_rfl,by kernel_rfl⟩
def crotor_limits_right : ACode :=
 (.seq
 (.region false [oo 1 (.box (.tmp 0)),
 oo 2 (.mv (.const (.bool false)))] [])
 (.seq
 (.region false [oo 4 (.mkfn 103 [] [(.tmp 1)]),
 oo 3 (.mem [(.val (.nilFunc))]),
 on (.store 1 (.tmp 3) (.tmp 4))] [4])
 (.seq
 (.region false [oo 5 (.fad 0 (.tmp 1)),
 oo 6 (.loadN 3 (.tmp 5)),
 oo 7 (.call (.func 60) [(.tmp 6)]),
 oo 8 (.bin .eql (.tmp 7) (kI 0)),
 om 9 8,
 og 10 9 true (.fad 0 (.tmp 1)) [],
 og 11 9 true (.fad 2 (.tmp 10)) [],
 og 12 9 true (.load1 (.tmp 11)) [],
 og 13 9 true (.mkfn 104 [] [(.tmp 3)]) [],
 og 14 9 true (.call (.func 85) [(.tmp 12),(.tmp 13)]) [],
 og 15 9 true (.un .not (.tmp 14)) [],
 oo 16 (.pick (.tmp 9) (.tmp 15) (.const (.bool false))),
 om 2 16] [5,6,7,8,9,10,11,12,13,14,15,16])
 .ret)))
theorem krotor_limits_right : IsCode Tryz.prog 70 17 crotor_limits_right [.tmp 2] :=
 ⟨Tryz.f70,_,[0,1,3,2],Tryz.func70,rfl,by decide,rfl,by kernel_rfl,by kernel_rfl⟩
def crotor_limits_right_S1 : ACode :=
 (.seq
 (.region false [oo 3 (.mv (.const (.bool false)))] [])
 (.seq
 (.region false [om 4 0,
 oo 5 (.fad 3 (.tmp 1)),
 oo 6 (.load1 (.tmp 5)),
 oo 7 (.fad 4 (.tmp 1)),
 oo 8 (.load1 (.tmp 7)),
 oo 9 (.call (.func 23) [(.tmp 4),(.tmp 6),(.tmp 8)]),
 oo 10 (.un .not (.tmp 9)),
 om 3 10] [4,5,6,7,8,9,10])
 .ret))
theorem krotor_limits_right_S1 : IsCode Tryz.prog 103 11 crotor_limits_right_S1 [.tmp 3] :=
 ⟨Tryz.f103,_,[0,1,3],Tryz.func103,rfl,by decide,rfl,by kernel_rfl,by kernel_rfl⟩
def crotor_limits_right_S2 : ACode :=
 (.seq
 (.region false [oo 3 (.mv (.const (.bool false)))] [])
 (.seq
 (.region false [om 4 0,
 oo 5 (.load1 (.tmp 1)),
 oo 6 (.call (.func 83) [(.tmp 4),(.tmp 5)]),
 om 3 6] [4,5,6])
 .ret))
theorem krotor_limits_right_S2 : IsCode Tryz.prog 104 7 crotor_limits_right_S2 [.tmp 3] :=
 ⟨Tryz.f104,_,[0,1,3],Tryz.func104,rfl,by decide,rfl,by kernel_rfl,by kernel_rfl⟩
def crotor_Check : ACode :=
 (.seq
 (.region false [oo 1 (.box (.tmp 0)),
 oo 2 (.mv (kI 0))] [])
 (.seq
 (.seq
 (.region false [oo 11 (.fad 0 (.tmp 1)),
 oo 12 (.loadN 3 (.tmp 11)),
 oo 13 (.build [(.val (.slice none 0 0)),(.val (.slice none 0 0)),(.val (.slice none 0 0)),(.val (.int .i64 0)),(.val (.int .i64 0))] [(0,3,(.tmp 12)),(3,1,(kI 0)),(4,1,(kI 100000))]),
 oo 14 (.fad 3 (.tmp 1)),
 oo 15 (.loadN 3 (.tmp 14)),
 oo 16 (.build [(.val (.slice none 0 0)),(.val (.slice none 0 0)),(.val (.slice none 0 0)),(.val (.int .i64 0)),(.val (.int .i64 0))] [(0,3,(.tmp 15)),(3,1,(kI 0)),(4,1,(kI 100))]),
 oo 17 (.fad 6 (.tmp 1)),
 oo 18 (.loadN 3 (.tmp 17)),
 oo 19 (.build [(.val (.slice none 0 0)),(.val (.slice none 0 0)),(.val (.slice none 0 0)),(.val (.int .i64 0)),(.val (.int .i64 0))] [(0,3,(.tmp 18)),(3,1,(kI 0)),(4,1,(kI 100000))]),
 oo 20 (.fad 9 (.tmp 1)),
 oo 21 (.loadN 3 (.tmp 20)),
 oo 22 (.build [(.val (.slice none 0 0)),(.val (.slice none 0 0)),(.val (.slice none 0 0)),(.val (.int .i64 0)),(.val (.int .i64 0))] [(0,3,(.tmp 21)),(3,1,(kI 0)),(4,1,(kI 100000))]),
 oo 23 (.fad 12 (.tmp 1)),
 oo 24 (.loadN 3 (.tmp 23)),
 oo 25 (.build [(.val (.slice none 0 0)),(.val (.slice none 0 0)),(.val (.slice none 0 0)),(.val (.int .i64 0)),(.val (.int .i64 0))] [(0,3,(.tmp 24)),(3,1,(kI 0)),(4,1,(kI 10000))]),
 oo 26 (.fad 15 (.tmp 1)),
 oo 27 (.loadN 3 (.tmp 26)),
 oo 28 (.build [(.val (.slice none 0 0)),(.val (.slice none 0 0)),(.val (.slice none 0 0)),(.val (.int .i64 0)),(.val (.int .i64 0))] [(0,3,(.tmp 27)),(3,1,(kI 0)),(4,1,(kI 10000))]),
 oo 29 (.fad 18 (.tmp 1)),
 oo 30 (.loadN 3 (.tmp 29)),
 oo 31 (.build [(.val (.slice none 0 0)),(.val (.slice none 0 0)),(.val (.slice none 0 0)),(.val (.int .i64 0)),(.val (.int .i64 0))] [(0,3,(.tmp 30)),(3,1,(kI 0)),(4,1,(kI 10000))]),
 oo 32 (.fad 21 (.tmp 1)),
 oo 33 (.loadN 3 (.tmp 32)),
 oo 34 (.build [(.val (.slice none 0 0)),(.val (.slice none 0 0)),(.val (.slice none 0 0)),(.val (.int .i64 0)),(.val (.int .i64 0))] [(0,3,(.tmp 33)),(3,1,(kI 1)),(4,1,(kI 10000))]),
 oo 35 (.buildSl 5 8 [(.val (.slice none 0 0)),(.val (.slice none 0 0)),(.val (.slice none 0 0)),(.val (.int .i64 0)),(.val (.int .i64 0)),(.val (.slice none 0 0)),(.val (.slice none 0 0)),(.val (.slice none 0 0)),(.val (.int .i64 0)),(.val (.int .i64 0)),(.val (.slice none 0 0)),(.val (.slice none 0 0)),(.val (.slice none 0 0)),(.val (.int .i64 0)),(.val (.int .i64 0)),(.val (.slice none 0 0)),(.val (.slice none 0 0)),(.val (.slice none 0 0)),(.val (.int .i64 0)),(.val (.int .i64 0)),(.val (.slice none 0 0)),(.val (.slice none 0 0)),(.val (.slice none 0 0)),(.val (.int .i64 0)),(.val (.int .i64 0)),(.val (.slice none 0 0)),(.val (.slice none 0 0)),(.val (.slice none 0 0)),(.val (.int .i64 0)),(.val (.int .i64 0)),(.val (.slice none 0 0)),(.val (.slice none 0 0)),(.val (.slice none 0 0)),(.val (.int .i64 0)),(.val (.int .i64 0)),(.val (.slice none 0 0)),(.val (.slice none 0 0)),(.val (.slice none 0 0)),(.val (.int .i64 0)),(.val (.int .i64 0))] [(0,5,(.tmp 13)),(5,5,(.tmp 16)),(10,5,(.tmp 19)),(15,5,(.tmp 22)),(20,5,(.tmp 25)),(25,5,(.tmp 28)),(30,5,(.tmp 31)),(35,5,(.tmp 34))]),
 oo 36 (.len_ (.tmp 35)),
 oo 37 (.mv (kI 0))] [11,12,13,14,15,16,17,18,19,20,21,22,23,24,25,26,27,28,29,30,31,32,33,34])
 (.block 0
 (.loop
 (.seq
 (.region false [oo 38 (.bin .lss (.tmp 37) (.tmp 36))] [])
 (.seq
 (.cond (.tmp 38)
 .skip
 (.exit 0))
 (.seq
 (.block 1
 (.seq
 (.region false [oo 39 (.iadS 5 (.tmp 35) (.tmp 37)),
 oo 40 (.loadN 5 (.tmp 39)),
 oo 4 (.mem [(.val (.slice none 0 0)),(.val (.slice none 0 0)),(.val (.slice none 0 0)),(.val (.int .i64 0)),(.val (.int .i64 0))]),
 on (.store 5 (.tmp 4) (.tmp 40))] [39,40])
 (.seq
 (.region false [oo 41 (.loadN 5 (.tmp 4)),
 oo 42 (.call (.func 70) [(.tmp 41)]),
 oo 43 (.un .not (.tmp 42))] [41,42])
 (.cond (.tmp 43)
 (.seq
 (.region false [oo 2 (.mv (kI 20))] [])
 .ret)
 .skip))))
 (.region false [oo 44 (.bin .add (.tmp 37) (kI 1)),
 om 37 44] [44])))))))
 (.seq
 (.region true [oo 45 (.fad 15 (.tmp 1)),
 oa 46 (.loadN 3 (.tmp 45)) [0],
 oo 47 (.fad 18 (.tmp 1)),
 oa 48 (.loadN 3 (.tmp 47)) [2],
 oo 5 (.mem [(.val (.slice none 0 0)),(.val (.slice none 0 0)),(.val (.slice none 0 0))]),
 oo 6 (.mem [(.val (.slice none 0 0)),(.val (.slice none 0 0)),(.val (.slice none 0 0))]),
 ⟨none,.store 3 (.tmp 5) (.tmp 46),none,[4,1,0,5]⟩,
 ⟨none,.store 3 (.tmp 6) (.tmp 48),none,[5,3,2,6,4,1,0]⟩] [45,46,47,48])
 (.seq
 (.seq
 (.region false [oo 49 (.fad 0 (.tmp 5)),
 oo 50 (.load1 (.tmp 49)),
 oo 51 (.fad 0 (.tmp 6)),
 oo 52 (.load1 (.tmp 51)),
 oo 53 (.call (.func 71) [(.tmp 50),(.tmp 52)]),
 oo 54 (.un .not (.tmp 53)),
 om 55 54,
 og 56 55 false (.fad 1 (.tmp 5)) [],
 og 57 55 false (.load1 (.tmp 56)) [],
 og 58 55 false (.fad 1 (.tmp 6)) [],
 og 59 55 false (.load1 (.tmp 58)) [],
 og 60 55 false (.call (.func 71) [(.tmp 57),(.tmp 59)]) [],
 og 61 55 false (.un .not (.tmp 60)) [],
 oo 62 (.pick (.tmp 55) (.const (.bool true)) (.tmp 61)),
 om 63 62,
 og 64 63 false (.fad 24 (.tmp 1)) [],
 og 65 63 false (.load1 (.tmp 64)) [],
 og 66 63 false (.call (.func 23) [(.tmp 65),(kI 1),(kI 1000)]) [],
 og 67 63 false (.un .not (.tmp 66)) [],
 oo 68 (.pick (.tmp 63) (.const (.bool true)) (.tmp 67)),
 om 69 68,
 og 70 69 false (.fad 25 (.tmp 1)) [],
 og 71 69 false (.load1 (.tmp 70)) [],
 og 72 69 false (.call (.func 23) [(.tmp 71),(kI 1),(kI 1000)]) [],
 og 73 69 false (.un .not (.tmp 72)) [],
 oo 74 (.pick (.tmp 69) (.const (.bool true)) (.tmp 73))] [49,50,51,52,53,54,55,56,57,58,59,60,61,62,63,64,65,66,67,68,69,70,71,72,73])
 (.cond (.tmp 74)
 (.seq
 (.region false [oo 2 (.mv (kI 20))] [])
 .ret)
 .skip))
 (.seq
 (.seq
 (.region false [oo 75 (.fad 2 (.tmp 5)),
 oo 76 (.load1 (.tmp 75)),
 oo 77 (.len_ (.tmp 76)),
 oo 78 (.mv (kI 0))] [75])
 (.block 2
 (.loop
 (.seq
 (.region false [oo 79 (.bin .lss (.tmp 78) (.tmp 77))] [])
 (.seq
 (.cond (.tmp 79)
 .skip
 (.exit 2))
 (.seq
 (.block 3
 (.seq
 (.region false [om 80 78,
 oo 81 (.iadS 1 (.tmp 76) (.tmp 78)),
 oo 82 (.load1 (.tmp 81)),
 om 7 80,
 om 8 82] [80,81,82])
 (.seq
 (.region false [om 83 8,
 oo 84 (.len_ (.tmp 83)),
 oo 85 (.mv (kI 0))] [])
 (.block 4
 (.loop
 (.seq
 (.region false [oo 86 (.bin .lss (.tmp 85) (.tmp 84))] [])
 (.seq
 (.cond (.tmp 86)
 .skip
 (.exit 4))
 (.seq
 (.block 5
 (.seq
 (.region false [om 87 85,
 oo 88 (.iadS 1 (.tmp 83) (.tmp 85)),
 oo 89 (.load1 (.tmp 88)),
 om 9 87,
 om 10 89] [87,88,89])
 (.seq
 (.region false [om 90 10,
 oo 91 (.fad 2 (.tmp 6)),
 oo 92 (.load1 (.tmp 91)),
 om 93 7,
 oo 94 (.iadS 1 (.tmp 92) (.tmp 93)),
 oo 95 (.load1 (.tmp 94)),
 om 96 9,
 oo 97 (.iadS 1 (.tmp 95) (.tmp 96)),
 oo 98 (.load1 (.tmp 97)),
 oo 99 (.bin .gtr (.tmp 90) (.tmp 98))] [90,91,92,93,94,95,96,97,98])
 (.cond (.tmp 99)
 (.seq
 (.region false [oo 2 (.mv (kI 20))] [])
 .ret)
 .skip))))
 (.region false [oo 100 (.bin .add (.tmp 85) (kI 1)),
 om 85 100] [100])))))))))
 (.region false [oo 101 (.bin .add (.tmp 78) (kI 1)),
 om 78 101] [101])))))))
 (.seq
 (.region false [oo 2 (.mv (kI 0))] [])
 .ret))))))
theorem krotor_Check : IsCode Tryz.prog 43 102 crotor_Check [.tmp 2] :=
 ⟨Tryz.f43,_,[99,86,79,74,43,38,0,1,37,36,35,4,5,6,78,77,76,8,85,84,83,10,7,9,2],Tryz.func43,rfl,by decide,rfl,by kernel_rfl,by kernel_rfl⟩
def crotor_valid : ACode :=
 (.seq
 (.region false [oo 1 (.box (.tmp 0)),
 oo 2 (.mv (.const (.bool false)))] [])
 (.seq
 (.region false [oo 3 (.loadN 2 (.tmp 1)),
 oo 4 (.buildSl 2 1 [(.val (.int .i64 0)),(.val (.int .i64 0))] [(0,2,(.tmp 3))]),
 oo 5 (.call (.func 48) [(.tmp 4)]),
 oo 6 (.bin .eql (.tmp 5) (kI 0)),
 om 2 6] [3,4,5,6])
 .ret))
theorem krotor_valid : IsCode Tryz.prog 24 7 crotor_valid [.tmp 2] :=
 ⟨Tryz.f24,_,[0,1,2],Tryz.func24,rfl,by decide,rfl,by kernel_rfl,by kernel_rfl⟩
def crotor_check_S1 : ACode :=
 (.seq
 (.region false [oo 1 (.box (.tmp 0)),
 oo 2 (.mv (.const (.bool false)))] [])
 (.seq
 (.region false [oo 3 (.loadN 2 (.tmp 1)),
 oo 4 (.call (.func 24) [(.tmp 3)]),
 oo 5 (.un .not (.tmp 4)),
 om 2 5] [3,4,5])
 .ret))
theorem krotor_check_S1 : IsCode Tryz.prog 45 6 crotor_check_S1 [.tmp 2] :=
 ⟨Tryz.f45,_,[0,1,2],Tryz.func45,rfl,by decide,rfl,by kernel_rfl,by kernel_rfl⟩
def crotor_check_S2 : ACode :=
 (.seq
 (.region false [oo 1 (.box (.tmp 0)),
 oo 2 (.mv (.const (.bool false)))] [])
 (.seq
 (.region false [oo 3 (.loadN 7 (.tmp 1)),
 oo 4 (.call (.func 25) [(.tmp 3)]),
 oo 5 (.un .not (.tmp 4)),
 om 2 5] [3,4,5])
 .ret))
theorem krotor_check_S2 : IsCode Tryz.prog 47 6 crotor_check_S2 [.tmp 2] :=
 ⟨Tryz.f47,_,[0,1,2],Tryz.func47,rfl,by decide,rfl,by kernel_rfl,by kernel_rfl⟩
def crotor_looked_lies : ACode :=
 (.seq
 (.region false [oo 1 (.box (.tmp 0)),
 oo 2 (.mv (.const (.bool false)))] [])
 (.seq
 (.region true [oo 3 (.fad 3 (.tmp 1)),
 oa 4 (.fad 0 (.tmp 3)) [0],
 oa 5 (.load1 (.tmp 4)) [1,0],
 oo 6 (.fad 0 (.tmp 1)),
 oa 7 (.fad 0 (.tmp 6)) [3],
 oa 8 (.load1 (.tmp 7)) [4,3],
 oa 9 (.iadS 1 (.tmp 8) (kI 0)) [5,4,3],
 oa 10 (.load1 (.tmp 9)) [6,5,4,3],
 oa 11 (.bin .geq (.tmp 5) (.tmp 10)) [2,1,0,7,6,5,4,3],
 oa 12 (.mv (.tmp 11)) [8,2,1,0,7,6,5,4,3],
 og 13 12 true (.fad 3 (.tmp 1)) [9,8,2,1,0,7,6,5,4,3],
 og 14 12 true (.fad 1 (.tmp 13)) [10,9,8,2,1,0,7,6,5,4,3],
 og 15 12 true (.load1 (.tmp 14)) [11,10,9,8,2,1,0,7,6,5,4,3],
 og 16 12 true (.fad 0 (.tmp 1)) [9,8,2,1,0,7,6,5,4,3],
 og 17 12 true (.fad 0 (.tmp 16)) [13,9,8,2,1,0,7,6,5,4,3],
 og 18 12 true (.load1 (.tmp 17)) [14,13,9,8,2,1,0,7,6,5,4,3],
 og 19 12 true (.fad 0 (.tmp 1)) [9,8,2,1,0,7,6,5,4,3],
 og 20 12 true (.fad 0 (.tmp 19)) [16,9,8,2,1,0,7,6,5,4,3],
 og 21 12 true (.load1 (.tmp 20)) [17,16,9,8,2,1,0,7,6,5,4,3],
 og 22 12 true (.len_ (.tmp 21)) [18,17,16,9,8,2,1,0,7,6,5,4,3],
 og 23 12 true (.bin .sub (.tmp 22) (kI 1)) [19,18,17,16,9,8,2,1,0,7,6,5,4,3],
 og 24 12 true (.iadS 1 (.tmp 18) (.tmp 23)) [15,14,13,9,8,2,1,0,7,6,5,4,3,20,19,18,17,16],
 og 25 12 true (.load1 (.tmp 24)) [21,15,14,13,9,8,2,1,0,7,6,5,4,3,20,19,18,17,16],
 og 26 12 true (.bin .leq (.tmp 15) (.tmp 25)) [12,11,10,9,8,2,1,0,7,6,5,4,3,22,21,15,14,13,20,19,18,17,16],
 oa 27 (.pick (.tmp 12) (.tmp 26) (.const (.bool false))) [9,8,2,1,0,7,6,5,4,3,23,12,11,10,22,21,15,14,13,20,19,18,17,16],
 oa 28 (.mv (.tmp 27)) [24,9,8,2,1,0,7,6,5,4,3,23,12,11,10,22,21,15,14,13,20,19,18,17,16],
 og 29 28 true (.fad 5 (.tmp 1)) [25,24,9,8,2,1,0,7,6,5,4,3,23,12,11,10,22,21,15,14,13,20,19,18,17,16],
 og 30 28 true (.fad 0 (.tmp 29)) [26,25,24,9,8,2,1,0,7,6,5,4,3,23,12,11,10,22,21,15,14,13,20,19,18,17,16],
 og 31 28 true (.load1 (.tmp 30)) [27,26,25,24,9,8,2,1,0,7,6,5,4,3,23,12,11,10,22,21,15,14,13,20,19,18,17,16],
 og 32 28 true (.fad 0 (.tmp 1)) [25,24,9,8,2,1,0,7,6,5,4,3,23,12,11,10,22,21,15,14,13,20,19,18,17,16],
 og 33 28 true (.fad 1 (.tmp 32)) [29,25,24,9,8,2,1,0,7,6,5,4,3,23,12,11,10,22,21,15,14,13,20,19,18,17,16],
 og 34 28 true (.load1 (.tmp 33)) [30,29,25,24,9,8,2,1,0,7,6,5,4,3,23,12,11,10,22,21,15,14,13,20,19,18,17,16],
 og 35 28 true (.iadS 1 (.tmp 34) (kI 0)) [31,30,29,25,24,9,8,2,1,0,7,6,5,4,3,23,12,11,10,22,21,15,14,13,20,19,18,17,16],
 og 36 28 true (.load1 (.tmp 35)) [32,31,30,29,25,24,9,8,2,1,0,7,6,5,4,3,23,12,11,10,22,21,15,14,13,20,19,18,17,16],
 og 37 28 true (.bin .geq (.tmp 31) (.tmp 36)) [28,27,26,25,24,9,8,2,1,0,7,6,5,4,3,23,12,11,10,22,21,15,14,13,20,19,18,17,16,33,32,31,30,29],
 oa 38 (.pick (.tmp 28) (.tmp 37) (.const (.bool false))) [25,24,9,8,2,1,0,7,6,5,4,3,23,12,11,10,22,21,15,14,13,20,19,18,17,16,34,28,27,26,33,32,31,30,29],
 oa 39 (.mv (.tmp 38)) [35,25,24,9,8,2,1,0,7,6,5,4,3,23,12,11,10,22,21,15,14,13,20,19,18,17,16,34,28,27,26,33,32,31,30,29],
 og 40 39 true (.fad 5 (.tmp 1)) [36,35,25,24,9,8,2,1,0,7,6,5,4,3,23,12,11,10,22,21,15,14,13,20,19,18,17,16,34,28,27,26,33,32,31,30,29],
 og 41 39 true (.fad 1 (.tmp 40)) [37,36,35,25,24,9,8,2,1,0,7,6,5,4,3,23,12,11,10,22,21,15,14,13,20,19,18,17,16,34,28,27,26,33,32,31,30,29],
 og 42 39 true (.load1 (.tmp 41)) [38,37,36,35,25,24,9,8,2,1,0,7,6,5,4,3,23,12,11,10,22,21,15,14,13,20,19,18,17,16,34,28,27,26,33,32,31,30,29],
 og 43 39 true (.fad 0 (.tmp 1)) [36,35,25,24,9,8,2,1,0,7,6,5,4,3,23,12,11,10,22,21,15,14,13,20,19,18,17,16,34,28,27,26,33,32,31,30,29],
 og 44 39 true (.fad 1 (.tmp 43)) [40,36,35,25,24,9,8,2,1,0,7,6,5,4,3,23,12,11,10,22,21,15,14,13,20,19,18,17,16,34,28,27,26,33,32,31,30,29],
 og 45 39 true (.load1 (.tmp 44)) [41,40,36,35,25,24,9,8,2,1,0,7,6,5,4,3,23,12,11,10,22,21,15,14,13,20,19,18,17,16,34,28,27,26,33,32,31,30,29],
 og 46 39 true (.fad 0 (.tmp 1)) [36,35,25,24,9,8,2,1,0,7,6,5,4,3,23,12,11,10,22,21,15,14,13,20,19,18,17,16,34,28,27,26,33,32,31,30,29],
 og 47 39 true (.fad 1 (.tmp 46)) [43,36,35,25,24,9,8,2,1,0,7,6,5,4,3,23,12,11,10,22,21,15,14,13,20,19,18,17,16,34,28,27,26,33,32,31,30,29],
 og 48 39 true (.load1 (.tmp 47)) [44,43,36,35,25,24,9,8,2,1,0,7,6,5,4,3,23,12,11,10,22,21,15,14,13,20,19,18,17,16,34,28,27,26,33,32,31,30,29],
 og 49 39 true (.len_ (.tmp 48)) [45,44,43,36,35,25,24,9,8,2,1,0,7,6,5,4,3,23,12,11,10,22,21,15,14,13,20,19,18,17,16,34,28,27,26,33,32,31,30,29],
 og 50 39 true (.bin .sub (.tmp 49) (kI 1)) [46,45,44,43,36,35,25,24,9,8,2,1,0,7,6,5,4,3,23,12,11,10,22,21,15,14,13,20,19,18,17,16,34,28,27,26,33,32,31,30,29],
 og 51 39 true (.iadS 1 (.tmp 45) (.tmp 50)) [42,41,40,36,35,25,24,9,8,2,1,0,7,6,5,4,3,23,12,11,10,22,21,15,14,13,20,19,18,17,16,34,28,27,26,33,32,31,30,29,47,46,45,44,43],
 og 52 39 true (.load1 (.tmp 51)) [48,42,41,40,36,35,25,24,9,8,2,1,0,7,6,5,4,3,23,12,11,10,22,21,15,14,13,20,19,18,17,16,34,28,27,26,33,32,31,30,29,47,46,45,44,43],
 og 53 39 true (.bin .leq (.tmp 42) (.tmp 52)) [39,38,37,36,35,25,24,9,8,2,1,0,7,6,5,4,3,23,12,11,10,22,21,15,14,13,20,19,18,17,16,34,28,27,26,33,32,31,30,29,49,48,42,41,40,47,46,45,44,43],
 oa 54 (.pick (.tmp 39) (.tmp 53) (.const (.bool false))) [36,35,25,24,9,8,2,1,0,7,6,5,4,3,23,12,11,10,22,21,15,14,13,20,19,18,17,16,34,28,27,26,33,32,31,30,29,50,39,38,37,49,48,42,41,40,47,46,45,44,43],
 oa 2 (.mv (.tmp 54)) [51,36,35,25,24,9,8,2,1,0,7,6,5,4,3,23,12,11,10,22,21,15,14,13,20,19,18,17,16,34,28,27,26,33,32,31,30,29,50,39,38,37,49,48,42,41,40,47,46,45,44,43]] [3,4,5,6,7,8,9,10,11,12,13,14,15,16,17,18,19,20,21,22,23,24,25,26,27,28,29,30,31,32,33,34,35,36,37,38,39,40,41,42,43,44,45,46,47,48,49,50,51,52,53,54])
 .ret))
theorem krotor_looked_lies : IsCode Tryz.prog 25 55 crotor_looked_lies [.tmp 2] :=
 ⟨Tryz.f25,_,[0,1,2],Tryz.func25,rfl,by decide,rfl,by kernel_rfl,by kernel_rfl⟩
def crotor_looked_bound : ACode :=
 (.seq
 (.region false [oo 1 (.box (.tmp 0)),
 oo 2 (.mem [(.val (.int .i64 0)),(.val (.int .i64 0))])] [])
 (.seq
 (.region false [oo 6 (.fad 0 (.tmp 1)),
 oo 7 (.loadN 3 (.tmp 6)),
 oo 8 (.fad 3 (.tmp 1)),
 oo 9 (.loadN 2 (.tmp 8)),
 oo 10 (.fad 5 (.tmp 1)),
 oo 11 (.loadN 2 (.tmp 10)),
 oo 12 (.call (.func 15) [(.tmp 7),(.tmp 9),(.tmp 11)]),
 om 5 12,
 oo 13 (.ext (.tmp 5) 0),
 oo 14 (.ext (.tmp 5) 1),
 oo 3 (.mem [(.val (.int .i64 0)),(.val (.int .i64 0))]),
 on (.store 2 (.tmp 3) (.tmp 13)),
 om 4 14] [6,7,8,9,10,11,12,5,13,14,4])
 (.seq
 (.region false [oo 15 (.loadN 2 (.tmp 3)),
 on (.store 2 (.tmp 2) (.tmp 15))] [15])
 .ret)))
theorem krotor_looked_bound : IsCode Tryz.prog 49 16 crotor_looked_bound [.cellN 2 2] :=
 ⟨Tryz.f49,_,[0,1,3,2],Tryz.func49,rfl,by decide,rfl,by kernel_rfl,by kernel_rfl⟩
def crotor_machine_level : ACode :=
 (.seq
 (.region false [oo 2 (.box (.tmp 0)),
 oo 3 (.box (.tmp 1)),
 oo 4 (.mem [(.val (.slice none 0 0)),(.val (.slice none 0 0)),(.val (.slice none 0 0)),(.val (.int .i64 0)),(.val (.int .i64 0)),(.val (.int .i64 0)),(.val (.int .i64 0))])] [])
 (.seq
 (.region false [oo 5 (.fad 0 (.tmp 2)),
 oo 6 (.fad 6 (.tmp 5)),
 oo 7 (.loadN 3 (.tmp 6)),
 oo 8 (.loadN 2 (.tmp 3)),
 oo 9 (.fad 26 (.tmp 2)),
 oo 10 (.fad 0 (.tmp 9)),
 oo 11 (.loadN 2 (.tmp 10)),
 oo 12 (.build [(.val (.slice none 0 0)),(.val (.slice none 0 0)),(.val (.slice none 0 0)),(.val (.int .i64 0)),(.val (.int .i64 0)),(.val (.int .i64 0)),(.val (.int .i64 0))] [(0,3,(.tmp 7)),(3,2,(.tmp 8)),(5,2,(.tmp 11))]),
 on (.store 7 (.tmp 4) (.tmp 12))] [5,6,7,8,9,10,11,12])
 .ret))
theorem krotor_machine_level : IsCode Tryz.prog 117 13 crotor_machine_level [.cellN 4 7] :=
 ⟨Tryz.f117,_,[0,1,2,3,4],Tryz.func117,rfl,by decide,rfl,by kernel_rfl,by kernel_rfl⟩
def cslices_Equal_L_L_Jint_Kint_J : ACode :=
 (.seq
 (.region false [oo 4 (.mv (.const (.bool false)))] [])
 (.seq
 (.seq
 (.region false [om 6 0,
 oo 7 (.len_ (.tmp 6)),
 om 8 1,
 oo 9 (.len_ (.tmp 8)),
 oo 10 (.bin .neq (.tmp 7) (.tmp 9))] [6,7,8,9])
 (.cond (.tmp 10)
 (.seq
 (.region false [oo 4 (.mv (.const (.bool false)))] [])
 .ret)
 .skip))
 (.seq
 (.seq
 (.region false [om 11 0,
 oo 12 (.len_ (.tmp 11)),
 oo 13 (.mv (kI 0))] [11])
 (.block 0
 (.loop
 (.seq
 (.region false [oo 14 (.bin .lss (.tmp 13) (.tmp 12))] [])
 (.seq
 (.cond (.tmp 14)
 .skip
 (.exit 0))
 (.seq
 (.block 1
 (.seq
 (.region false [om 15 13,
 om 5 15] [15])
 (.seq
 (.region true [om 16 0,
 om 17 5,
 oa 18 (.iadS 1 (.tmp 16) (.tmp 17)) [0,1],
 oa 19 (.load1 (.tmp 18)) [2,0,1],
 om 20 1,
 om 21 5,
 oa 22 (.iadS 1 (.tmp 20) (.tmp 21)) [4,5],
 oa 23 (.load1 (.tmp 22)) [6,4,5],
 oa 24 (.bin .neq (.tmp 19) (.tmp 23)) [3,2,0,1,7,6,4,5]] [16,17,18,19,20,21,22,23])
 (.cond (.tmp 24)
 (.seq
 (.region false [oo 4 (.mv (.const (.bool false)))] [])
 .ret)
 .skip))))
 (.region false [oo 25 (.bin .add (.tmp 13) (kI 1)),
 om 13 25] [25])))))))
 (.seq
 (.region false [oo 4 (.mv (.const (.bool true)))] [])
 .ret))))
theorem kslices_Equal_L_L_Jint_Kint_J : IsCode Tryz.prog 71 26 cslices_Equal_L_L_Jint_Kint_J [.tmp 4] :=
 ⟨Tryz.f71,_,[24,14,10,0,1,13,12,5,4],Tryz.func71,rfl,by decide,rfl,by kernel_rfl,by kernel_rfl⟩
def cslices_ContainsFunc_L_L_Jrotor_looked_Krotor_looked_J : ACode :=
 (.seq
 (.region false [oo 4 (.mv (.const (.bool false)))] [])
 (.seq
 (.region false [om 5 0,
 om 6 1,
 oo 7 (.call (.func 73) [(.tmp 5),(.tmp 6)]),
 oo 8 (.bin .geq (.tmp 7) (kI 0)),
 om 4 8] [5,6,7,8])
 .ret))
theorem kslices_ContainsFunc_L_L_Jrotor_looked_Krotor_looked_J : IsCode Tryz.prog 46 9 cslices_ContainsFunc_L_L_Jrotor_looked_Krotor_looked_J [.tmp 4] :=
 ⟨Tryz.f46,_,[0,1,4],Tryz.func46,rfl,by decide,rfl,by kernel_rfl,by kernel_rfl⟩
def cslices_IndexFunc_L_L_Jrotor_looked_Krotor_looked_J : ACode :=
 (.seq
 (.region false [oo 4 (.mv (kI 0))] [])
 (.seq
 (.seq
 (.region false [om 6 0,
 oo 7 (.len_ (.tmp 6)),
 oo 8 (.mv (kI 0))] [6])
 (.block 0
 (.loop
 (.seq
 (.region false [oo 9 (.bin .lss (.tmp 8) (.tmp 7))] [])
 (.seq
 (.cond (.tmp 9)
 .skip
 (.exit 0))
 (.seq
 (.block 1
 (.seq
 (.region false [om 10 8,
 om 5 10] [10])
 (.seq
 (.region false [om 11 1,
 om 12 0,
 om 13 5,
 oo 14 (.iadS 7 (.tmp 12) (.tmp 13)),
 oo 15 (.loadN 7 (.tmp 14)),
 oo 16 (.call (.tmp 11) [(.tmp 15)])] [11,12,13,14,15])
 (.cond (.tmp 16)
 (.seq
 (.region false [om 17 5,
 om 4 17] [17])
 .ret)
 .skip))))
 (.region false [oo 18 (.bin .add (.tmp 8) (kI 1)),
 om 8 18] [18])))))))
 (.seq
 (.region false [oo 4 (.mv (kI (-1)))] [])
 .ret)))
theorem kslices_IndexFunc_L_L_Jrotor_looked_Krotor_looked_J : IsCode Tryz.prog 73 19 cslices_IndexFunc_L_L_Jrotor_looked_Krotor_looked_J [.tmp 4] :=
 ⟨Tryz.f73,_,[16,9,0,8,7,1,5,4],Tryz.func73,rfl,by decide,rfl,by kernel_rfl,by kernel_rfl⟩
end Go.Proofs.YtbncpngjclabhaaGreat
/- rotor: the limits of a table. No conditions. -/
namespace Go.Proofs.YtbncpngjclabhaaGreat
open Go.RowKit Lift

def isW : D → Bool
  | .val _ => true
  | .list _ => true
  | _ => false
theorem wals_in {S : Nat → Prop} {c : List D} (h : c.all isW = true) : ∀ d ∈ c,In S d := fun d hd => by
  have := List.all_eq_true.1 h d hd
  cases d <;> first | exact .val _ | exact .list _ | (simp [isW] at this)
structure Tb where
  x : List Int
  y : List Int
  v : List (List Int)
def TbSm (t : Tb) : Prop := t.x.length ≤ 15 ∧ t.y.length ≤ 15 ∧ t.v.length ≤ 15 ∧ ∀ r ∈ t.v,r.length ≤ 15
theorem TbSm.sz {t : Tb} (h : TbSm t) : TSz t.x t.y t.v := ⟨by have := h.1; omega,by have := h.2.1; omega,by have := h.2.2.1; omega,fun r hr => by have := h.2.2.2 r hr; omega⟩
theorem TbSm.row {t : Tb} (h : TbSm t) (k : Nat) : (t.v[k]?.getD []).length ≤ 15 := by
  by_cases hk : k < t.v.length
  · rw [List.getElem?_eq_getElem hk]; exact h.2.2.2 _ (List.getElem_mem hk)
  · rw [List.getElem?_eq_none (by omega)]; simp
def limB (t : Tb) (lo hi : Int) : Bool := decide (tabErr t.x t.y t.v = 0) && t.v.all fun r => allI r lo hi
def limC (t : Tb) (lo hi : Int) : List D := [.list (ints t.x),.list (ints t.y),.list (rows t.v),dI lo,dI hi]
theorem limC_in (S : Nat → Prop) (t : Tb) (lo hi : Int) : ∀ d ∈ limC t lo hi,In S d := by
  intro d hd; simp [limC] at hd; rcases hd with rfl | rfl | rfl | rfl | rfl <;> first | exact .list _ | exact .val _
theorem roWithin_ac (n a b : Int) : AC Tryz.prog 23 [dI n,dI a,dI b] [] [] (dB (wI n a b)) := by
  refine krotor_within.ac (n0 := 0) (by simp) ⟨.val _,.val _,.val _,trivial⟩ trivial rfl ?_
  unfold crotor_within wI
  cases q1 : decide (a ≤ n) <;> cases q2 : decide (n ≤ b)
  all_goals
    (repeat' (first | apply aw_seq | ((first | apply aw_skip | apply aw_exit); try simp only [thenQ,blockQ,if_true,if_false,Nat.reduceEqDiff,reduceCtorEq]) | apply aw_ret | apply aw_block | apply aw_condT rfl | apply aw_condF rfl | ((first | refine aw_region ?_ | refine ago_if (by omega) ?_ | skip); simp (disch := first | exact okY | omega) only [ZU,dB,Bool.and_false,Nat.reduceMul,dI,Nat.reduceAdd,AOpRun,aexec,Nat.reduceBEq,↓eget_h,isSh,↓reduceIte,abin,ge_iff_le,q1,ARun_some,AG_ft,AG_tt,q2])))
    all_goals (refine end_q [] [] ?_ ?_ <;> repeat' (first | exact trivial | exact vr_val _))
theorem right1_ac (x : Int) (t : Tb) (lo hi : Int) : AC Tryz.prog 103 [dI x,.ptr 0 0] [(0,limC t lo hi)] [(0,some (limC t lo hi))] (dB (!wI x lo hi)) := by
  refine krotor_limits_right_S1.ac (n0 := 200) (by simp) ⟨.val _,.ptr _ _ (by omega),trivial⟩ ⟨⟨by omega,limC_in _ _ _ _⟩,trivial⟩ rfl ?_
  unfold crotor_limits_right_S1 limC
  (repeat' (first | (with_reducible first | refine thenQ_n ?_ | refine blockQ_n ?_ | refine thenQ_e ?_ | refine blockQ_t ?_ | refine blockQ_f (by decide) ?_) | apply aw_seq | apply aw_skip | apply aw_exit | apply aw_ret | apply aw_block | apply aw_condT rfl | apply aw_condF rfl | ((first | refine aw_hide fun K hK => aw_region ?_ | refine acall0 (roWithin_ac _ _ _) ?_ | refine ago_if (by omega) ?_ | skip); simp (disch := first | exact okY | omega) only [ZU,Nat.reduceMul,Nat.reduceAdd,dI,AOpRun,aexec,Nat.reduceBEq,↓eget_h,run1,dB]) | subst hK))
  all_goals (refine end_q [] [(0,0)] ?_ ?_ <;> repeat' (first | exact trivial | exact vr_val _ | exact vr_list _ | refine And.intro ⟨_,rfl,_,rfl,by decide,?_⟩ ?_ | apply And.intro))
def fnD : D := .fn 103 [] [.ptr 0 0]
theorem roIdx_ac (l : List Int) (t : Tb) (lo hi : Int) (hl : l.length ≤ 1000000) : AC Tryz.prog 109 [.list (ints l),fnD] [(0,limC t lo hi),(8,[fnD])] [(0,some (limC t lo hi)),(8,some [fnD])] (dI (match l.findIdx? (fun x => !wI x lo hi) with
    | some k => (k : Int)
    | none => -1)) := by
  refine kslices_IndexFunc_L_L_Jint_Kint_J.ac (n0 := 200) (by simp) ⟨.list _,.fn _ _ _ (by simp) (by intro d hd; simp at hd; subst hd; exact .ptr _ _ (by omega)),trivial⟩ ⟨⟨by omega,limC_in _ _ _ _⟩,⟨by omega,by intro d hd; simp at hd; subst hd; exact .fn _ _ _ (by simp) (by intro d hd; simp at hd; subst hd; exact .ptr _ _ (by omega))⟩,trivial⟩ rfl ?_
  have r1 := fun x => right1_ac x t lo hi
  unfold cslices_IndexFunc_L_L_Jint_Kint_J
  unfold limC fnD at *
  (repeat' (first | (with_reducible first | refine thenQ_n ?_ | refine blockQ_n ?_ | refine thenQ_e ?_ | refine blockQ_t ?_ | refine blockQ_f (by decide) ?_) | apply aw_seq | apply aw_skip | apply aw_exit | apply aw_ret | apply aw_block | apply aw_condT rfl | apply aw_condF rfl | ((first | refine aw_hide fun K hK => aw_region ?_ | refine ago_if (by omega) ?_ | skip); simp (disch := first | exact okY | omega) only [ZU,Nat.reduceMul,Nat.reduceAdd,dI,AOpRun,aexec,Nat.reduceBEq,↓eget_h,ints_len,Int.reduceNeg]) | subst hK))
  refine aw_loop (fun k : Nat => ⟨[(0,.list (ints l)),(1,.fn 103 [] [.ptr 0 0]),(7,dI l.length),(8,dI k)],[(0,[.list (ints t.x),.list (ints t.y),.list (rows t.v),dI lo,dI hi]),(8,[.fn 103 [] [.ptr 0 0]])],400⟩) (fun k => k ≤ l.length ∧ ∀ j,j < k → wI (l[j]?.getD 0) lo hi = true) (fun k => l.length - k) ⟨0,⟨by omega,fun j hj => by omega⟩,?_⟩ ?_
  · unfold dI
    refine wk_q [] [(0,0),(8,8)] ?_ ?_ <;> repeat' (first | exact trivial | exact vr_val _ | exact vr_list _ | exact vr_ptr _ _ _ rfl | apply vr_fn | refine And.intro ⟨_,rfl,.inl ⟨_,rfl,by decide,?_⟩⟩ ?_ | apply And.intro)
  rintro k ⟨hk,hin⟩
  by_cases hk2 : k < l.length
  · have g1 := ints_gd l k hk2
    cases he : wI (l[k]?.getD 0) lo hi with
    | false =>
      have q : l.findIdx? (fun x => !wI x lo hi) = some k := by
        rw [List.findIdx?_eq_some_iff_getElem]
        refine ⟨hk2,by have := he; simp [hk2] at this; simp [this],fun j hj => ?_⟩
        have := hin j hj
        simpa [show j < l.length by omega] using this
      rw [q]
      (have hg : (987654321 : Nat) - 987654321 = 0 := rfl; have hr := hg; repeat' (first | (with_reducible first | refine thenQ_n ?_ | refine blockQ_n ?_ | refine thenQ_e ?_ | refine blockQ_t ?_ | refine blockQ_f (by decide) ?_) | apply aw_seq | apply aw_skip | apply aw_exit | apply aw_ret | apply aw_block | apply aw_condT rfl | apply aw_condF rfl | (refine aw_cond rfl (fun hg => ?_) (fun hg => ?_) <;> (try (have hq := hg; simp only [Bool.not_eq_true',Bool.not_eq_false',Bool.and_eq_true,Bool.and_eq_false_iff,Bool.or_eq_true,Bool.or_eq_false_iff,decide_eq_true_eq,decide_eq_false_iff_not,bne_iff_ne,beq_iff_eq,beq_eq_false_iff_ne,bne_eq_false_iff_eq,ne_eq,Int.not_lt,Int.not_le,Decidable.not_not] at hq)) <;> (try (have hr := hg; simp only [decide_eq_true_eq,decide_eq_false_iff_not] at hr)) <;> (try (exfalso; omega))) | ((first | refine aw_hide fun K hK => aw_region ?_ | refine acallB (r1 _) (by repeat' (first | exact trivial | exact rfl | refine And.intro ?_ ?_)) (by kernel_rfl) (by kernel_rfl) (by kernel_rfl) ?_ | refine ago_if (by omega) ?_ | skip); simp (disch := first | exact okY | omega) only [ZU,Nat.reduceMul,Nat.reduceAdd,dI,AOpRun,aexec,Nat.reduceBEq,↓eget_h,isSh,↓reduceIte,abin,hr,ints_all,opt1,g1,run1,dB,he,blockQ]) | subst hK))
      all_goals (refine end_q [] [(0,0),(8,8)] ?_ ?_ <;> repeat' (first | exact trivial | exact vr_val _ | exact vr_list _ | exact vr_ptr _ _ _ rfl | apply vr_fn | refine And.intro ⟨_,rfl,_,rfl,by decide,?_⟩ ?_ | apply And.intro))
    | true =>
      (have hg : (987654321 : Nat) - 987654321 = 0 := rfl; have hr := hg; repeat' (first | (with_reducible first | refine thenQ_n ?_ | refine blockQ_n ?_ | refine thenQ_e ?_ | refine blockQ_t ?_ | refine blockQ_f (by decide) ?_) | apply aw_seq | apply aw_skip | apply aw_exit | apply aw_ret | apply aw_block | apply aw_condT rfl | apply aw_condF rfl | (refine aw_cond rfl (fun hg => ?_) (fun hg => ?_) <;> (try (have hq := hg; simp only [Bool.not_eq_true',Bool.not_eq_false',Bool.and_eq_true,Bool.and_eq_false_iff,Bool.or_eq_true,Bool.or_eq_false_iff,decide_eq_true_eq,decide_eq_false_iff_not,bne_iff_ne,beq_iff_eq,beq_eq_false_iff_ne,bne_eq_false_iff_eq,ne_eq,Int.not_lt,Int.not_le,Decidable.not_not] at hq)) <;> (try (have hr := hg; simp only [decide_eq_true_eq,decide_eq_false_iff_not] at hr)) <;> (try (exfalso; omega))) | ((first | refine aw_hide fun K hK => aw_region ?_ | refine acallB (r1 _) (by repeat' (first | exact trivial | exact rfl | refine And.intro ?_ ?_)) (by kernel_rfl) (by kernel_rfl) (by kernel_rfl) ?_ | refine ago_if (by omega) ?_ | skip); simp (disch := first | exact okY | omega) only [ZU,Nat.reduceMul,Nat.reduceAdd,dI,AOpRun,aexec,Nat.reduceBEq,↓eget_h,isSh,↓reduceIte,abin,hr,ints_all,opt1,g1,run1,dB,he,fits]) | subst hK))
      refine ⟨k + 1,⟨by omega,fun j hj => ?_⟩,by omega,?_⟩
      · rcases (by omega : j < k ∨ j = k) with h | rfl
        · exact hin j h
        · exact he
      · refine wk_q [] [(0,0),(8,8)] ?_ ?_ <;> repeat' (first | exact trivial | exact vr_val _ | exact vr_list _ | exact vr_ptr _ _ _ rfl | apply vr_fn | refine And.intro ⟨_,rfl,.inl ⟨_,rfl,by decide,?_⟩⟩ ?_ | apply And.intro)
  · obtain rfl : k = l.length := by omega
    have q : l.findIdx? (fun x => !wI x lo hi) = none := by
      rw [List.findIdx?_eq_none_iff]
      intro y hy
      obtain ⟨j,hj,rfl⟩ := List.getElem_of_mem hy
      have := hin j hj
      simp [hj] at this
      simp [this]
    rw [q]
    (have hg : (987654321 : Nat) - 987654321 = 0 := rfl; have hr := hg; repeat' (first | (with_reducible first | refine thenQ_n ?_ | refine blockQ_n ?_ | refine thenQ_e ?_ | refine blockQ_t ?_ | refine blockQ_f (by decide) ?_) | apply aw_seq | apply aw_skip | apply aw_exit | apply aw_ret | apply aw_block | apply aw_condT rfl | apply aw_condF rfl | (refine aw_cond rfl (fun hg => ?_) (fun hg => ?_) <;> (try (have hq := hg; simp only [Bool.not_eq_true',Bool.not_eq_false',Bool.and_eq_true,Bool.and_eq_false_iff,Bool.or_eq_true,Bool.or_eq_false_iff,decide_eq_true_eq,decide_eq_false_iff_not,bne_iff_ne,beq_iff_eq,beq_eq_false_iff_ne,bne_eq_false_iff_eq,ne_eq,Int.not_lt,Int.not_le,Decidable.not_not] at hq)) <;> (try (have hr := hg; simp only [decide_eq_true_eq,decide_eq_false_iff_not] at hr)) <;> (try (exfalso; omega))) | ((first | refine aw_hide fun K hK => aw_region ?_ | refine ago_if (by omega) ?_ | skip); simp (disch := first | exact okY | omega) only [ZU,Nat.reduceMul,Nat.reduceAdd,dI,AOpRun,aexec,Nat.reduceBEq,↓eget_h,isSh,↓reduceIte,abin,Int.reduceNeg,hr,decide_false]) | subst hK))
    all_goals (refine end_q [] [(0,0),(8,8)] ?_ ?_ <;> repeat' (first | exact trivial | exact vr_val _ | exact vr_list _ | exact vr_ptr _ _ _ rfl | apply vr_fn | refine And.intro ⟨_,rfl,_,rfl,by decide,?_⟩ ?_ | apply And.intro))
theorem fnD_in (S : Nat → Prop) (h : S 0) : In S fnD := .fn _ _ _ (by simp) (by intro d hd; simp at hd; subst hd; exact .ptr _ _ h)
theorem roCont_ac (l : List Int) (t : Tb) (lo hi : Int) (hl : l.length ≤ 1000000) : AC Tryz.prog 83 [.list (ints l),fnD] [(0,limC t lo hi),(8,[fnD])] [(0,some (limC t lo hi)),(8,some [fnD])] (dB (!allI l lo hi)) := by
  refine kslices_ContainsFunc_L_L_Jint_Kint_J.ac (n0 := 200) (by simp) ⟨.list _,fnD_in _ (by omega),trivial⟩ ⟨⟨by omega,limC_in _ _ _ _⟩,⟨by omega,by intro d hd; simp at hd; subst hd; exact fnD_in _ (by omega)⟩,trivial⟩ rfl ?_
  unfold cslices_ContainsFunc_L_L_Jint_Kint_J
  have hf := roIdx_ac l t lo hi hl
  unfold limC fnD at *
  cases h : l.findIdx? (fun x => !wI x lo hi) with
  | none =>
    have ha : allI l lo hi = true := by
      rw [List.findIdx?_eq_none_iff] at h
      refine List.all_eq_true.2 fun x hx => ?_
      have := h x hx
      simpa using this
    rw [h] at hf
    rw [ha]
    (repeat' (first | (with_reducible first | refine thenQ_n ?_ | refine blockQ_n ?_ | refine thenQ_e ?_ | refine blockQ_t ?_ | refine blockQ_f (by decide) ?_) | apply aw_seq | apply aw_skip | apply aw_exit | apply aw_ret | apply aw_block | apply aw_condT rfl | apply aw_condF rfl | ((first | refine aw_hide fun K hK => aw_region ?_ | refine acallB (hf) (by repeat' (first | exact trivial | exact rfl | refine And.intro ?_ ?_)) (by kernel_rfl) (by kernel_rfl) (by kernel_rfl) ?_ | refine ago_if (by omega) ?_ | skip); simp (disch := first | exact okY | omega) only [ZU,Nat.reduceMul,Nat.reduceAdd,dI,AOpRun,aexec,Nat.reduceBEq,↓eget_h,Int.reduceNeg,isSh,↓reduceIte,abin,dB]) | subst hK))
    all_goals (refine end_q [] [(0,0),(8,8)] ?_ ?_ <;> repeat' (first | exact trivial | exact vr_val _ | exact vr_list _ | exact vr_ptr _ _ _ rfl | apply vr_fn | refine And.intro ⟨_,rfl,_,rfl,by decide,?_⟩ ?_ | apply And.intro))
  | some k =>
    have ha : allI l lo hi = false := by
      rw [List.findIdx?_eq_some_iff_getElem] at h
      obtain ⟨hk,he,_⟩ := h
      refine List.all_eq_false.2 ⟨l[k],List.getElem_mem hk,by simpa using he⟩
    rw [h] at hf
    rw [ha]
    have q : decide ((k : Int) ≥ 0) = true := decide_eq_true (by omega)
    (repeat' (first | (with_reducible first | refine thenQ_n ?_ | refine blockQ_n ?_ | refine thenQ_e ?_ | refine blockQ_t ?_ | refine blockQ_f (by decide) ?_) | apply aw_seq | apply aw_skip | apply aw_exit | apply aw_ret | apply aw_block | apply aw_condT rfl | apply aw_condF rfl | ((first | refine aw_hide fun K hK => aw_region ?_ | refine acallB (hf) (by repeat' (first | exact trivial | exact rfl | refine And.intro ?_ ?_)) (by kernel_rfl) (by kernel_rfl) (by kernel_rfl) ?_ | refine ago_if (by omega) ?_ | skip); simp (disch := first | exact okY | omega) only [ZU,Nat.reduceMul,Nat.reduceAdd,dI,AOpRun,aexec,Nat.reduceBEq,↓eget_h,isSh,↓reduceIte,abin,dB]) | subst hK))
    all_goals (refine end_q [] [(0,0),(8,8)] ?_ ?_ <;> repeat' (first | exact trivial | exact vr_val _ | exact vr_list _ | exact vr_ptr _ _ _ rfl | apply vr_fn | refine And.intro ⟨_,rfl,_,rfl,by decide,?_⟩ ?_ | apply And.intro))
theorem right2_ac (l : List Int) (t : Tb) (lo hi : Int) (hl : l.length ≤ 1000000) : AC Tryz.prog 104 [.list (ints l),.ptr 8 0] [(0,limC t lo hi),(8,[fnD])] [(0,some (limC t lo hi)),(8,some [fnD])] (dB (!allI l lo hi)) := by
  refine krotor_limits_right_S2.ac (n0 := 200) (by simp) ⟨.list _,.ptr _ _ (by omega),trivial⟩ ⟨⟨by omega,limC_in _ _ _ _⟩,⟨by omega,by intro d hd; simp at hd; subst hd; exact fnD_in _ (by omega)⟩,trivial⟩ rfl ?_
  unfold crotor_limits_right_S2
  have hf := roCont_ac l t lo hi hl
  unfold limC fnD at *
  (repeat' (first | (with_reducible first | refine thenQ_n ?_ | refine blockQ_n ?_ | refine thenQ_e ?_ | refine blockQ_t ?_ | refine blockQ_f (by decide) ?_) | apply aw_seq | apply aw_skip | apply aw_exit | apply aw_ret | apply aw_block | apply aw_condT rfl | apply aw_condF rfl | ((first | refine aw_hide fun K hK => aw_region ?_ | refine acallB (hf) (by repeat' (first | exact trivial | exact rfl | refine And.intro ?_ ?_)) (by kernel_rfl) (by kernel_rfl) (by kernel_rfl) ?_ | refine ago_if (by omega) ?_ | skip); simp (disch := first | exact okY | omega) only [ZU,Nat.reduceMul,Nat.reduceAdd,dI,AOpRun,aexec,Nat.reduceBEq,↓eget_h,run1,↓hget_h,dB]) | subst hK))
  all_goals (refine end_q [] [(0,0),(8,8)] ?_ ?_ <;> repeat' (first | exact trivial | exact vr_val _ | exact vr_list _ | exact vr_ptr _ _ _ rfl | apply vr_fn | refine And.intro ⟨_,rfl,_,rfl,by decide,?_⟩ ?_ | apply And.intro))
theorem roIdx2_ac (vs : List (List Int)) (t : Tb) (lo hi : Int) (hl : vs.length ≤ 1000000) (hr : ∀ k : Nat,(vs[k]?.getD []).length ≤ 1000000) : AC Tryz.prog 110 [.list (rows vs),.fn 104 [] [.ptr 8 0]] [(0,limC t lo hi),(8,[fnD])] [(0,some (limC t lo hi)),(8,some [fnD])] (dI (match vs.findIdx? (fun r => !allI r lo hi) with
    | some k => (k : Int)
    | none => -1)) := by
  refine kslices_IndexFunc_L_L_J_L_Jint_K_L_Jint_J.ac (n0 := 200) (by simp) ⟨.list _,.fn _ _ _ (by simp) (by intro d hd; simp at hd; subst hd; exact .ptr _ _ (by omega)),trivial⟩ ⟨⟨by omega,limC_in _ _ _ _⟩,⟨by omega,by intro d hd; simp at hd; subst hd; exact fnD_in _ (by omega)⟩,trivial⟩ rfl ?_
  have r1 := fun k => right2_ac (vs[k]?.getD []) t lo hi (hr k)
  unfold cslices_IndexFunc_L_L_J_L_Jint_K_L_Jint_J
  unfold limC fnD at *
  (repeat' (first | (with_reducible first | refine thenQ_n ?_ | refine blockQ_n ?_ | refine thenQ_e ?_ | refine blockQ_t ?_ | refine blockQ_f (by decide) ?_) | apply aw_seq | apply aw_skip | apply aw_exit | apply aw_ret | apply aw_block | apply aw_condT rfl | apply aw_condF rfl | ((first | refine aw_hide fun K hK => aw_region ?_ | refine ago_if (by omega) ?_ | skip); simp (disch := first | exact okY | omega) only [ZU,Nat.reduceMul,Nat.reduceAdd,dI,AOpRun,aexec,Nat.reduceBEq,↓eget_h,rows_len,Int.reduceNeg]) | subst hK))
  refine aw_loop (fun k : Nat => ⟨[(0,.list (rows vs)),(1,.fn 104 [] [.ptr 8 0]),(7,dI vs.length),(8,dI k)],[(0,[.list (ints t.x),.list (ints t.y),.list (rows t.v),dI lo,dI hi]),(8,[.fn 103 [] [.ptr 0 0]])],400⟩) (fun k => k ≤ vs.length ∧ ∀ j,j < k → allI (vs[j]?.getD []) lo hi = true) (fun k => vs.length - k) ⟨0,⟨by omega,fun j hj => by omega⟩,?_⟩ ?_
  · unfold dI
    refine wk_q [] [(0,0),(8,8)] ?_ ?_ <;> repeat' (first | exact trivial | exact vr_val _ | exact vr_list _ | exact vr_ptr _ _ _ rfl | apply vr_fn | refine And.intro ⟨_,rfl,.inl ⟨_,rfl,by decide,?_⟩⟩ ?_ | apply And.intro)
  rintro k ⟨hk,hin⟩
  by_cases hk2 : k < vs.length
  · have g1 := rows_gd vs k hk2
    have rk := r1 k
    cases he : allI (vs[k]?.getD []) lo hi with
    | false =>
      rw [he] at rk
      have q : vs.findIdx? (fun r => !allI r lo hi) = some k := by
        rw [List.findIdx?_eq_some_iff_getElem]
        refine ⟨hk2,by have := he; simp [hk2] at this; simp [this],fun j hj => ?_⟩
        have := hin j hj
        simpa [show j < vs.length by omega] using this
      rw [q]
      generalize vs[k]?.getD [] = row at *
      (have hg : (987654321 : Nat) - 987654321 = 0 := rfl; have hr := hg; repeat' (first | (with_reducible first | refine thenQ_n ?_ | refine blockQ_n ?_ | refine thenQ_e ?_ | refine blockQ_t ?_ | refine blockQ_f (by decide) ?_) | apply aw_seq | apply aw_skip | apply aw_exit | apply aw_ret | apply aw_block | apply aw_condT rfl | apply aw_condF rfl | (refine aw_cond rfl (fun hg => ?_) (fun hg => ?_) <;> (try (have hq := hg; simp only [Bool.not_eq_true',Bool.not_eq_false',Bool.and_eq_true,Bool.and_eq_false_iff,Bool.or_eq_true,Bool.or_eq_false_iff,decide_eq_true_eq,decide_eq_false_iff_not,bne_iff_ne,beq_iff_eq,beq_eq_false_iff_ne,bne_eq_false_iff_eq,ne_eq,Int.not_lt,Int.not_le,Decidable.not_not] at hq)) <;> (try (have hr := hg; simp only [decide_eq_true_eq,decide_eq_false_iff_not] at hr)) <;> (try (exfalso; omega))) | ((first | refine aw_hide fun K hK => aw_region ?_ | refine acallB (rk) (by repeat' (first | exact trivial | exact rfl | refine And.intro ?_ ?_)) (by kernel_rfl) (by kernel_rfl) (by kernel_rfl) ?_ | refine ago_if (by omega) ?_ | skip); simp (disch := first | exact okY | omega) only [ZU,Nat.reduceMul,Nat.reduceAdd,dI,AOpRun,aexec,Nat.reduceBEq,↓eget_h,isSh,↓reduceIte,abin,hr,rows_all,opt1,g1,run1,dB,blockQ]) | subst hK))
      all_goals (refine end_q [] [(0,0),(8,8)] ?_ ?_ <;> repeat' (first | exact trivial | exact vr_val _ | exact vr_list _ | exact vr_ptr _ _ _ rfl | apply vr_fn | refine And.intro ⟨_,rfl,_,rfl,by decide,?_⟩ ?_ | apply And.intro))
    | true =>
      rw [he] at rk
      have hstep : ∀ j,j < k + 1 → allI (vs[j]?.getD []) lo hi = true := fun j hj => by
        rcases (by omega : j < k ∨ j = k) with h | rfl
        · exact hin j h
        · exact he
      generalize vs[k]?.getD [] = row at *
      (have hg : (987654321 : Nat) - 987654321 = 0 := rfl; have hr := hg; repeat' (first | (with_reducible first | refine thenQ_n ?_ | refine blockQ_n ?_ | refine thenQ_e ?_ | refine blockQ_t ?_ | refine blockQ_f (by decide) ?_) | apply aw_seq | apply aw_skip | apply aw_exit | apply aw_ret | apply aw_block | apply aw_condT rfl | apply aw_condF rfl | (refine aw_cond rfl (fun hg => ?_) (fun hg => ?_) <;> (try (have hq := hg; simp only [Bool.not_eq_true',Bool.not_eq_false',Bool.and_eq_true,Bool.and_eq_false_iff,Bool.or_eq_true,Bool.or_eq_false_iff,decide_eq_true_eq,decide_eq_false_iff_not,bne_iff_ne,beq_iff_eq,beq_eq_false_iff_ne,bne_eq_false_iff_eq,ne_eq,Int.not_lt,Int.not_le,Decidable.not_not] at hq)) <;> (try (have hr := hg; simp only [decide_eq_true_eq,decide_eq_false_iff_not] at hr)) <;> (try (exfalso; omega))) | ((first | refine aw_hide fun K hK => aw_region ?_ | refine acallB (rk) (by repeat' (first | exact trivial | exact rfl | refine And.intro ?_ ?_)) (by kernel_rfl) (by kernel_rfl) (by kernel_rfl) ?_ | refine ago_if (by omega) ?_ | skip); simp (disch := first | exact okY | omega) only [ZU,Nat.reduceMul,Nat.reduceAdd,dI,AOpRun,aexec,Nat.reduceBEq,↓eget_h,isSh,↓reduceIte,abin,hr,rows_all,opt1,g1,run1,dB,fits]) | subst hK))
      refine ⟨k + 1,⟨by omega,hstep⟩,by omega,?_⟩
      refine wk_q [] [(0,0),(8,8)] ?_ ?_ <;> repeat' (first | exact trivial | exact vr_val _ | exact vr_list _ | exact vr_ptr _ _ _ rfl | apply vr_fn | refine And.intro ⟨_,rfl,.inl ⟨_,rfl,by decide,?_⟩⟩ ?_ | apply And.intro)
  · obtain rfl : k = vs.length := by omega
    have q : vs.findIdx? (fun r => !allI r lo hi) = none := by
      rw [List.findIdx?_eq_none_iff]
      intro y hy
      obtain ⟨j,hj,rfl⟩ := List.getElem_of_mem hy
      have := hin j hj
      simp [hj] at this
      simp [this]
    rw [q]
    (have hg : (987654321 : Nat) - 987654321 = 0 := rfl; have hr := hg; repeat' (first | (with_reducible first | refine thenQ_n ?_ | refine blockQ_n ?_ | refine thenQ_e ?_ | refine blockQ_t ?_ | refine blockQ_f (by decide) ?_) | apply aw_seq | apply aw_skip | apply aw_exit | apply aw_ret | apply aw_block | apply aw_condT rfl | apply aw_condF rfl | (refine aw_cond rfl (fun hg => ?_) (fun hg => ?_) <;> (try (have hq := hg; simp only [Bool.not_eq_true',Bool.not_eq_false',Bool.and_eq_true,Bool.and_eq_false_iff,Bool.or_eq_true,Bool.or_eq_false_iff,decide_eq_true_eq,decide_eq_false_iff_not,bne_iff_ne,beq_iff_eq,beq_eq_false_iff_ne,bne_eq_false_iff_eq,ne_eq,Int.not_lt,Int.not_le,Decidable.not_not] at hq)) <;> (try (have hr := hg; simp only [decide_eq_true_eq,decide_eq_false_iff_not] at hr)) <;> (try (exfalso; omega))) | ((first | refine aw_hide fun K hK => aw_region ?_ | refine ago_if (by omega) ?_ | skip); simp (disch := first | exact okY | omega) only [ZU,Nat.reduceMul,Nat.reduceAdd,dI,AOpRun,aexec,Nat.reduceBEq,↓eget_h,isSh,↓reduceIte,abin,Int.reduceNeg,hr,decide_false]) | subst hK))
    all_goals (refine end_q [] [(0,0),(8,8)] ?_ ?_ <;> repeat' (first | exact trivial | exact vr_val _ | exact vr_list _ | exact vr_ptr _ _ _ rfl | apply vr_fn | refine And.intro ⟨_,rfl,_,rfl,by decide,?_⟩ ?_ | apply And.intro))
theorem roCont2_ac (vs : List (List Int)) (t : Tb) (lo hi : Int) (hl : vs.length ≤ 1000000) (hr : ∀ k : Nat,(vs[k]?.getD []).length ≤ 1000000) : AC Tryz.prog 85 [.list (rows vs),.fn 104 [] [.ptr 8 0]] [(0,limC t lo hi),(8,[fnD])] [(0,some (limC t lo hi)),(8,some [fnD])] (dB (!(vs.all fun r => allI r lo hi))) := by
  refine kslices_ContainsFunc_L_L_J_L_Jint_K_L_Jint_J.ac (n0 := 200) (by simp) ⟨.list _,.fn _ _ _ (by simp) (by intro d hd; simp at hd; subst hd; exact .ptr _ _ (by omega)),trivial⟩ ⟨⟨by omega,limC_in _ _ _ _⟩,⟨by omega,by intro d hd; simp at hd; subst hd; exact fnD_in _ (by omega)⟩,trivial⟩ rfl ?_
  unfold cslices_ContainsFunc_L_L_J_L_Jint_K_L_Jint_J
  have hf := roIdx2_ac vs t lo hi hl hr
  unfold limC fnD at *
  cases h : vs.findIdx? (fun r => !allI r lo hi) with
  | none =>
    have ha : (vs.all fun r => allI r lo hi) = true := by
      rw [List.findIdx?_eq_none_iff] at h
      refine List.all_eq_true.2 fun x hx => ?_
      have := h x hx
      simpa using this
    rw [h] at hf
    rw [ha]
    (repeat' (first | (with_reducible first | refine thenQ_n ?_ | refine blockQ_n ?_ | refine thenQ_e ?_ | refine blockQ_t ?_ | refine blockQ_f (by decide) ?_) | apply aw_seq | apply aw_skip | apply aw_exit | apply aw_ret | apply aw_block | apply aw_condT rfl | apply aw_condF rfl | ((first | refine aw_hide fun K hK => aw_region ?_ | refine acallB (hf) (by repeat' (first | exact trivial | exact rfl | refine And.intro ?_ ?_)) (by kernel_rfl) (by kernel_rfl) (by kernel_rfl) ?_ | refine ago_if (by omega) ?_ | skip); simp (disch := first | exact okY | omega) only [ZU,Nat.reduceMul,Nat.reduceAdd,dI,AOpRun,aexec,Nat.reduceBEq,↓eget_h,Int.reduceNeg,isSh,↓reduceIte,abin,dB]) | subst hK))
    all_goals (refine end_q [] [(0,0),(8,8)] ?_ ?_ <;> repeat' (first | exact trivial | exact vr_val _ | exact vr_list _ | exact vr_ptr _ _ _ rfl | apply vr_fn | refine And.intro ⟨_,rfl,_,rfl,by decide,?_⟩ ?_ | apply And.intro))
  | some k =>
    have ha : (vs.all fun r => allI r lo hi) = false := by
      rw [List.findIdx?_eq_some_iff_getElem] at h
      obtain ⟨hk,he,_⟩ := h
      refine List.all_eq_false.2 ⟨vs[k],List.getElem_mem hk,by simpa using he⟩
    rw [h] at hf
    rw [ha]
    have q : decide ((k : Int) ≥ 0) = true := decide_eq_true (by omega)
    (repeat' (first | (with_reducible first | refine thenQ_n ?_ | refine blockQ_n ?_ | refine thenQ_e ?_ | refine blockQ_t ?_ | refine blockQ_f (by decide) ?_) | apply aw_seq | apply aw_skip | apply aw_exit | apply aw_ret | apply aw_block | apply aw_condT rfl | apply aw_condF rfl | ((first | refine aw_hide fun K hK => aw_region ?_ | refine acallB (hf) (by repeat' (first | exact trivial | exact rfl | refine And.intro ?_ ?_)) (by kernel_rfl) (by kernel_rfl) (by kernel_rfl) ?_ | refine ago_if (by omega) ?_ | skip); simp (disch := first | exact okY | omega) only [ZU,Nat.reduceMul,Nat.reduceAdd,dI,AOpRun,aexec,Nat.reduceBEq,↓eget_h,isSh,↓reduceIte,abin,dB]) | subst hK))
    all_goals (refine end_q [] [(0,0),(8,8)] ?_ ?_ <;> repeat' (first | exact trivial | exact vr_val _ | exact vr_list _ | exact vr_ptr _ _ _ rfl | apply vr_fn | refine And.intro ⟨_,rfl,_,rfl,by decide,?_⟩ ?_ | apply And.intro))
theorem right_ac (t : Tb) (lo hi : Int) (hs : TbSm t) : AC Tryz.prog 70 [.agg (limC t lo hi)] [] [] (dB (limB t lo hi)) := by
  refine krotor_limits_right.ac (n0 := 0) (by simp) ⟨.agg _ (limC_in _ _ _ _),trivial⟩ trivial rfl ?_
  have ct := checkT_ac hs.sz
  have cc := roCont2_ac t.v t lo hi (by have := hs.2.2.1; omega) (fun k => by have := hs.row k; omega)
  unfold crotor_limits_right limB
  unfold tabD at ct
  unfold limC fnD at *
  refine aw_seq (aw_region ?_)
  simp (disch := first | exact okY | omega) only [ZU,dB,Nat.reduceAdd,Nat.reduceMul,dI,AOpRun,aexec,D.isBot,↓eget_h,or_self,↓reduceIte,D.cells,Nat.reduceBEq]
  refine aw_seq (aw_region ?_)
  simp (disch := first | exact okY | omega) only [ZU,Nat.reduceAdd,Nat.reduceMul,AOpRun,aexec,Nat.reduceBEq,↓eget_h,↓reduceIte,↓hget_h,D.isBot,D.cells,Nat.reduceLeDiff,List.all,D.leaf,splice,List.take,List.drop]
  refine aw_wk (s' := ⟨[(1,.ptr 0 0),(3,.ptr 8 0)],[(0,[.list (ints t.x),.list (ints t.y),.list (rows t.v),dI lo,dI hi]),(8,[.fn 103 [] [.ptr 0 0]])],400⟩) ?_ ?_
  · unfold dI
    refine wk_q [] [(0,0),(8,24)] ?_ ?_ <;> repeat' (first | exact trivial | exact vr_val _ | exact vr_list _ | exact vr_ptr _ _ _ rfl | apply vr_fn | refine And.intro ⟨_,rfl,.inl ⟨_,rfl,by decide,?_⟩⟩ ?_ | apply And.intro)
  by_cases he : tabErr t.x t.y t.v = 0
  · rw [he] at ct
    rw [decide_eq_true he,Bool.true_and]
    cases hv : (t.v.all fun r => allI r lo hi)
    all_goals
      rw [hv] at cc
      (repeat' (first | (with_reducible first | refine thenQ_n ?_ | refine blockQ_n ?_ | refine thenQ_e ?_ | refine blockQ_t ?_ | refine blockQ_f (by decide) ?_) | apply aw_seq | apply aw_skip | apply aw_exit | apply aw_ret | apply aw_block | apply aw_condT rfl | apply aw_condF rfl | ((first | refine aw_hide fun K hK => aw_region ?_ | refine acall0 (ct) ?_ | refine acallB (cc) (by repeat' (first | exact trivial | exact rfl | refine And.intro ?_ ?_)) (by kernel_rfl) (by kernel_rfl) (by kernel_rfl) ?_ | refine ago_if (by omega) ?_ | skip); simp (disch := first | exact okY | omega) only [ZU,Nat.reduceAdd,Nat.reduceMul,dI,AOpRun,aexec,↓eget_h,Nat.reduceBEq,Nat.reduceLeDiff,↓reduceIte,List.drop,List.take,isSh,abin,ARun_some,AG_tt,run1,dB]) | subst hK))
      all_goals (refine end_q [] [] ?_ ?_ <;> repeat' (first | exact trivial | exact vr_val _))
  · rw [decide_eq_false he,Bool.false_and]
    have q : (tabErr t.x t.y t.v == 0) = false := by simpa using he
    generalize tabErr t.x t.y t.v = E at *
    (repeat' (first | (with_reducible first | refine thenQ_n ?_ | refine blockQ_n ?_ | refine thenQ_e ?_ | refine blockQ_t ?_ | refine blockQ_f (by decide) ?_) | apply aw_seq | apply aw_skip | apply aw_exit | apply aw_ret | apply aw_block | apply aw_condT rfl | apply aw_condF rfl | ((first | refine aw_hide fun K hK => aw_region ?_ | refine acall0 (ct) ?_ | refine ago_if (by omega) ?_ | skip); simp (disch := first | exact okY | omega) only [ZU,Nat.reduceAdd,Nat.reduceMul,dI,AOpRun,aexec,↓eget_h,Nat.reduceBEq,Nat.reduceLeDiff,↓reduceIte,List.drop,List.take,isSh,abin,q,ARun_some,AG_ft]) | subst hK))
    all_goals (refine end_q [] [] ?_ ?_ <;> repeat' (first | exact trivial | exact vr_val _))
end Go.Proofs.YtbncpngjclabhaaGreat
/- The functions' bodies, translated. Written by a program; no conditions. -/
namespace Go.Proofs.YtbncpngjclabhaaGreat
open Go.RowKit Lift

def crotor_check : ACode :=
 (.seq
 (.region false [oo 4 (.box (.tmp 0)),
 oo 5 (.box (.tmp 1)),
 oo 8 (.mv (kI 0))] [])
 (.seq
 (.seq
 (.region false [oo 12 (.loadN 26 (.tmp 4)),
 oo 13 (.call (.func 43) [(.tmp 12)]),
 om 9 13] [12,13])
 (.seq
 (.region false [om 14 9,
 oo 15 (.bin .neq (.tmp 14) (kI 0))] [14])
 (.cond (.tmp 15)
 (.seq
 (.region false [om 16 9,
 om 8 16] [16])
 .ret)
 .skip)))
 (.seq
 (.seq
 (.region false [oo 17 (.fad 0 (.tmp 5)),
 oo 18 (.loadN 2 (.tmp 17)),
 oo 19 (.fad 2 (.tmp 5)),
 oo 20 (.loadN 2 (.tmp 19)),
 oo 21 (.fad 4 (.tmp 5)),
 oo 22 (.loadN 2 (.tmp 21)),
 oo 23 (.fad 6 (.tmp 5)),
 oo 24 (.loadN 2 (.tmp 23)),
 oo 25 (.buildSl 2 4 [(.val (.int .i64 0)),(.val (.int .i64 0)),(.val (.int .i64 0)),(.val (.int .i64 0)),(.val (.int .i64 0)),(.val (.int .i64 0)),(.val (.int .i64 0)),(.val (.int .i64 0))] [(0,2,(.tmp 18)),(2,2,(.tmp 20)),(4,2,(.tmp 22)),(6,2,(.tmp 24))]),
 oo 26 (.len_ (.tmp 25)),
 oo 27 (.mv (kI 0))] [17,18,19,20,21,22,23,24])
 (.block 0
 (.loop
 (.seq
 (.region false [oo 28 (.bin .lss (.tmp 27) (.tmp 26))] [])
 (.seq
 (.cond (.tmp 28)
 .skip
 (.exit 0))
 (.seq
 (.block 1
 (.seq
 (.region false [oo 29 (.iadS 2 (.tmp 25) (.tmp 27)),
 oo 30 (.loadN 2 (.tmp 29)),
 oo 11 (.mem [(.val (.int .i64 0)),(.val (.int .i64 0))]),
 on (.store 2 (.tmp 11) (.tmp 30))] [29,30])
 (.seq
 (.region false [oo 31 (.loadN 2 (.tmp 11)),
 oo 32 (.call (.func 24) [(.tmp 31)]),
 oo 33 (.un .not (.tmp 32))] [31,32])
 (.cond (.tmp 33)
 (.seq
 (.region false [oo 8 (.mv (kI 21))] [])
 .ret)
 .skip))))
 (.region false [oo 34 (.bin .add (.tmp 27) (kI 1)),
 om 27 34] [34])))))))
 (.seq
 (.seq
 (.region false [om 35 2,
 oo 36 (.call (.func 44) [(.tmp 35),(.func 45)]),
 om 37 36,
 og 38 37 false (.mv (.tmp 3)) [],
 og 39 37 false (.call (.tmp 38) []) [],
 og 40 37 false (.call (.func 46) [(.tmp 39),(.func 47)]) [],
 oo 41 (.pick (.tmp 37) (.const (.bool true)) (.tmp 40))] [35,36,37,38,39,40])
 (.cond (.tmp 41)
 (.seq
 (.region false [oo 8 (.mv (kI 1))] [])
 .ret)
 .skip))
 (.seq
 (.region false [oo 8 (.mv (kI 0))] [])
 .ret)))))
theorem krotor_check : IsCode Tryz.prog 19 42 crotor_check [.tmp 8] :=
 ⟨Tryz.f19,_,[41,33,28,15,0,1,4,9,5,27,26,25,11,2,3,8],Tryz.func19,rfl,by decide,rfl,by kernel_rfl,by kernel_rfl⟩
def crotor_checkLevel_S1 : ACode :=
 (.seq
 (.region false [oo 2 (.mv (.const (.slice none 0 0)))] [])
 (.seq
 (.region false [oo 3 (.loadN 34 (.tmp 0)),
 oo 4 (.loadN 2 (.tmp 1)),
 oo 5 (.call (.func 117) [(.tmp 3),(.tmp 4)]),
 oo 6 (.buildSl 7 1 [(.val (.slice none 0 0)),(.val (.slice none 0 0)),(.val (.slice none 0 0)),(.val (.int .i64 0)),(.val (.int .i64 0)),(.val (.int .i64 0)),(.val (.int .i64 0))] [(0,7,(.tmp 5))]),
 om 2 6] [3,4,5,6])
 .ret))
theorem krotor_checkLevel_S1 : IsCode Tryz.prog 125 7 crotor_checkLevel_S1 [.tmp 2] :=
 ⟨Tryz.f125,_,[0,1,2],Tryz.func125,rfl,by decide,rfl,by kernel_rfl,by kernel_rfl⟩
def crotor_checkLevel : ACode :=
 (.seq
 (.region false [oo 2 (.box (.tmp 0)),
 oo 3 (.box (.tmp 1)),
 oo 4 (.mv (kI 0))] [])
 (.seq
 (.region false [oo 5 (.fad 0 (.tmp 2)),
 oo 6 (.loadN 26 (.tmp 5)),
 oo 7 (.fad 26 (.tmp 2)),
 oo 8 (.loadN 8 (.tmp 7)),
 oo 9 (.loadN 2 (.tmp 3)),
 oo 10 (.buildSl 2 1 [(.val (.int .i64 0)),(.val (.int .i64 0))] [(0,2,(.tmp 9))]),
 oo 11 (.mkfn 125 [] [(.tmp 2),(.tmp 3)]),
 oo 12 (.call (.func 19) [(.tmp 6),(.tmp 8),(.tmp 10),(.tmp 11)]),
 om 4 12] [5,6,7,8,9,10,11,12])
 .ret))
theorem krotor_checkLevel : IsCode Tryz.prog 116 13 crotor_checkLevel [.tmp 4] :=
 ⟨Tryz.f116,_,[0,1,2,3,4],Tryz.func116,rfl,by decide,rfl,by kernel_rfl,by kernel_rfl⟩
def crotor_Level : ACode :=
 (.seq
 (.region false [oo 3 (.box (.tmp 0)),
 oo 4 (.box (.tmp 1)),
 oo 5 (.box (.tmp 2)),
 oo 6 (.mem [(.val (.int .i64 0)),(.val (.int .i64 0))]),
 oo 7 (.mv (kI 0))] [])
 (.seq
 (.region false [oo 10 (.loadN 26 (.tmp 3)),
 oo 11 (.loadN 8 (.tmp 4)),
 oo 12 (.build [(.val (.slice none 0 0)),(.val (.slice none 0 0)),(.val (.slice none 0 0)),(.val (.slice none 0 0)),(.val (.slice none 0 0)),(.val (.slice none 0 0)),(.val (.slice none 0 0)),(.val (.slice none 0 0)),(.val (.slice none 0 0)),(.val (.slice none 0 0)),(.val (.slice none 0 0)),(.val (.slice none 0 0)),(.val (.slice none 0 0)),(.val (.slice none 0 0)),(.val (.slice none 0 0)),(.val (.slice none 0 0)),(.val (.slice none 0 0)),(.val (.slice none 0 0)),(.val (.slice none 0 0)),(.val (.slice none 0 0)),(.val (.slice none 0 0)),(.val (.slice none 0 0)),(.val (.slice none 0 0)),(.val (.slice none 0 0)),(.val (.int .i64 0)),(.val (.int .i64 0)),(.val (.int .i64 0)),(.val (.int .i64 0)),(.val (.int .i64 0)),(.val (.int .i64 0)),(.val (.int .i64 0)),(.val (.int .i64 0)),(.val (.int .i64 0)),(.val (.int .i64 0))] [(0,26,(.tmp 10)),(26,8,(.tmp 11))]),
 oo 8 (.mem [(.val (.slice none 0 0)),(.val (.slice none 0 0)),(.val (.slice none 0 0)),(.val (.slice none 0 0)),(.val (.slice none 0 0)),(.val (.slice none 0 0)),(.val (.slice none 0 0)),(.val (.slice none 0 0)),(.val (.slice none 0 0)),(.val (.slice none 0 0)),(.val (.slice none 0 0)),(.val (.slice none 0 0)),(.val (.slice none 0 0)),(.val (.slice none 0 0)),(.val (.slice none 0 0)),(.val (.slice none 0 0)),(.val (.slice none 0 0)),(.val (.slice none 0 0)),(.val (.slice none 0 0)),(.val (.slice none 0 0)),(.val (.slice none 0 0)),(.val (.slice none 0 0)),(.val (.slice none 0 0)),(.val (.slice none 0 0)),(.val (.int .i64 0)),(.val (.int .i64 0)),(.val (.int .i64 0)),(.val (.int .i64 0)),(.val (.int .i64 0)),(.val (.int .i64 0)),(.val (.int .i64 0)),(.val (.int .i64 0)),(.val (.int .i64 0)),(.val (.int .i64 0))]),
 on (.store 34 (.tmp 8) (.tmp 12))] [10,11,12])
 (.seq
 (.seq
 (.region false [oo 13 (.loadN 34 (.tmp 8)),
 oo 14 (.loadN 2 (.tmp 5)),
 oo 15 (.call (.func 116) [(.tmp 13),(.tmp 14)]),
 om 9 15] [13,14,15])
 (.seq
 (.region false [om 16 9,
 oo 17 (.bin .neq (.tmp 16) (kI 0))] [16])
 (.cond (.tmp 17)
 (.seq
 (.region false [oo 18 (.build [(.val (.int .i64 0)),(.val (.int .i64 0))] []),
 om 19 9,
 on (.store 2 (.tmp 6) (.tmp 18)),
 om 7 19] [18,19])
 .ret)
 .skip)))
 (.seq
 (.region false [oo 20 (.loadN 34 (.tmp 8)),
 oo 21 (.loadN 2 (.tmp 5)),
 oo 22 (.call (.func 117) [(.tmp 20),(.tmp 21)]),
 oo 23 (.call (.func 49) [(.tmp 22)]),
 on (.store 2 (.tmp 6) (.tmp 23)),
 oo 7 (.mv (kI 0))] [20,21,22,23])
 .ret))))
theorem krotor_Level : IsCode Tryz.prog 96 24 crotor_Level [.cellN 6 2, .tmp 7] :=
 ⟨Tryz.f96,_,[17,0,1,2,3,4,8,5,9,6,7],Tryz.func96,rfl,by decide,rfl,by kernel_rfl,by kernel_rfl⟩
def claw02_Far : ACode :=
 (.seq
 (.region false [oo 1 (.box (.tmp 0)),
 oo 2 (.mv (.const (.bool false)))] [])
 (.seq
 (.region false [oo 3 (.fad 0 (.tmp 1)),
 oo 4 (.loadN 3 (.tmp 3)),
 oo 5 (.call (.func 27) [(.tmp 4)]),
 om 6 5,
 og 7 6 false (.fad 3 (.tmp 1)) [],
 og 8 6 false (.loadN 3 (.tmp 7)) [],
 og 9 6 false (.call (.func 27) [(.tmp 8)]) [],
 oo 10 (.pick (.tmp 6) (.const (.bool true)) (.tmp 9)),
 om 11 10,
 og 12 11 false (.fad 6 (.tmp 1)) [],
 og 13 11 false (.loadN 3 (.tmp 12)) [],
 og 14 11 false (.call (.func 27) [(.tmp 13)]) [],
 oo 15 (.pick (.tmp 11) (.const (.bool true)) (.tmp 14)),
 om 16 15,
 og 17 16 false (.fad 9 (.tmp 1)) [],
 og 18 16 false (.loadN 3 (.tmp 17)) [],
 og 19 16 false (.call (.func 27) [(.tmp 18)]) [],
 oo 20 (.pick (.tmp 16) (.const (.bool true)) (.tmp 19)),
 om 21 20,
 og 22 21 false (.fad 12 (.tmp 1)) [],
 og 23 21 false (.loadN 3 (.tmp 22)) [],
 og 24 21 false (.call (.func 27) [(.tmp 23)]) [],
 oo 25 (.pick (.tmp 21) (.const (.bool true)) (.tmp 24)),
 om 26 25,
 og 27 26 false (.fad 15 (.tmp 1)) [],
 og 28 26 false (.loadN 3 (.tmp 27)) [],
 og 29 26 false (.call (.func 27) [(.tmp 28)]) [],
 oo 30 (.pick (.tmp 26) (.const (.bool true)) (.tmp 29)),
 om 31 30,
 og 32 31 false (.fad 18 (.tmp 1)) [],
 og 33 31 false (.loadN 3 (.tmp 32)) [],
 og 34 31 false (.call (.func 27) [(.tmp 33)]) [],
 oo 35 (.pick (.tmp 31) (.const (.bool true)) (.tmp 34)),
 om 36 35,
 og 37 36 false (.fad 21 (.tmp 1)) [],
 og 38 36 false (.loadN 3 (.tmp 37)) [],
 og 39 36 false (.call (.func 27) [(.tmp 38)]) [],
 oo 40 (.pick (.tmp 36) (.const (.bool true)) (.tmp 39)),
 om 2 40] [3,4,5,6,7,8,9,10,11,12,13,14,15,16,17,18,19,20,21,22,23,24,25,26,27,28,29,30,31,32,33,34,35,36,37,38,39,40])
 .ret))
theorem klaw02_Far : IsCode Tryz.prog 10 41 claw02_Far [.tmp 2] :=
 ⟨Tryz.f10,_,[0,1,2],Tryz.func10,rfl,by decide,rfl,by kernel_rfl,by kernel_rfl⟩
def cref02_CheckAir : ACode :=
 (.seq
 (.region false [oo 2 (.box (.tmp 0)),
 oo 3 (.box (.tmp 1)),
 oo 4 (.mv (kI 0))] [])
 (.seq
 (.region false [oo 6 (.loadN 26 (.tmp 2)),
 oo 7 (.call (.func 75) [(.tmp 6)]),
 om 5 7] [6,7])
 (.seq
 (.seq
 (.region false [om 8 5,
 oo 9 (.bin .neq (.tmp 8) (kI 0))] [8])
 (.cond (.tmp 9)
 (.seq
 (.region false [om 10 5,
 om 4 10] [10])
 .ret)
 .skip))
 (.seq
 (.seq
 (.region false [oo 11 (.fad 0 (.tmp 3)),
 oo 12 (.loadN 2 (.tmp 11)),
 oo 13 (.call (.func 57) [(.tmp 12)]),
 oo 14 (.un .not (.tmp 13)),
 om 15 14,
 og 16 15 false (.fad 2 (.tmp 3)) [],
 og 17 15 false (.loadN 2 (.tmp 16)) [],
 og 18 15 false (.call (.func 57) [(.tmp 17)]) [],
 og 19 15 false (.un .not (.tmp 18)) [],
 oo 20 (.pick (.tmp 15) (.const (.bool true)) (.tmp 19)),
 om 21 20,
 og 22 21 false (.fad 4 (.tmp 3)) [],
 og 23 21 false (.loadN 2 (.tmp 22)) [],
 og 24 21 false (.call (.func 57) [(.tmp 23)]) [],
 og 25 21 false (.un .not (.tmp 24)) [],
 oo 26 (.pick (.tmp 21) (.const (.bool true)) (.tmp 25)),
 om 27 26,
 og 28 27 false (.fad 6 (.tmp 3)) [],
 og 29 27 false (.loadN 2 (.tmp 28)) [],
 og 30 27 false (.call (.func 57) [(.tmp 29)]) [],
 og 31 27 false (.un .not (.tmp 30)) [],
 oo 32 (.pick (.tmp 27) (.const (.bool true)) (.tmp 31))] [11,12,13,14,15,16,17,18,19,20,21,22,23,24,25,26,27,28,29,30,31])
 (.cond (.tmp 32)
 (.seq
 (.region false [oo 4 (.mv (kI 21))] [])
 .ret)
 .skip))
 (.seq
 (.region false [oo 4 (.mv (kI 0))] [])
 .ret)))))
theorem kref02_CheckAir : IsCode Tryz.prog 51 33 cref02_CheckAir [.tmp 4] :=
 ⟨Tryz.f51,_,[32,9,0,1,2,5,3,4],Tryz.func51,rfl,by decide,rfl,by kernel_rfl,by kernel_rfl⟩
def cref02_Check : ACode :=
 (.seq
 (.region false [oo 1 (.box (.tmp 0)),
 oo 2 (.mv (kI 0))] [])
 (.seq
 (.seq
 (.region false [oo 5 (.fad 0 (.tmp 1)),
 oo 6 (.loadN 3 (.tmp 5)),
 oo 7 (.call (.func 105) [(.tmp 6),(kI 0),(kI 100000)]),
 oo 8 (.un .not (.tmp 7)),
 om 9 8,
 og 10 9 false (.fad 3 (.tmp 1)) [],
 og 11 9 false (.loadN 3 (.tmp 10)) [],
 og 12 9 false (.call (.func 105) [(.tmp 11),(kI 0),(kI 100)]) [],
 og 13 9 false (.un .not (.tmp 12)) [],
 oo 14 (.pick (.tmp 9) (.const (.bool true)) (.tmp 13)),
 om 15 14,
 og 16 15 false (.fad 6 (.tmp 1)) [],
 og 17 15 false (.loadN 3 (.tmp 16)) [],
 og 18 15 false (.call (.func 105) [(.tmp 17),(kI 0),(kI 100000)]) [],
 og 19 15 false (.un .not (.tmp 18)) [],
 oo 20 (.pick (.tmp 15) (.const (.bool true)) (.tmp 19)),
 om 21 20,
 og 22 21 false (.fad 9 (.tmp 1)) [],
 og 23 21 false (.loadN 3 (.tmp 22)) [],
 og 24 21 false (.call (.func 105) [(.tmp 23),(kI 0),(kI 100000)]) [],
 og 25 21 false (.un .not (.tmp 24)) [],
 oo 26 (.pick (.tmp 21) (.const (.bool true)) (.tmp 25))] [5,6,7,8,9,10,11,12,13,14,15,16,17,18,19,20,21,22,23,24,25])
 (.cond (.tmp 26)
 (.seq
 (.region false [oo 2 (.mv (kI 20))] [])
 .ret)
 .skip))
 (.seq
 (.seq
 (.region false [oo 27 (.fad 12 (.tmp 1)),
 oo 28 (.loadN 3 (.tmp 27)),
 oo 29 (.call (.func 105) [(.tmp 28),(kI 0),(kI 10000)]),
 oo 30 (.un .not (.tmp 29)),
 om 31 30,
 og 32 31 false (.fad 15 (.tmp 1)) [],
 og 33 31 false (.loadN 3 (.tmp 32)) [],
 og 34 31 false (.call (.func 105) [(.tmp 33),(kI 0),(kI 10000)]) [],
 og 35 31 false (.un .not (.tmp 34)) [],
 oo 36 (.pick (.tmp 31) (.const (.bool true)) (.tmp 35)),
 om 37 36,
 og 38 37 false (.fad 18 (.tmp 1)) [],
 og 39 37 false (.loadN 3 (.tmp 38)) [],
 og 40 37 false (.call (.func 105) [(.tmp 39),(kI 0),(kI 10000)]) [],
 og 41 37 false (.un .not (.tmp 40)) [],
 oo 42 (.pick (.tmp 37) (.const (.bool true)) (.tmp 41)),
 om 43 42,
 og 44 43 false (.fad 21 (.tmp 1)) [],
 og 45 43 false (.loadN 3 (.tmp 44)) [],
 og 46 43 false (.call (.func 105) [(.tmp 45),(kI 1),(kI 10000)]) [],
 og 47 43 false (.un .not (.tmp 46)) [],
 oo 48 (.pick (.tmp 43) (.const (.bool true)) (.tmp 47))] [27,28,29,30,31,32,33,34,35,36,37,38,39,40,41,42,43,44,45,46,47])
 (.cond (.tmp 48)
 (.seq
 (.region false [oo 2 (.mv (kI 20))] [])
 .ret)
 .skip))
 (.seq
 (.seq
 (.region false [oo 49 (.fad 15 (.tmp 1)),
 oo 50 (.fad 0 (.tmp 49)),
 oo 51 (.load1 (.tmp 50)),
 oo 52 (.fad 18 (.tmp 1)),
 oo 53 (.fad 0 (.tmp 52)),
 oo 54 (.load1 (.tmp 53)),
 oo 55 (.call (.func 106) [(.tmp 51),(.tmp 54)]),
 oo 56 (.un .not (.tmp 55)),
 om 57 56,
 og 58 57 false (.fad 15 (.tmp 1)) [],
 og 59 57 false (.fad 1 (.tmp 58)) [],
 og 60 57 false (.load1 (.tmp 59)) [],
 og 61 57 false (.fad 18 (.tmp 1)) [],
 og 62 57 false (.fad 1 (.tmp 61)) [],
 og 63 57 false (.load1 (.tmp 62)) [],
 og 64 57 false (.call (.func 106) [(.tmp 60),(.tmp 63)]) [],
 og 65 57 false (.un .not (.tmp 64)) [],
 oo 66 (.pick (.tmp 57) (.const (.bool true)) (.tmp 65)),
 om 67 66,
 og 68 67 false (.fad 24 (.tmp 1)) [],
 og 69 67 false (.load1 (.tmp 68)) [],
 og 70 67 false (.call (.func 107) [(.tmp 69),(kI 1),(kI 1000)]) [],
 og 71 67 false (.un .not (.tmp 70)) [],
 oo 72 (.pick (.tmp 67) (.const (.bool true)) (.tmp 71)),
 om 73 72,
 og 74 73 false (.fad 25 (.tmp 1)) [],
 og 75 73 false (.load1 (.tmp 74)) [],
 og 76 73 false (.call (.func 107) [(.tmp 75),(kI 1),(kI 1000)]) [],
 og 77 73 false (.un .not (.tmp 76)) [],
 oo 78 (.pick (.tmp 73) (.const (.bool true)) (.tmp 77))] [49,50,51,52,53,54,55,56,57,58,59,60,61,62,63,64,65,66,67,68,69,70,71,72,73,74,75,76,77])
 (.cond (.tmp 78)
 (.seq
 (.region false [oo 2 (.mv (kI 20))] [])
 .ret)
 .skip))
 (.seq
 (.seq
 (.region false [oo 3 (.mv (kI 0))] [])
 (.block 0
 (.loop
 (.seq
 (.seq
 (.region false [om 79 3,
 oo 80 (.fad 15 (.tmp 1)),
 oo 81 (.fad 0 (.tmp 80)),
 oo 82 (.load1 (.tmp 81)),
 oo 83 (.len_ (.tmp 82)),
 oo 84 (.bin .lss (.tmp 79) (.tmp 83))] [79,80,81,82,83])
 (.cond (.tmp 84)
 .skip
 (.exit 0)))
 (.seq
 (.block 1
 (.seq
 (.region false [oo 4 (.mv (kI 0))] [])
 (.block 2
 (.loop
 (.seq
 (.seq
 (.region false [om 87 4,
 oo 88 (.fad 15 (.tmp 1)),
 oo 89 (.fad 1 (.tmp 88)),
 oo 90 (.load1 (.tmp 89)),
 oo 91 (.len_ (.tmp 90)),
 oo 92 (.bin .lss (.tmp 87) (.tmp 91))] [87,88,89,90,91])
 (.cond (.tmp 92)
 .skip
 (.exit 2)))
 (.seq
 (.block 3
 (.seq
 (.region true [oo 95 (.fad 15 (.tmp 1)),
 oa 96 (.fad 2 (.tmp 95)) [0],
 oa 97 (.load1 (.tmp 96)) [1,0],
 om 98 3,
 oa 99 (.iadS 1 (.tmp 97) (.tmp 98)) [2,1,0,3],
 oa 100 (.load1 (.tmp 99)) [4,2,1,0,3],
 om 101 4,
 oa 102 (.iadS 1 (.tmp 100) (.tmp 101)) [5,4,2,1,0,3,6],
 oa 103 (.load1 (.tmp 102)) [7,5,4,2,1,0,3,6],
 oo 104 (.fad 18 (.tmp 1)),
 oa 105 (.fad 2 (.tmp 104)) [9],
 oa 106 (.load1 (.tmp 105)) [10,9],
 om 107 3,
 oa 108 (.iadS 1 (.tmp 106) (.tmp 107)) [11,10,9,12],
 oa 109 (.load1 (.tmp 108)) [13,11,10,9,12],
 om 110 4,
 oa 111 (.iadS 1 (.tmp 109) (.tmp 110)) [14,13,11,10,9,12,15],
 oa 112 (.load1 (.tmp 111)) [16,14,13,11,10,9,12,15],
 oa 113 (.bin .gtr (.tmp 103) (.tmp 112)) [8,7,5,4,2,1,0,3,6,17,16,14,13,11,10,9,12,15]] [95,96,97,98,99,100,101,102,103,104,105,106,107,108,109,110,111,112])
 (.cond (.tmp 113)
 (.seq
 (.region false [oo 2 (.mv (kI 20))] [])
 .ret)
 .skip)))
 (.region false [om 93 4,
 oo 94 (.bin .add (.tmp 93) (kI 1)),
 om 4 94] [93,94])))))))
 (.region false [om 85 3,
 oo 86 (.bin .add (.tmp 85) (kI 1)),
 om 3 86] [85,86]))))))
 (.seq
 (.region false [oo 2 (.mv (kI 0))] [])
 .ret))))))
theorem kref02_Check : IsCode Tryz.prog 75 114 cref02_Check [.tmp 2] :=
 ⟨Tryz.f75,_,[113,92,84,78,48,26,0,1,3,4,2],Tryz.func75,rfl,by decide,rfl,by kernel_rfl,by kernel_rfl⟩
def cref02_filled : ACode :=
 (.seq
 (.region false [oo 3 (.box (.tmp 0)),
 oo 6 (.mv (.const (.bool false)))] [])
 (.seq
 (.seq
 (.region false [oo 9 (.loadN 3 (.tmp 3)),
 oo 10 (.call (.func 121) [(.tmp 9)]),
 oo 11 (.bin .neq (.tmp 10) (kI 0))] [9,10])
 (.cond (.tmp 11)
 (.seq
 (.region false [oo 6 (.mv (.const (.bool false)))] [])
 .ret)
 .skip))
 (.seq
 (.seq
 (.region false [oo 7 (.mv (kI 0))] [])
 (.block 0
 (.loop
 (.seq
 (.seq
 (.region false [om 12 7,
 oo 13 (.fad 0 (.tmp 3)),
 oo 14 (.load1 (.tmp 13)),
 oo 15 (.len_ (.tmp 14)),
 oo 16 (.bin .lss (.tmp 12) (.tmp 15))] [12,13,14,15])
 (.cond (.tmp 16)
 .skip
 (.exit 0)))
 (.seq
 (.block 1
 (.seq
 (.region false [oo 8 (.mv (kI 0))] [])
 (.block 2
 (.loop
 (.seq
 (.seq
 (.region false [om 19 8,
 oo 20 (.fad 1 (.tmp 3)),
 oo 21 (.load1 (.tmp 20)),
 oo 22 (.len_ (.tmp 21)),
 oo 23 (.bin .lss (.tmp 19) (.tmp 22))] [19,20,21,22])
 (.cond (.tmp 23)
 .skip
 (.exit 2)))
 (.seq
 (.block 3
 (.seq
 (.region false [oo 26 (.fad 2 (.tmp 3)),
 oo 27 (.load1 (.tmp 26)),
 om 28 7,
 oo 29 (.iadS 1 (.tmp 27) (.tmp 28)),
 oo 30 (.load1 (.tmp 29)),
 om 31 8,
 oo 32 (.iadS 1 (.tmp 30) (.tmp 31)),
 oo 33 (.load1 (.tmp 32)),
 om 34 1,
 om 35 2,
 oo 36 (.call (.func 107) [(.tmp 33),(.tmp 34),(.tmp 35)]),
 oo 37 (.un .not (.tmp 36))] [26,27,28,29,30,31,32,33,34,35,36])
 (.cond (.tmp 37)
 (.seq
 (.region false [oo 6 (.mv (.const (.bool false)))] [])
 .ret)
 .skip)))
 (.region false [om 24 8,
 oo 25 (.bin .add (.tmp 24) (kI 1)),
 om 8 25] [24,25])))))))
 (.region false [om 17 7,
 oo 18 (.bin .add (.tmp 17) (kI 1)),
 om 7 18] [17,18]))))))
 (.seq
 (.region false [oo 6 (.mv (.const (.bool true)))] [])
 .ret))))
theorem kref02_filled : IsCode Tryz.prog 105 38 cref02_filled [.tmp 6] :=
 ⟨Tryz.f105,_,[37,23,16,11,0,3,7,8,1,2,6],Tryz.func105,rfl,by decide,rfl,by kernel_rfl,by kernel_rfl⟩
def cref02_from : ACode :=
 (.seq
 (.region false [oo 6 (.mv (.const (.bool false)))] [])
 (.seq
 (.region false [om 7 0,
 om 8 1,
 oo 9 (.bin .geq (.tmp 7) (.tmp 8)),
 om 10 9,
 og 11 10 true (.mv (.tmp 0)) [],
 og 12 10 true (.mv (.tmp 2)) [],
 og 13 10 true (.bin .leq (.tmp 11) (.tmp 12)) [],
 oo 14 (.pick (.tmp 10) (.tmp 13) (.const (.bool false))),
 om 6 14] [7,8,9,10,11,12,13,14])
 .ret))
theorem kref02_from : IsCode Tryz.prog 107 15 cref02_from [.tmp 6] :=
 ⟨Tryz.f107,_,[0,1,2,6],Tryz.func107,rfl,by decide,rfl,by kernel_rfl,by kernel_rfl⟩
def cref02_sameInts : ACode :=
 (.seq
 (.region false [oo 4 (.mv (.const (.bool false)))] [])
 (.seq
 (.seq
 (.region false [om 6 0,
 oo 7 (.len_ (.tmp 6)),
 om 8 1,
 oo 9 (.len_ (.tmp 8)),
 oo 10 (.bin .neq (.tmp 7) (.tmp 9))] [6,7,8,9])
 (.cond (.tmp 10)
 (.seq
 (.region false [oo 4 (.mv (.const (.bool false)))] [])
 .ret)
 .skip))
 (.seq
 (.seq
 (.region false [oo 5 (.mv (kI 0))] [])
 (.block 0
 (.loop
 (.seq
 (.seq
 (.region false [om 11 5,
 om 12 0,
 oo 13 (.len_ (.tmp 12)),
 oo 14 (.bin .lss (.tmp 11) (.tmp 13))] [11,12,13])
 (.cond (.tmp 14)
 .skip
 (.exit 0)))
 (.seq
 (.block 1
 (.seq
 (.region true [om 17 0,
 om 18 5,
 oa 19 (.iadS 1 (.tmp 17) (.tmp 18)) [0,1],
 oa 20 (.load1 (.tmp 19)) [2,0,1],
 om 21 1,
 om 22 5,
 oa 23 (.iadS 1 (.tmp 21) (.tmp 22)) [4,5],
 oa 24 (.load1 (.tmp 23)) [6,4,5],
 oa 25 (.bin .neq (.tmp 20) (.tmp 24)) [3,2,0,1,7,6,4,5]] [17,18,19,20,21,22,23,24])
 (.cond (.tmp 25)
 (.seq
 (.region false [oo 4 (.mv (.const (.bool false)))] [])
 .ret)
 .skip)))
 (.region false [om 15 5,
 oo 16 (.bin .add (.tmp 15) (kI 1)),
 om 5 16] [15,16]))))))
 (.seq
 (.region false [oo 4 (.mv (.const (.bool true)))] [])
 .ret))))
theorem kref02_sameInts : IsCode Tryz.prog 106 26 cref02_sameInts [.tmp 4] :=
 ⟨Tryz.f106,_,[25,14,10,0,1,5,4],Tryz.func106,rfl,by decide,rfl,by kernel_rfl,by kernel_rfl⟩
def ctop_one : ACode :=
 (.seq
 (.region false [oo 2 (.mem [(.val (.int .i64 0)),(.val (.int .i64 0))])] [])
 (.seq
 (.region false [om 3 0,
 om 4 0,
 oo 5 (.build [(.val (.int .i64 0)),(.val (.int .i64 0))] [(0,1,(.tmp 3)),(1,1,(.tmp 4))]),
 on (.store 2 (.tmp 2) (.tmp 5))] [3,4,5])
 .ret))
theorem ktop_one : IsCode Tryz.prog 8 6 ctop_one [.cellN 2 2] :=
 ⟨Tryz.f8,_,[0,2],Tryz.func8,rfl,by decide,rfl,by kernel_rfl,by kernel_rfl⟩
end Go.Proofs.YtbncpngjclabhaaGreat
