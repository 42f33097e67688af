/- Texts of the law TopDescends, part 7. No conditions. -/
import Derived.Test.YtbncpngjclabhaaGreatPTopDescends06
import Derived.Test.YtbncpngjclabhaaGreatRows
set_option linter.unusedSimpArgs false
set_option linter.unusedVariables false
set_option maxRecDepth 100000
set_option maxHeartbeats 16000000
/- rotor: Check. No conditions. -/
namespace Go.Proofs.YtbncpngjclabhaaGreat
open Go.RowKit Lift

structure Rot where
  a : Tb
  b : Tb
  c : Tb
  d : Tb
  e : Tb
  f : Tb
  g : Tb
  h : Tb
  cl : Int
  bu : Int
def rotC (r : Rot) : List D := [.list (ints r.a.x),.list (ints r.a.y),.list (rows r.a.v),.list (ints r.b.x),.list (ints r.b.y),.list (rows r.b.v),.list (ints r.c.x),.list (ints r.c.y),.list (rows r.c.v),.list (ints r.d.x),.list (ints r.d.y),.list (rows r.d.v),.list (ints r.e.x),.list (ints r.e.y),.list (rows r.e.v),.list (ints r.f.x),.list (ints r.f.y),.list (rows r.f.v),.list (ints r.g.x),.list (ints r.g.y),.list (rows r.g.v),.list (ints r.h.x),.list (ints r.h.y),.list (rows r.h.v),dI r.cl,dI r.bu]
def rotD (r : Rot) : D := .agg (rotC r)
theorem in_rotD (S : Nat → Prop) (r : Rot) : In S (rotD r) := .agg _ (wals_in rfl)
def tbK (r : Rot) : Nat → Tb
  | 0 => r.a
  | 1 => r.b
  | 2 => r.c
  | 3 => r.d
  | 4 => r.e
  | 5 => r.f
  | 6 => r.g
  | _ => r.h
def loK (k : Nat) : Int := if k = 7 then 1 else 0
def hiK (k : Nat) : Int := if k = 1 then 100 else if k = 0 ∨ k = 2 ∨ k = 3 then 100000 else 10000
def limL (r : Rot) : List (List D) := [limC r.a 0 100000,limC r.b 0 100,limC r.c 0 100000,limC r.d 0 100000,limC r.e 0 10000,limC r.f 0 10000,limC r.g 0 10000,limC r.h 1 10000]
theorem limL_gd (r : Rot) (k : Nat) (h : k < 8) : (limL r)[k]? = some (limC (tbK r k) (loK k) (hiK k)) := by
  rcases (by omega : k = 0 ∨ k = 1 ∨ k = 2 ∨ k = 3 ∨ k = 4 ∨ k = 5 ∨ k = 6 ∨ k = 7) with rfl | rfl | rfl | rfl | rfl | rfl | rfl | rfl <;> rfl
theorem limL_five (r : Rot) : ∀ e ∈ limL r,e.length = 5 := by intro e he; simp [limL] at he; rcases he with rfl | rfl | rfl | rfl | rfl | rfl | rfl | rfl <;> rfl
theorem limL_all (r : Rot) : (limL r).all (fun x => x.length == 5) = true := rfl
theorem limL_len (r : Rot) : (limL r).length = 8 := rfl
def RotSm (r : Rot) : Prop := ∀ k,k < 8 → TbSm (tbK r k)
structure RotOk (r : Rot) : Prop where
  lim : ∀ k,k < 8 → limB (tbK r k) (loK k) (hiK k) = true
  ex : r.f.x = r.g.x
  ey : r.f.y = r.g.y
  cl : wI r.cl 1 1000 = true
  bu : wI r.bu 1 1000 = true
  le : ∀ i,i < r.f.v.length → ∀ k,k < (r.f.v[i]?.getD []).length → iat (r.f.v[i]?.getD []) k ≤ iat (r.g.v[i]?.getD []) k
open Classical in
noncomputable def rotE (r : Rot) : Int := if RotOk r then 0 else 20
theorem rotE_ok {r : Rot} (h : RotOk r) : rotE r = 0 := if_pos h
theorem rotE_no {r : Rot} (h : ¬ RotOk r) : rotE r = 20 := if_neg h
theorem rotE_is {r : Rot} (h : rotE r = 0) : RotOk r := by
  by_cases h1 : RotOk r
  · exact h1
  · rw [rotE_no h1] at h; cases h
theorem limB_tbl {t : Tb} {lo hi : Int} (h : limB t lo hi = true) : Tbl t.x t.y t.v := by
  unfold limB at h
  rw [Bool.and_eq_true] at h
  have h1 := of_decide_eq_true h.1
  unfold tabErr at h1
  refine tbl_of ?_
  by_cases hb : tabB t.x t.y t.v = true
  · exact hb
  · rw [if_neg hb] at h1; cases h1
theorem roEqual_ac (a b : List Int) (ha : a.length ≤ 1000000) (hb : b.length ≤ 1000000) : AC Tryz.prog 71 [.list (ints a),.list (ints b)] [] [] (dB (decide (a = b))) := by
  refine kslices_Equal_L_L_Jint_Kint_J.ac (n0 := 0) (by simp) ⟨.list _,.list _,trivial⟩ trivial rfl ?_
  unfold cslices_Equal_L_L_Jint_Kint_J
  have al := ints_len a
  have bl := ints_len b
  by_cases hl : a.length = b.length
  case neg =>
    have q : ((a.length : Int) != (b.length : Int)) = true := by simp only [bne_iff_ne,ne_eq]; omega
    rw [decide_eq_false (fun h => hl (by rw [h]))]
    (repeat' (first | (with_reducible first | refine thenQ_n ?_ | refine blockQ_n ?_ | refine thenQ_e ?_ | refine blockQ_t ?_ | refine blockQ_f (by decide) ?_) | apply aw_seq | apply aw_skip | apply aw_exit | apply aw_ret | apply aw_block | apply aw_condT rfl | apply aw_condF rfl | ((first | refine aw_hide fun K hK => aw_region ?_ | refine ago_if (by omega) ?_ | skip); simp (disch := first | exact okY | omega) only [ZU,Nat.reduceMul,AOpRun,aexec,Nat.reduceBEq,Nat.reduceAdd,↓eget_h,al,bl,isSh,↓reduceIte,abin,q,dB]) | subst hK))
    all_goals (refine end_q [] [] ?_ ?_ <;> repeat' (first | exact trivial | exact vr_val _))
  have q : ((a.length : Int) != (b.length : Int)) = false := by simp only [bne_eq_false_iff_eq]; omega
  (repeat' (first | (with_reducible first | refine thenQ_n ?_ | refine blockQ_n ?_ | refine thenQ_e ?_ | refine blockQ_t ?_ | refine blockQ_f (by decide) ?_) | apply aw_seq | apply aw_skip | apply aw_exit | apply aw_ret | apply aw_block | apply aw_condT rfl | apply aw_condF rfl | ((first | refine aw_hide fun K hK => aw_region ?_ | refine ago_if (by omega) ?_ | skip); simp (disch := first | exact okY | omega) only [ZU,Nat.reduceMul,AOpRun,aexec,Nat.reduceBEq,Nat.reduceAdd,↓eget_h,al,bl,isSh,↓reduceIte,abin,q,dB]) | subst hK))
  refine aw_loop (fun k : Nat => ⟨[(0,.list (ints a)),(1,.list (ints b)),(12,dI a.length),(13,dI k)],[],400⟩) (fun k => k ≤ a.length ∧ ∀ j,j < k → iat a j = iat b j) (fun k => a.length - k) ⟨0,⟨by omega,fun j hj => by omega⟩,?_⟩ ?_
  · refine wk_q [] [] ?_ ?_ <;> repeat' (first | exact trivial | exact vr_val _ | exact vr_list _ | apply And.intro)
  rintro k ⟨hk,hin⟩
  by_cases hk2 : k < a.length
  case neg =>
    obtain rfl : k = a.length := by omega
    have e : a = b := by
      refine List.ext_getElem hl fun j h1 h2 => ?_
      have := hin j h1
      simpa [iat,h1,h2] using this
    rw [decide_eq_true e]
    (have hg : (987654321 : Nat) - 987654321 = 0 := rfl; have hr := hg; repeat' (first | (with_reducible first | refine thenQ_n ?_ | refine blockQ_n ?_ | refine thenQ_e ?_ | refine blockQ_t ?_ | refine blockQ_f (by decide) ?_) | apply aw_seq | apply aw_skip | apply aw_exit | apply aw_ret | apply aw_block | apply aw_condT rfl | apply aw_condF rfl | (refine aw_cond rfl (fun hg => ?_) (fun hg => ?_) <;> (try (have hq := hg; simp only [Bool.not_eq_true',Bool.not_eq_false',Bool.and_eq_true,Bool.and_eq_false_iff,Bool.or_eq_true,Bool.or_eq_false_iff,decide_eq_true_eq,decide_eq_false_iff_not,bne_iff_ne,beq_iff_eq,beq_eq_false_iff_ne,bne_eq_false_iff_eq,ne_eq,Int.not_lt,Int.not_le,Decidable.not_not] at hq)) <;> (try (have hr := hg; simp only [decide_eq_true_eq,decide_eq_false_iff_not] at hr)) <;> (try (exfalso; omega))) | ((first | refine aw_hide fun K hK => aw_region ?_ | refine ago_if (by omega) ?_ | skip); simp (disch := first | exact okY | omega) only [ZU,Nat.reduceMul,Nat.reduceAdd,dI,AOpRun,aexec,Nat.reduceBEq,↓eget_h,isSh,↓reduceIte,abin,hr,decide_false]) | subst hK))
    all_goals (refine end_q [] [] ?_ ?_ <;> repeat' (first | exact trivial | exact vr_val _))
  have ag := ints_all a
  have bg := ints_all b
  have g1 := ints_gd a k hk2
  have g2 := ints_gd b k (by omega)
  rw [show a[k]?.getD 0 = iat a k from rfl] at g1
  rw [show b[k]?.getD 0 = iat b k from rfl] at g2
  have ki : (k : Int) < (a.length : Int) := by omega
  have kb : (k : Int) < (b.length : Int) := by omega
  cases he : (iat a k != iat b k) with
  | true =>
    rw [decide_eq_false (fun h => by rw [h] at he; simp at he)]
    (repeat' (first | (with_reducible first | refine thenQ_n ?_ | refine blockQ_n ?_ | refine thenQ_e ?_ | refine blockQ_t ?_ | refine blockQ_f (by decide) ?_) | apply aw_seq | apply aw_skip | apply aw_exit | apply aw_ret | apply aw_block | apply aw_condT rfl | apply aw_condF rfl | ((first | refine aw_hide fun K hK => aw_region ?_ | refine ago_if (by omega) ?_ | skip); simp (disch := first | exact okY | omega) only [ZU,Nat.reduceMul,Nat.reduceAdd,dI,AOpRun,aexec,Nat.reduceBEq,↓eget_h,isSh,↓reduceIte,abin,ki,ag,opt1,g1,run1,bg,g2,he,blockQ]) | subst hK))
    all_goals (refine end_q [] [] ?_ ?_ <;> repeat' (first | exact trivial | exact vr_val _))
  | false =>
    (repeat' (first | (with_reducible first | refine thenQ_n ?_ | refine blockQ_n ?_ | refine thenQ_e ?_ | refine blockQ_t ?_ | refine blockQ_f (by decide) ?_) | apply aw_seq | apply aw_skip | apply aw_exit | apply aw_ret | apply aw_block | apply aw_condT rfl | apply aw_condF rfl | ((first | refine aw_hide fun K hK => aw_region ?_ | refine ago_if (by omega) ?_ | skip); simp (disch := first | exact okY | omega) only [ZU,Nat.reduceMul,Nat.reduceAdd,dI,AOpRun,aexec,Nat.reduceBEq,↓eget_h,isSh,↓reduceIte,abin,ki,ag,opt1,g1,run1,bg,g2,he,fits]) | subst hK))
    refine ⟨k + 1,⟨by omega,fun j hj => ?_⟩,by omega,?_⟩
    · rcases (by omega : j < k ∨ j = k) with h | rfl
      · exact hin j h
      · simpa using he
    · refine wk_q [] [] ?_ ?_ <;> repeat' (first | exact trivial | exact vr_val _ | exact vr_list _ | apply And.intro)
theorem roCheck_ac (r : Rot) (hs : RotSm r) : AC Tryz.prog 43 [rotD r] [] [] (dI (rotE r)) := by
  refine krotor_Check.ac (n0 := 0) (by simp) ⟨in_rotD _ _,trivial⟩ trivial rfl ?_
  have rt := fun k hk => right_ac (tbK r k) (loK k) (hiK k) (hs k hk)
  have hgd := limL_gd r
  have hll := limL_len r
  have hla := limL_all r
  have hsf : TbSm r.f := hs 5 (by omega)
  have hsg : TbSm r.g := hs 6 (by omega)
  have hno : ∀ {k},k < 8 → limB (tbK r k) (loK k) (hiK k) = false → rotE r = 20 := fun hk h => rotE_no fun ho => by rw [ho.lim _ hk] at h; cases h
  unfold crotor_Check rotD rotC
  refine aw_seq (aw_region ?_)
  simp (disch := first | exact okY | omega) only [ZU,dI,Nat.reduceAdd,Nat.reduceMul,AOpRun,aexec,D.isBot,↓eget_h,or_self,↓reduceIte,D.cells,Nat.reduceBEq]
  refine aw_seq (aw_seq (aw_region ?_))
  simp (disch := first | exact okY | omega) only [ZU,Nat.reduceAdd,Nat.reduceMul,AOpRun,aexec,Nat.reduceBEq,↓eget_h,Nat.reduceLeDiff,↓reduceIte,List.drop,List.take,fillD,D.isBot,D.cells,ne_eq,not_true_eq_false,Nat.reduceGT,or_self,splice,cast_lit]
  refine aw_wk (s' := ⟨[(1,.ptr 0 0),(35,.list (limL r)),(36,dI (8 : Nat)),(37,dI (0 : Nat))],[(0,[.list (ints r.a.x),.list (ints r.a.y),.list (rows r.a.v),.list (ints r.b.x),.list (ints r.b.y),.list (rows r.b.v),.list (ints r.c.x),.list (ints r.c.y),.list (rows r.c.v),.list (ints r.d.x),.list (ints r.d.y),.list (rows r.d.v),.list (ints r.e.x),.list (ints r.e.y),.list (rows r.e.v),.list (ints r.f.x),.list (ints r.f.y),.list (rows r.f.v),.list (ints r.g.x),.list (ints r.g.y),.list (rows r.g.v),.list (ints r.h.x),.list (ints r.h.y),.list (rows r.h.v),dI r.cl,dI r.bu])],400⟩) ?_ ?_
  · unfold dI
    refine wk_q [208] [(0,0)] ?_ ?_ <;> repeat' (first | exact trivial | exact vr_val _ | exact vr_list _ | exact vr_ptr _ _ _ rfl | refine vr_fl _ _ _ _ _ (by decide) rfl ?_ ?_ ?_ ?_ | refine And.intro ⟨_,rfl,.inl ⟨_,rfl,by decide,?_⟩⟩ ?_ | apply And.intro)
    all_goals first | exact limL_five _ | rfl | exact wals_in rfl
  refine aw_block (aw_loop (fun k : Nat => ⟨[(1,.ptr 0 0),(35,.list (limL r)),(36,dI (8 : Nat)),(37,dI k)],[(0,[.list (ints r.a.x),.list (ints r.a.y),.list (rows r.a.v),.list (ints r.b.x),.list (ints r.b.y),.list (rows r.b.v),.list (ints r.c.x),.list (ints r.c.y),.list (rows r.c.v),.list (ints r.d.x),.list (ints r.d.y),.list (rows r.d.v),.list (ints r.e.x),.list (ints r.e.y),.list (rows r.e.v),.list (ints r.f.x),.list (ints r.f.y),.list (rows r.f.v),.list (ints r.g.x),.list (ints r.g.y),.list (rows r.g.v),.list (ints r.h.x),.list (ints r.h.y),.list (rows r.h.v),dI r.cl,dI r.bu])],400⟩) (fun k => k ≤ 8 ∧ ∀ j,j < k → limB (tbK r j) (loK j) (hiK j) = true) (fun k => 8 - k) ⟨0,⟨by omega,fun j hj => by omega⟩,?_⟩ ?_)
  · unfold dI
    refine wk_q [] [(0,0)] ?_ ?_ <;> repeat' (first | exact trivial | exact vr_val _ | exact vr_list _ | exact vr_ptr _ _ _ rfl | refine And.intro ⟨_,rfl,.inl ⟨_,rfl,by decide,?_⟩⟩ ?_ | apply And.intro)
  rintro k ⟨hk,hin⟩
  by_cases hk2 : k < 8
  case pos =>
    have rk := rt k hk2
    have g1 := hgd k hk2
    have ki : (k : Int) < ((8 : Nat) : Int) := by omega
    have ki8 : (k : Int) < 8 := by omega
    have hstep : limB (tbK r k) (loK k) (hiK k) = true → ∀ j,j < k + 1 → limB (tbK r j) (loK j) (hiK j) = true := fun h j hj => by
      rcases (by omega : j < k ∨ j = k) with h1 | rfl
      · exact hin j h1
      · exact h
    have hn := fun h => hno hk2 h
    generalize limL r = LL at *
    generalize tbK r k = t at *
    generalize loK k = lo0 at *
    generalize hiK k = hi0 at *
    clear rt hgd hin hsf hsg hs
    unfold limC at *
    cases hb : limB t lo0 hi0 with
    | false =>
      rw [hb] at rk
      rw [hn hb]
      (repeat' (first | (with_reducible first | refine thenQ_n ?_ | refine blockQ_n ?_ | refine thenQ_e ?_ | refine blockQ_t ?_ | refine blockQ_f (by decide) ?_) | apply aw_seq | apply aw_skip | apply aw_exit | apply aw_ret | apply aw_block | apply aw_condT rfl | apply aw_condF rfl | ((first | refine aw_hide fun K hK => aw_region ?_ | refine acall0 (rk) ?_ | refine ago_if (by omega) ?_ | skip); simp (disch := first | exact okY | omega) only [ZU,Nat.reduceMul,Nat.reduceAdd,dI,cast_lit,AOpRun,aexec,Nat.reduceBEq,↓eget_h,isSh,↓reduceIte,abin,ki8,hla,opt1,g1,Nat.reduceLeDiff,List.take,↓hget_h,D.isBot,D.cells,List.all,D.leaf,splice,List.drop,dB,blockQ]) | subst hK))
      all_goals (refine end_q [] [] ?_ ?_ <;> repeat' (first | exact trivial | exact vr_val _))
    | true =>
      rw [hb] at rk
      (repeat' (first | (with_reducible first | refine thenQ_n ?_ | refine blockQ_n ?_ | refine thenQ_e ?_ | refine blockQ_t ?_ | refine blockQ_f (by decide) ?_) | apply aw_seq | apply aw_skip | apply aw_exit | apply aw_ret | apply aw_block | apply aw_condT rfl | apply aw_condF rfl | ((first | refine aw_hide fun K hK => aw_region ?_ | refine acall0 (rk) ?_ | refine ago_if (by omega) ?_ | skip); simp (disch := first | exact okY | omega) only [ZU,Nat.reduceMul,Nat.reduceAdd,dI,cast_lit,AOpRun,aexec,Nat.reduceBEq,↓eget_h,isSh,↓reduceIte,abin,ki8,hla,opt1,g1,Nat.reduceLeDiff,List.take,↓hget_h,D.isBot,D.cells,List.all,D.leaf,splice,List.drop,dB,fits]) | subst hK))
      refine ⟨k + 1,⟨by omega,hstep hb⟩,by omega,?_⟩
      refine wk_q [] [(0,0)] ?_ ?_ <;> repeat' (first | exact trivial | exact vr_val _ | exact vr_list _ | exact vr_ptr _ _ _ rfl | refine And.intro ⟨_,rfl,.inl ⟨_,rfl,by decide,?_⟩⟩ ?_ | apply And.intro)
  obtain rfl : k = 8 := by omega
  clear rt hgd hll hla
  have tf : Tbl r.f.x r.f.y r.f.v := limB_tbl (hin 5 (by omega))
  have tg : Tbl r.g.x r.g.y r.g.v := limB_tbl (hin 6 (by omega))
  have ce := roEqual_ac r.f.x r.g.x (by have := hsf.1; omega) (by have := hsg.1; omega)
  have cf := roEqual_ac r.f.y r.g.y (by have := hsf.2.1; omega) (by have := hsg.2.1; omega)
  have c1 := roWithin_ac r.cl 1 1000
  have c2 := roWithin_ac r.bu 1 1000
  by_cases ex : r.f.x = r.g.x
  case neg =>
    rw [rotE_no fun h => ex h.ex]
    rw [decide_eq_false ex] at ce
    (repeat' (first | (with_reducible first | refine thenQ_n ?_ | refine blockQ_n ?_ | refine thenQ_e ?_ | refine blockQ_t ?_ | refine blockQ_f (by decide) ?_) | apply aw_seq | apply aw_skip | apply aw_exit | apply aw_ret | apply aw_block | apply aw_condT rfl | apply aw_condF rfl | ((first | refine aw_hide fun K hK => aw_region ?_ | refine acall0 (ce) ?_ | refine ago_if (by omega) ?_ | skip); simp (disch := first | exact okY | omega) only [ZU,Nat.reduceMul,Nat.reduceAdd,dI,cast_lit,AOpRun,aexec,Nat.reduceBEq,↓eget_h,isSh,↓reduceIte,abin,Int.reduceLT,decide_false,Nat.reduceLeDiff,List.drop,List.take,↓hget_h,D.isBot,D.cells,List.all,D.leaf,splice,run1,dB,ARun_some,AG_tf]) | subst hK))
    all_goals (refine end_q [] [] ?_ ?_ <;> repeat' (first | exact trivial | exact vr_val _))
  rw [decide_eq_true ex] at ce
  by_cases ey : r.f.y = r.g.y
  case neg =>
    rw [rotE_no fun h => ey h.ey]
    rw [decide_eq_false ey] at cf
    (repeat' (first | (with_reducible first | refine thenQ_n ?_ | refine blockQ_n ?_ | refine thenQ_e ?_ | refine blockQ_t ?_ | refine blockQ_f (by decide) ?_) | apply aw_seq | apply aw_skip | apply aw_exit | apply aw_ret | apply aw_block | apply aw_condT rfl | apply aw_condF rfl | ((first | refine aw_hide fun K hK => aw_region ?_ | refine acall0 (ce) ?_ | refine acall0 (cf) ?_ | refine ago_if (by omega) ?_ | skip); simp (disch := first | exact okY | omega) only [ZU,Nat.reduceMul,Nat.reduceAdd,dI,cast_lit,AOpRun,aexec,Nat.reduceBEq,↓eget_h,isSh,↓reduceIte,abin,Int.reduceLT,decide_false,Nat.reduceLeDiff,List.drop,List.take,↓hget_h,D.isBot,D.cells,List.all,D.leaf,splice,run1,dB,ARun_some,AG_ff,AG_tf]) | subst hK))
    all_goals (refine end_q [] [] ?_ ?_ <;> repeat' (first | exact trivial | exact vr_val _))
  rw [decide_eq_true ey] at cf
  cases q1 : wI r.cl 1 1000 with
  | false =>
    rw [rotE_no fun h => by rw [h.cl] at q1; cases q1]
    rw [q1] at c1
    (repeat' (first | (with_reducible first | refine thenQ_n ?_ | refine blockQ_n ?_ | refine thenQ_e ?_ | refine blockQ_t ?_ | refine blockQ_f (by decide) ?_) | apply aw_seq | apply aw_skip | apply aw_exit | apply aw_ret | apply aw_block | apply aw_condT rfl | apply aw_condF rfl | ((first | refine aw_hide fun K hK => aw_region ?_ | refine acall0 (ce) ?_ | refine acall0 (cf) ?_ | refine acall0 (c1) ?_ | refine ago_if (by omega) ?_ | skip); simp (disch := first | exact okY | omega) only [ZU,Nat.reduceMul,Nat.reduceAdd,dI,cast_lit,AOpRun,aexec,Nat.reduceBEq,↓eget_h,isSh,↓reduceIte,abin,Int.reduceLT,decide_false,Nat.reduceLeDiff,List.drop,List.take,↓hget_h,D.isBot,D.cells,List.all,D.leaf,splice,run1,dB,ARun_some,AG_ff,AG_tf]) | subst hK))
    all_goals (refine end_q [] [] ?_ ?_ <;> repeat' (first | exact trivial | exact vr_val _))
  | true =>
  rw [q1] at c1
  cases q2 : wI r.bu 1 1000 with
  | false =>
    rw [rotE_no fun h => by rw [h.bu] at q2; cases q2]
    rw [q2] at c2
    (repeat' (first | (with_reducible first | refine thenQ_n ?_ | refine blockQ_n ?_ | refine thenQ_e ?_ | refine blockQ_t ?_ | refine blockQ_f (by decide) ?_) | apply aw_seq | apply aw_skip | apply aw_exit | apply aw_ret | apply aw_block | apply aw_condT rfl | apply aw_condF rfl | ((first | refine aw_hide fun K hK => aw_region ?_ | refine acall0 (ce) ?_ | refine acall0 (cf) ?_ | refine acall0 (c1) ?_ | refine acall0 (c2) ?_ | refine ago_if (by omega) ?_ | skip); simp (disch := first | exact okY | omega) only [ZU,Nat.reduceMul,Nat.reduceAdd,dI,cast_lit,AOpRun,aexec,Nat.reduceBEq,↓eget_h,isSh,↓reduceIte,abin,Int.reduceLT,decide_false,Nat.reduceLeDiff,List.drop,List.take,↓hget_h,D.isBot,D.cells,List.all,D.leaf,splice,run1,dB,ARun_some,AG_ff]) | subst hK))
    all_goals (refine end_q [] [] ?_ ?_ <;> repeat' (first | exact trivial | exact vr_val _))
  | true =>
  rw [q2] at c2
  have fl := rows_len r.f.v
  have fa := rows_all r.f.v
  have gl := rows_len r.g.v
  have ga := rows_all r.g.v
  have hfg : r.g.v.length = r.f.v.length := by rw [tg.len,tf.len,ex]
  have hrow : ∀ i,i < r.f.v.length → (r.g.v[i]?.getD []).length = (r.f.v[i]?.getD []).length := fun i hi => by rw [tg.row i (by omega),tf.row i hi,ey]
  have hyes : (∀ i,i < r.f.v.length → ∀ k,k < (r.f.v[i]?.getD []).length → iat (r.f.v[i]?.getD []) k ≤ iat (r.g.v[i]?.getD []) k) → rotE r = 0 := fun hle => rotE_ok ⟨hin,ex,ey,q1,q2,hle⟩
  have hnot : (¬ ∀ i,i < r.f.v.length → ∀ k,k < (r.f.v[i]?.getD []).length → iat (r.f.v[i]?.getD []) k ≤ iat (r.g.v[i]?.getD []) k) → rotE r = 20 := fun hle => rotE_no fun h => hle h.le
  have hfr := hsf.row
  clear hin hno hs hsg
  (repeat' (first | (with_reducible first | refine thenQ_n ?_ | refine blockQ_n ?_ | refine thenQ_e ?_ | refine blockQ_t ?_ | refine blockQ_f (by decide) ?_) | apply aw_seq | apply aw_skip | apply aw_exit | apply aw_ret | apply aw_block | apply aw_condT rfl | apply aw_condF rfl | ((first | refine aw_hide fun K hK => aw_region ?_ | refine acall0 (ce) ?_ | refine acall0 (cf) ?_ | refine acall0 (c1) ?_ | refine acall0 (c2) ?_ | refine ago_if (by omega) ?_ | skip); simp (disch := first | exact okY | omega) only [ZU,Nat.reduceMul,Nat.reduceAdd,dI,cast_lit,AOpRun,aexec,Nat.reduceBEq,↓eget_h,isSh,↓reduceIte,abin,Int.reduceLT,decide_false,Nat.reduceLeDiff,List.drop,List.take,↓hget_h,D.isBot,D.cells,List.all,D.leaf,splice,run1,dB,ARun_some,AG_ff,fl]) | subst hK))
  refine aw_wk (s' := ⟨[(6,.ptr 8 0),(76,.list (rows r.f.v)),(77,dI r.f.v.length),(78,dI (0 : Nat))],[(8,[.list (ints r.g.x),.list (ints r.g.y),.list (rows r.g.v)])],600⟩) ?_ ?_
  · unfold dI
    refine wk_q [] [(8,448)] ?_ ?_ <;> repeat' (first | exact trivial | exact vr_val _ | exact vr_list _ | exact vr_ptr _ _ _ rfl | refine And.intro ⟨_,rfl,.inl ⟨_,rfl,by decide,?_⟩⟩ ?_ | apply And.intro)
  clear ce cf c1 c2
  have hfvl := hsf.2.2.1
  generalize r.f.v = fv at *
  generalize r.g.v = gv at *
  refine aw_loop (fun i : Nat => ⟨[(6,.ptr 8 0),(76,.list (rows fv)),(77,dI fv.length),(78,dI i)],[(8,[.list (ints r.g.x),.list (ints r.g.y),.list (rows gv)])],1000⟩) (fun i => i ≤ fv.length ∧ ∀ j,j < i → ∀ k,k < (fv[j]?.getD []).length → iat (fv[j]?.getD []) k ≤ iat (gv[j]?.getD []) k) (fun i => fv.length - i) ⟨0,⟨by omega,fun j hj => by omega⟩,?_⟩ ?_
  · unfold dI
    refine wk_q [] [(8,8)] ?_ ?_ <;> repeat' (first | exact trivial | exact vr_val _ | exact vr_list _ | exact vr_ptr _ _ _ rfl | refine And.intro ⟨_,rfl,.inl ⟨_,rfl,by decide,?_⟩⟩ ?_ | apply And.intro)
  rintro i ⟨hi,hout⟩
  by_cases hi2 : i < fv.length
  case neg =>
    obtain rfl : i = fv.length := by omega
    rw [hyes hout]
    (have hg : (987654321 : Nat) - 987654321 = 0 := rfl; have hr := hg; repeat' (first | (with_reducible first | refine thenQ_n ?_ | refine blockQ_n ?_ | refine thenQ_e ?_ | refine blockQ_t ?_ | refine blockQ_f (by decide) ?_) | apply aw_seq | apply aw_skip | apply aw_exit | apply aw_ret | apply aw_block | apply aw_condT rfl | apply aw_condF rfl | (refine aw_cond rfl (fun hg => ?_) (fun hg => ?_) <;> (try (have hq := hg; simp only [Bool.not_eq_true',Bool.not_eq_false',Bool.and_eq_true,Bool.and_eq_false_iff,Bool.or_eq_true,Bool.or_eq_false_iff,decide_eq_true_eq,decide_eq_false_iff_not,bne_iff_ne,beq_iff_eq,beq_eq_false_iff_ne,bne_eq_false_iff_eq,ne_eq,Int.not_lt,Int.not_le,Decidable.not_not] at hq)) <;> (try (have hr := hg; simp only [decide_eq_true_eq,decide_eq_false_iff_not] at hr)) <;> (try (exfalso; omega))) | ((first | refine aw_hide fun K hK => aw_region ?_ | refine ago_if (by omega) ?_ | skip); simp (disch := first | exact okY | omega) only [ZU,Nat.reduceMul,Nat.reduceAdd,dI,AOpRun,aexec,Nat.reduceBEq,↓eget_h,isSh,↓reduceIte,abin,hr,decide_false]) | subst hK))
    all_goals (refine end_q [] [] ?_ ?_ <;> repeat' (first | exact trivial | exact vr_val _))
  have ki : (i : Int) < (fv.length : Int) := by omega
  have kig : (i : Int) < (gv.length : Int) := by omega
  have g1 := rows_gd fv i hi2
  have g2 := rows_gd gv i (by omega)
  have hrl := hrow i hi2
  have hnot2 : ∀ k,k < (fv[i]?.getD []).length → ¬ iat (fv[i]?.getD []) k ≤ iat (gv[i]?.getD []) k → rotE r = 20 := fun k hk hn => hnot fun hle => hn (hle i hi2 k hk)
  have hstep : (∀ k,k < (fv[i]?.getD []).length → iat (fv[i]?.getD []) k ≤ iat (gv[i]?.getD []) k) → ∀ j,j < i + 1 → ∀ k,k < (fv[j]?.getD []).length → iat (fv[j]?.getD []) k ≤ iat (gv[j]?.getD []) k := fun h j hj => by
    rcases (by omega : j < i ∨ j = i) with h1 | rfl
    · exact hout j h1
    · exact h
  have hrb := hfr i
  clear hout hyes hnot hrow
  generalize fv[i]?.getD [] = p at *
  generalize gv[i]?.getD [] = q at *
  have pl := ints_len p
  have pg := ints_all p
  have ql := ints_len q
  have qg := ints_all q
  (repeat' (first | (with_reducible first | refine thenQ_n ?_ | refine blockQ_n ?_ | refine thenQ_e ?_ | refine blockQ_t ?_ | refine blockQ_f (by decide) ?_) | apply aw_seq | apply aw_skip | apply aw_exit | apply aw_ret | apply aw_block | apply aw_condT rfl | apply aw_condF rfl | ((first | refine aw_hide fun K hK => aw_region ?_ | refine ago_if (by omega) ?_ | skip); simp (disch := first | exact okY | omega) only [ZU,Nat.reduceMul,Nat.reduceAdd,dI,AOpRun,aexec,Nat.reduceBEq,↓eget_h,isSh,↓reduceIte,abin,ki,fa,opt1,g1,run1,pl]) | subst hK))
  refine aw_loop (fun k : Nat => ⟨[(6,.ptr 8 0),(7,dI i),(76,.list (rows fv)),(77,dI fv.length),(78,dI i),(83,.list (ints p)),(84,dI p.length),(85,dI k)],[(8,[.list (ints r.g.x),.list (ints r.g.y),.list (rows gv)])],3000⟩) (fun k => k ≤ p.length ∧ ∀ j,j < k → iat p j ≤ iat q j) (fun k => p.length - k) ⟨0,⟨by omega,fun j hj => by omega⟩,?_⟩ ?_
  · unfold dI
    refine wk_q [] [(8,8)] ?_ ?_ <;> repeat' (first | exact trivial | exact vr_val _ | exact vr_list _ | exact vr_ptr _ _ _ rfl | refine And.intro ⟨_,rfl,.inl ⟨_,rfl,by decide,?_⟩⟩ ?_ | apply And.intro)
  rintro k ⟨hk,hin⟩
  by_cases hk2 : k < p.length
  case neg =>
    obtain rfl : k = p.length := by omega
    (have hg : (987654321 : Nat) - 987654321 = 0 := rfl; have hr := hg; repeat' (first | (with_reducible first | refine thenQ_n ?_ | refine blockQ_n ?_ | refine thenQ_e ?_ | refine blockQ_t ?_ | refine blockQ_f (by decide) ?_) | apply aw_seq | apply aw_skip | apply aw_exit | apply aw_ret | apply aw_block | apply aw_condT rfl | apply aw_condF rfl | (refine aw_cond rfl (fun hg => ?_) (fun hg => ?_) <;> (try (have hq := hg; simp only [Bool.not_eq_true',Bool.not_eq_false',Bool.and_eq_true,Bool.and_eq_false_iff,Bool.or_eq_true,Bool.or_eq_false_iff,decide_eq_true_eq,decide_eq_false_iff_not,bne_iff_ne,beq_iff_eq,beq_eq_false_iff_ne,bne_eq_false_iff_eq,ne_eq,Int.not_lt,Int.not_le,Decidable.not_not] at hq)) <;> (try (have hr := hg; simp only [decide_eq_true_eq,decide_eq_false_iff_not] at hr)) <;> (try (exfalso; omega))) | ((first | refine aw_hide fun K hK => aw_region ?_ | refine ago_if (by omega) ?_ | skip); simp (disch := first | exact okY | omega) only [ZU,Nat.reduceMul,Nat.reduceAdd,dI,AOpRun,aexec,Nat.reduceBEq,↓eget_h,isSh,↓reduceIte,abin,hr,decide_false,fits]) | subst hK))
    refine ⟨i + 1,⟨by omega,hstep hin⟩,by omega,?_⟩
    refine wk_q [] [(8,8)] ?_ ?_ <;> repeat' (first | exact trivial | exact vr_val _ | exact vr_list _ | exact vr_ptr _ _ _ rfl | refine And.intro ⟨_,rfl,.inl ⟨_,rfl,by decide,?_⟩⟩ ?_ | apply And.intro)
  have g3 := ints_gd p k hk2
  have g4 := ints_gd q k (by omega)
  rw [show p[k]?.getD 0 = iat p k from rfl] at g3
  rw [show q[k]?.getD 0 = iat q k from rfl] at g4
  have kk : (k : Int) < (p.length : Int) := by omega
  have kq : (k : Int) < (q.length : Int) := by omega
  cases q5 : decide (iat p k > iat q k) with
  | true =>
    rw [hnot2 k hk2 (by have := of_decide_eq_true q5; omega)]
    (repeat' (first | (with_reducible first | refine thenQ_n ?_ | refine blockQ_n ?_ | refine thenQ_e ?_ | refine blockQ_t ?_ | refine blockQ_f (by decide) ?_) | apply aw_seq | apply aw_skip | apply aw_exit | apply aw_ret | apply aw_block | apply aw_condT rfl | apply aw_condF rfl | ((first | refine aw_hide fun K hK => aw_region ?_ | refine ago_if (by omega) ?_ | skip); simp (disch := first | exact okY | omega) only [ZU,Nat.reduceMul,Nat.reduceAdd,dI,AOpRun,aexec,Nat.reduceBEq,↓eget_h,isSh,↓reduceIte,abin,kk,pg,opt1,g3,run1,ga,g2,qg,g4,q5,blockQ]) | subst hK))
    all_goals (refine end_q [] [] ?_ ?_ <;> repeat' (first | exact trivial | exact vr_val _))
  | false =>
    have hs2 : ∀ j,j < k + 1 → iat p j ≤ iat q j := fun j hj => by
      rcases (by omega : j < k ∨ j = k) with h | rfl
      · exact hin j h
      · have := of_decide_eq_false q5; omega
    (repeat' (first | (with_reducible first | refine thenQ_n ?_ | refine blockQ_n ?_ | refine thenQ_e ?_ | refine blockQ_t ?_ | refine blockQ_f (by decide) ?_) | apply aw_seq | apply aw_skip | apply aw_exit | apply aw_ret | apply aw_block | apply aw_condT rfl | apply aw_condF rfl | ((first | refine aw_hide fun K hK => aw_region ?_ | refine ago_if (by omega) ?_ | skip); simp (disch := first | exact okY | omega) only [ZU,Nat.reduceMul,Nat.reduceAdd,dI,AOpRun,aexec,Nat.reduceBEq,↓eget_h,isSh,↓reduceIte,abin,kk,pg,opt1,g3,run1,ga,g2,qg,g4,q5,fits]) | subst hK))
    refine ⟨k + 1,⟨by omega,hs2⟩,by omega,?_⟩
    refine wk_q [] [(8,8)] ?_ ?_ <;> repeat' (first | exact trivial | exact vr_val _ | exact vr_list _ | exact vr_ptr _ _ _ rfl | refine And.intro ⟨_,rfl,.inl ⟨_,rfl,by decide,?_⟩⟩ ?_ | apply And.intro)
end Go.Proofs.YtbncpngjclabhaaGreat
/- rotor: check, Level, Flow; route: Burn. No conditions. -/
namespace Go.Proofs.YtbncpngjclabhaaGreat
open Go.RowKit Lift

structure Air where
  w : Int × Int
  t : Int × Int
  h : Int × Int
  d : Int × Int
def airC (a : Air) : List D := [dI a.w.1,dI a.w.2,dI a.t.1,dI a.t.2,dI a.h.1,dI a.h.2,dI a.d.1,dI a.d.2]
def airD (a : Air) : D := .agg (airC a)
theorem in_airD (S : Nat → Prop) (a : Air) : In S (airD a) := .agg _ (wals_in rfl)
def airL (a : Air) : List (Int × Int) := [a.w,a.t,a.h,a.d]
def airB (a : Air) : Bool := spVB a.w && (spVB a.t && (spVB a.h && spVB a.d))
def macC (r : Rot) (a : Air) : List D := [.list (ints r.a.x),.list (ints r.a.y),.list (rows r.a.v),.list (ints r.b.x),.list (ints r.b.y),.list (rows r.b.v),.list (ints r.c.x),.list (ints r.c.y),.list (rows r.c.v),.list (ints r.d.x),.list (ints r.d.y),.list (rows r.d.v),.list (ints r.e.x),.list (ints r.e.y),.list (rows r.e.v),.list (ints r.f.x),.list (ints r.f.y),.list (rows r.f.v),.list (ints r.g.x),.list (ints r.g.y),.list (rows r.g.v),.list (ints r.h.x),.list (ints r.h.y),.list (rows r.h.v),dI r.cl,dI r.bu,dI a.w.1,dI a.w.2,dI a.t.1,dI a.t.2,dI a.h.1,dI a.h.2,dI a.d.1,dI a.d.2]
def lkC (t : Tb) (x y : Int × Int) : List D := [.list (ints t.x),.list (ints t.y),.list (rows t.v),dI x.1,dI x.2,dI y.1,dI y.2]
def lyB (t : Tb) (x y : Int × Int) : Bool := decide (x.1 ≥ iat t.x 0) && (decide (x.2 ≤ iat t.x (t.x.length - 1)) && (decide (y.1 ≥ iat t.y 0) && decide (y.2 ≤ iat t.y (t.y.length - 1))))
theorem roValid_ac (x : Int × Int) : AC Tryz.prog 24 [.agg [dI x.1,dI x.2]] [] [] (dB (spVB x)) := by
  refine krotor_valid.ac (n0 := 0) (by simp) ⟨in_sp _ _ _,trivial⟩ trivial rfl ?_
  unfold crotor_valid
  have hs := scheck_ac x
  cases h : spVB x with
  | true =>
    rw [h,if_pos rfl] at hs
    refine aw_seq (aw_region ?_)
    simp (disch := first | exact okY | omega) only [ZU,dB,Nat.reduceAdd,Nat.reduceMul,dI,AOpRun,aexec,D.isBot,↓eget_h,or_self,↓reduceIte,D.cells,Nat.reduceBEq]
    refine aw_seq (aw_region ?_)
    simp (disch := first | exact okY | omega) only [ZU,Nat.reduceAdd,Nat.reduceMul,AOpRun,aexec,Nat.reduceBEq,↓eget_h,Nat.reduceLeDiff,↓reduceIte,List.drop,List.take,fillD,D.isBot,D.cells,ne_eq,not_true_eq_false,Nat.reduceGT,or_self,splice]
    refine acall hs [24] ⟨.vec 24 1 2 (scells [x]) (sps [x]) (by simp) rfl (Nat.le_of_ble_eq_true rfl) (sps_two _) rfl rfl (scells_in _),trivial⟩ (.inr (.val _)) (by intro g hg; simp at hg; subst hg; exact ⟨_,rfl⟩) (by kernel_rfl) ?_
    simp (disch := first | exact okY | omega) only [ZU,Nat.reduceAdd,dI,Nat.reduceBEq,AOpRun,aexec,↓eget_h,isSh,↓reduceIte,abin]
    (repeat' (first | (with_reducible first | refine thenQ_n ?_ | refine blockQ_n ?_ | refine thenQ_e ?_ | refine blockQ_t ?_ | refine blockQ_f (by decide) ?_) | apply aw_seq | apply aw_skip | apply aw_exit | apply aw_ret | apply aw_block | apply aw_condT rfl | apply aw_condF rfl | ((first | refine aw_hide fun K hK => aw_region ?_ | refine ago_if (by omega) ?_ | skip); fail) | subst hK))
    all_goals (refine end_q [] [] ?_ ?_ <;> repeat' (first | exact trivial | exact vr_val _))
  | false =>
    rw [h,if_neg (by simp)] at hs
    refine aw_seq (aw_region ?_)
    simp (disch := first | exact okY | omega) only [ZU,dB,Nat.reduceAdd,Nat.reduceMul,dI,AOpRun,aexec,D.isBot,↓eget_h,or_self,↓reduceIte,D.cells,Nat.reduceBEq]
    refine aw_seq (aw_region ?_)
    simp (disch := first | exact okY | omega) only [ZU,Nat.reduceAdd,Nat.reduceMul,AOpRun,aexec,Nat.reduceBEq,↓eget_h,Nat.reduceLeDiff,↓reduceIte,List.drop,List.take,fillD,D.isBot,D.cells,ne_eq,not_true_eq_false,Nat.reduceGT,or_self,splice]
    refine acall hs [24] ⟨.vec 24 1 2 (scells [x]) (sps [x]) (by simp) rfl (Nat.le_of_ble_eq_true rfl) (sps_two _) rfl rfl (scells_in _),trivial⟩ (.inr (.val _)) (by intro g hg; simp at hg; subst hg; exact ⟨_,rfl⟩) (by kernel_rfl) ?_
    simp (disch := first | exact okY | omega) only [ZU,Nat.reduceAdd,dI,Nat.reduceBEq,AOpRun,aexec,↓eget_h,isSh,↓reduceIte,abin,Int.reduceBEq]
    (repeat' (first | (with_reducible first | refine thenQ_n ?_ | refine blockQ_n ?_ | refine thenQ_e ?_ | refine blockQ_t ?_ | refine blockQ_f (by decide) ?_) | apply aw_seq | apply aw_skip | apply aw_exit | apply aw_ret | apply aw_block | apply aw_condT rfl | apply aw_condF rfl | ((first | refine aw_hide fun K hK => aw_region ?_ | refine ago_if (by omega) ?_ | skip); fail) | subst hK))
    all_goals (refine end_q [] [] ?_ ?_ <;> repeat' (first | exact trivial | exact vr_val _))
theorem roCheck1_ac (x : Int × Int) : AC Tryz.prog 45 [.agg [dI x.1,dI x.2]] [] [] (dB (!spVB x)) := by
  refine krotor_check_S1.ac (n0 := 0) (by simp) ⟨in_sp _ _ _,trivial⟩ trivial rfl ?_
  unfold crotor_check_S1
  (repeat' (first | (with_reducible first | refine thenQ_n ?_ | refine blockQ_n ?_ | refine thenQ_e ?_ | refine blockQ_t ?_ | refine blockQ_f (by decide) ?_) | apply aw_seq | apply aw_skip | apply aw_exit | apply aw_ret | apply aw_block | apply aw_condT rfl | apply aw_condF rfl | ((first | refine aw_hide fun K hK => aw_region ?_ | refine acall0 (roValid_ac x) ?_ | refine ago_if (by omega) ?_ | skip); simp (disch := first | exact okY | omega) only [ZU,Nat.reduceAdd,Nat.reduceMul,dI,AOpRun,aexec,D.isBot,↓eget_h,or_self,↓reduceIte,D.cells,Nat.reduceBEq,Nat.reduceLeDiff,List.drop,List.take,dB]) | subst hK))
  all_goals (refine end_q [] [] ?_ ?_ <;> repeat' (first | exact trivial | exact vr_val _))
theorem roLies_ac (t : Tb) (x y : Int × Int) (h : Tbl t.x t.y t.v) (hs : TbSm t) : AC Tryz.prog 25 [.agg (lkC t x y)] [] [] (dB (lyB t x y)) := by
  refine krotor_looked_lies.ac (n0 := 0) (by simp) ⟨.agg _ (wals_in rfl),trivial⟩ trivial rfl ?_
  unfold crotor_looked_lies lyB
  have x2 := h.ax.two
  have y2 := h.ay.two
  have xl := ints_len t.x
  have yl := ints_len t.y
  have xa := ints_all t.x
  have ya := ints_all t.y
  have h1 := hs.1
  have h2 := hs.2.1
  have gx0 := ints_gd t.x 0 (by omega)
  have gy0 := ints_gd t.y 0 (by omega)
  have gx1 := ints_gd t.x (t.x.length - 1) (by omega)
  have gy1 := ints_gd t.y (t.y.length - 1) (by omega)
  rw [show t.x[0]?.getD 0 = iat t.x 0 from rfl] at gx0
  rw [show t.y[0]?.getD 0 = iat t.y 0 from rfl] at gy0
  rw [show t.x[t.x.length - 1]?.getD 0 = iat t.x (t.x.length - 1) from rfl] at gx1
  rw [show t.y[t.y.length - 1]?.getD 0 = iat t.y (t.y.length - 1) from rfl] at gy1
  have ex : ((t.x.length : Int) - 1).toNat = t.x.length - 1 := by omega
  have ey : ((t.y.length : Int) - 1).toNat = t.y.length - 1 := by omega
  have px : (0 : Int) < (t.x.length : Int) := by omega
  have py : (0 : Int) < (t.y.length : Int) := by omega
  have rx : (0 : Int) ≤ (t.x.length : Int) - 1 := by omega
  have ry : (0 : Int) ≤ (t.y.length : Int) - 1 := by omega
  have lx : (t.x.length : Int) - 1 < (t.x.length : Int) := by omega
  have ly : (t.y.length : Int) - 1 < (t.y.length : Int) := by omega
  unfold lkC
  generalize iat t.x 0 = a0 at *
  generalize iat t.x (t.x.length - 1) = a1 at *
  generalize iat t.y 0 = b0 at *
  generalize iat t.y (t.y.length - 1) = b1 at *
  cases q1 : decide (x.1 ≥ a0) <;> cases q2 : decide (x.2 ≤ a1) <;> cases q3 : decide (y.1 ≥ b0) <;> cases q4 : decide (y.2 ≤ b1)
  all_goals
    (repeat' (first | (with_reducible first | refine thenQ_n ?_ | refine blockQ_n ?_ | refine thenQ_e ?_ | refine blockQ_t ?_ | refine blockQ_f (by decide) ?_) | apply aw_seq | apply aw_skip | apply aw_exit | apply aw_ret | apply aw_block | apply aw_condT rfl | apply aw_condF rfl | ((first | refine aw_hide fun K hK => aw_region ?_ | refine ago_if (by omega) ?_ | skip); simp (disch := first | exact okY | omega) only [ZU,Nat.reduceAdd,Nat.reduceMul,dI,AOpRun,aexec,D.isBot,↓eget_h,or_self,↓reduceIte,D.cells,Nat.reduceBEq,run1,Int.le_refl,xa,opt1,Int.toNat_zero,gx0,isSh,abin,q1,ARun_some,AG_ft,dB,Bool.and_false,AG_tt,xl,fits,rx,ex,gx1,q2,ya,gy0,q3,yl,ry,ey,gy1,q4]) | subst hK))
    all_goals (refine end_q [] [] ?_ ?_ <;> repeat' (first | exact trivial | exact vr_val _))
theorem roCheck2_ac (t : Tb) (x y : Int × Int) (h : Tbl t.x t.y t.v) (hs : TbSm t) : AC Tryz.prog 47 [.agg (lkC t x y)] [] [] (dB (!lyB t x y)) := by
  refine krotor_check_S2.ac (n0 := 0) (by simp) ⟨.agg _ (wals_in rfl),trivial⟩ trivial rfl ?_
  unfold crotor_check_S2
  have c := roLies_ac t x y h hs
  unfold lkC at *
  (repeat' (first | (with_reducible first | refine thenQ_n ?_ | refine blockQ_n ?_ | refine thenQ_e ?_ | refine blockQ_t ?_ | refine blockQ_f (by decide) ?_) | apply aw_seq | apply aw_skip | apply aw_exit | apply aw_ret | apply aw_block | apply aw_condT rfl | apply aw_condF rfl | ((first | refine aw_hide fun K hK => aw_region ?_ | refine acall0 (c) ?_ | refine ago_if (by omega) ?_ | skip); simp (disch := first | exact okY | omega) only [ZU,Nat.reduceAdd,Nat.reduceMul,dI,AOpRun,aexec,D.isBot,↓eget_h,or_self,↓reduceIte,D.cells,Nat.reduceBEq,Nat.reduceLeDiff,List.drop,List.take,dB]) | subst hK))
  all_goals (refine end_q [] [] ?_ ?_ <;> repeat' (first | exact trivial | exact vr_val _))
def lkL (t : Tb) (x y : Int × Int) : List (List D) := [lkC t x y]
theorem roIdx3_ac (t : Tb) (x y : Int × Int) (h : Tbl t.x t.y t.v) (hs : TbSm t) : AC Tryz.prog 73 [.list (lkL t x y),.fn 47 [] []] [] [] (dI (if lyB t x y = true then -1 else 0)) := by
  refine kslices_IndexFunc_L_L_Jrotor_looked_Krotor_looked_J.ac (n0 := 0) (by simp) ⟨.list _,.fn _ _ _ (by simp) (by simp),trivial⟩ trivial rfl ?_
  unfold cslices_IndexFunc_L_L_Jrotor_looked_Krotor_looked_J
  have c := roCheck2_ac t x y h hs
  have ll : (lkL t x y).length = 1 := rfl
  have la : (lkL t x y).all (fun x => x.length == 7) = true := rfl
  have g0 : (lkL t x y)[0]? = some (lkC t x y) := rfl
  generalize lkL t x y = L at *
  unfold lkC at *
  (repeat' (first | (with_reducible first | refine thenQ_n ?_ | refine blockQ_n ?_ | refine thenQ_e ?_ | refine blockQ_t ?_ | refine blockQ_f (by decide) ?_) | apply aw_seq | apply aw_skip | apply aw_exit | apply aw_ret | apply aw_block | apply aw_condT rfl | apply aw_condF rfl | ((first | refine aw_hide fun K hK => aw_region ?_ | refine ago_if (by omega) ?_ | skip); simp (disch := first | exact okY | omega) only [ZU,Nat.reduceMul,AOpRun,aexec,Nat.reduceBEq,Nat.reduceAdd,↓eget_h,ll,cast_lit,Int.reduceNeg,dI]) | subst hK))
  refine aw_loop (fun k : Nat => ⟨[(0,.list L),(1,.fn 47 [] []),(7,dI (1 : Nat)),(8,dI k)],[],400⟩) (fun k => k ≤ 1 ∧ (k = 1 → lyB t x y = true)) (fun k => 1 - k) ⟨0,⟨by omega,fun h => by omega⟩,?_⟩ ?_
  · unfold dI
    refine wk_q [] [] ?_ ?_ <;> repeat' (first | exact trivial | exact vr_val _ | exact vr_list _ | apply vr_fn | apply And.intro)
  rintro k ⟨hk,hin⟩
  by_cases hk2 : k < 1
  · obtain rfl : k = 0 := by omega
    cases hb : lyB t x y with
    | true =>
      rw [hb] at c hin
      (repeat' (first | (with_reducible first | refine thenQ_n ?_ | refine blockQ_n ?_ | refine thenQ_e ?_ | refine blockQ_t ?_ | refine blockQ_f (by decide) ?_) | apply aw_seq | apply aw_skip | apply aw_exit | apply aw_ret | apply aw_block | apply aw_condT rfl | apply aw_condF rfl | ((first | refine aw_hide fun K hK => aw_region ?_ | refine acall0 (c) ?_ | refine ago_if (by omega) ?_ | skip); simp (disch := first | exact okY | omega) only [ZU,Nat.reduceMul,Nat.reduceAdd,dI,cast_lit,AOpRun,aexec,Nat.reduceBEq,↓eget_h,isSh,↓reduceIte,abin,Int.zero_lt_one,Int.le_refl,la,opt1,Int.toNat_zero,g0,Nat.reduceLeDiff,List.take,dB,Int.reduceAdd,fits,Nat.reduceSub]) | subst hK))
      refine ⟨1,⟨by omega,fun _ => by trivial⟩,by omega,?_⟩
      refine wk_q [] [] ?_ ?_ <;> repeat' (first | exact trivial | exact vr_val _ | exact vr_list _ | apply vr_fn | apply And.intro)
    | false =>
      rw [hb] at c
      rw [if_neg (by simp)]
      (repeat' (first | (with_reducible first | refine thenQ_n ?_ | refine blockQ_n ?_ | refine thenQ_e ?_ | refine blockQ_t ?_ | refine blockQ_f (by decide) ?_) | apply aw_seq | apply aw_skip | apply aw_exit | apply aw_ret | apply aw_block | apply aw_condT rfl | apply aw_condF rfl | ((first | refine aw_hide fun K hK => aw_region ?_ | refine acall0 (c) ?_ | refine ago_if (by omega) ?_ | skip); simp (disch := first | exact okY | omega) only [ZU,Nat.reduceMul,Nat.reduceAdd,dI,cast_lit,AOpRun,aexec,Nat.reduceBEq,↓eget_h,isSh,↓reduceIte,abin,Int.zero_lt_one,Int.le_refl,la,opt1,Int.toNat_zero,g0,Nat.reduceLeDiff,List.take,dB,blockQ]) | subst hK))
      all_goals (refine end_q [] [] ?_ ?_ <;> repeat' (first | exact trivial | exact vr_val _))
  · obtain rfl : k = 1 := by omega
    rw [if_pos (hin rfl)]
    (repeat' (first | (with_reducible first | refine thenQ_n ?_ | refine blockQ_n ?_ | refine thenQ_e ?_ | refine blockQ_t ?_ | refine blockQ_f (by decide) ?_) | apply aw_seq | apply aw_skip | apply aw_exit | apply aw_ret | apply aw_block | apply aw_condT rfl | apply aw_condF rfl | ((first | refine aw_hide fun K hK => aw_region ?_ | refine ago_if (by omega) ?_ | skip); simp (disch := first | exact okY | omega) only [ZU,Nat.reduceMul,Nat.reduceAdd,dI,cast_lit,AOpRun,aexec,Nat.reduceBEq,↓eget_h,isSh,↓reduceIte,abin,Int.reduceLT,decide_false,Int.reduceNeg]) | subst hK))
    all_goals (refine end_q [] [] ?_ ?_ <;> repeat' (first | exact trivial | exact vr_val _))
theorem roCont3_ac (t : Tb) (x y : Int × Int) (h : Tbl t.x t.y t.v) (hs : TbSm t) : AC Tryz.prog 46 [.list (lkL t x y),.fn 47 [] []] [] [] (dB (!lyB t x y)) := by
  refine kslices_ContainsFunc_L_L_Jrotor_looked_Krotor_looked_J.ac (n0 := 0) (by simp) ⟨.list _,.fn _ _ _ (by simp) (by simp),trivial⟩ trivial rfl ?_
  unfold cslices_ContainsFunc_L_L_Jrotor_looked_Krotor_looked_J
  have c := roIdx3_ac t x y h hs
  cases hb : lyB t x y with
  | true =>
    rw [hb,if_pos rfl] at c
    (repeat' (first | (with_reducible first | refine thenQ_n ?_ | refine blockQ_n ?_ | refine thenQ_e ?_ | refine blockQ_t ?_ | refine blockQ_f (by decide) ?_) | apply aw_seq | apply aw_skip | apply aw_exit | apply aw_ret | apply aw_block | apply aw_condT rfl | apply aw_condF rfl | ((first | refine aw_hide fun K hK => aw_region ?_ | refine acall0 (c) ?_ | refine ago_if (by omega) ?_ | skip); simp (disch := first | exact okY | omega) only [ZU,Nat.reduceMul,AOpRun,aexec,Nat.reduceBEq,Nat.reduceAdd,↓eget_h,dI,Int.reduceNeg,isSh,↓reduceIte,abin,dB]) | subst hK))
    all_goals (refine end_q [] [] ?_ ?_ <;> repeat' (first | exact trivial | exact vr_val _))
  | false =>
    rw [hb,if_neg (by simp)] at c
    (repeat' (first | (with_reducible first | refine thenQ_n ?_ | refine blockQ_n ?_ | refine thenQ_e ?_ | refine blockQ_t ?_ | refine blockQ_f (by decide) ?_) | apply aw_seq | apply aw_skip | apply aw_exit | apply aw_ret | apply aw_block | apply aw_condT rfl | apply aw_condF rfl | ((first | refine aw_hide fun K hK => aw_region ?_ | refine acall0 (c) ?_ | refine ago_if (by omega) ?_ | skip); simp (disch := first | exact okY | omega) only [ZU,Nat.reduceMul,AOpRun,aexec,Nat.reduceBEq,Nat.reduceAdd,↓eget_h,dI,isSh,↓reduceIte,abin,Int.le_refl,dB]) | subst hK))
    all_goals (refine end_q [] [] ?_ ?_ <;> repeat' (first | exact trivial | exact vr_val _))
theorem roLevelM_ac (r : Rot) (a : Air) (s : Int × Int) : AC Tryz.prog 117 [.agg (macC r a),spD s] [] [] (.agg (lkC r.c s a.w)) := by
  refine krotor_machine_level.ac (n0 := 0) (by simp) ⟨.agg _ (wals_in rfl),in_sp _ s.1 s.2,trivial⟩ trivial rfl ?_
  unfold crotor_machine_level macC lkC spD
  (repeat' (first | (with_reducible first | refine thenQ_n ?_ | refine blockQ_n ?_ | refine thenQ_e ?_ | refine blockQ_t ?_ | refine blockQ_f (by decide) ?_) | apply aw_seq | apply aw_skip | apply aw_exit | apply aw_ret | apply aw_block | apply aw_condT rfl | apply aw_condF rfl | ((first | refine aw_hide fun K hK => aw_region ?_ | refine ago_if (by omega) ?_ | skip); simp (disch := first | exact okY | omega) only [ZU,Nat.reduceAdd,Nat.reduceMul,dI,AOpRun,aexec,D.isBot,↓eget_h,or_self,↓reduceIte,D.cells,Nat.reduceBEq,Nat.reduceLeDiff,List.drop,List.take,↓hget_h,fillD,ne_eq,not_true_eq_false,Nat.reduceGT,splice,List.all,D.leaf]) | subst hK))
  all_goals (refine end_q [] [] ?_ ?_ <;> repeat' (first | exact trivial | exact vr_val _ | exact vr_list _ | apply vr_agg | apply And.intro))
theorem roCl1_ac (r : Rot) (a : Air) (s : Int × Int) : AC Tryz.prog 125 [.ptr 0 0,.ptr 8 0] [(0,macC r a),(8,[dI s.1,dI s.2])] [(0,some (macC r a)),(8,some [dI s.1,dI s.2])] (.list (lkL r.c s a.w)) := by
  refine krotor_checkLevel_S1.ac (n0 := 200) (by simp) ⟨.ptr _ _ (by omega),.ptr _ _ (by omega),trivial⟩ ⟨⟨by omega,wals_in (c := macC r a) rfl⟩,⟨by omega,wals_in (c := [dI s.1,dI s.2]) rfl⟩,trivial⟩ rfl ?_
  unfold crotor_checkLevel_S1
  have c := roLevelM_ac r a s
  unfold macC lkL lkC spD at *
  (repeat' (first | (with_reducible first | refine thenQ_n ?_ | refine blockQ_n ?_ | refine thenQ_e ?_ | refine blockQ_t ?_ | refine blockQ_f (by decide) ?_) | apply aw_seq | apply aw_skip | apply aw_exit | apply aw_ret | apply aw_block | apply aw_condT rfl | apply aw_condF rfl | ((first | refine aw_hide fun K hK => aw_region ?_ | refine acall0 (c) ?_ | refine ago_if (by omega) ?_ | skip); simp (disch := first | exact okY | omega) only [ZU,Nat.reduceMul,Nat.reduceAdd,dI,AOpRun,aexec,Nat.reduceBEq,↓eget_h,Nat.reduceLeDiff,↓reduceIte,List.drop,List.take,↓hget_h,fillD,D.isBot,D.cells,ne_eq,not_true_eq_false,Nat.reduceGT,or_self,splice]) | subst hK))
  refine end_q [232] [(0,0),(8,8)] ?_ ?_ <;> repeat' (first | exact trivial | exact vr_val _ | exact vr_list _ | refine vr_fl _ _ _ _ _ (by decide) rfl ?_ ?_ ?_ ?_ | refine And.intro ⟨_,rfl,_,rfl,by decide,?_⟩ ?_ | apply And.intro)
  all_goals first | rfl | (refine wals_in ?_; rfl) | (intro e he; simp at he; subst he; rfl)
end Go.Proofs.YtbncpngjclabhaaGreat
/- rotor: check, checkLevel, Level, Flow; route: Burn. No conditions. -/
namespace Go.Proofs.YtbncpngjclabhaaGreat
open Go.RowKit Lift

def lvB (r : Rot) (a : Air) (s : Int × Int) : Bool := spVB s && lyB r.c s a.w
def lvE (r : Rot) (a : Air) (s : Int × Int) : Int := if lvB r a s = true then 0 else 1
theorem airL_gd (a : Air) (h : airB a = true) (k : Nat) (hk : k < 4) : spVB ((airL a)[k]?.getD (0,0)) = true := by
  unfold airB at h
  simp only [Bool.and_eq_true] at h
  rcases (by omega : k = 0 ∨ k = 1 ∨ k = 2 ∨ k = 3) with rfl | rfl | rfl | rfl
  · exact h.1
  · exact h.2.1
  · exact h.2.2.1
  · exact h.2.2.2
theorem sps_gd2 (b : List (Int × Int)) (k : Nat) (h : k < b.length) : (sps b)[k]? = some [dI (b[k]?.getD (0,0)).1,dI (b[k]?.getD (0,0)).2] := by simp [sps,h,dI]
theorem roChk_ac (r : Rot) (a : Air) (s : Int × Int) (hs : RotSm r) (h0 : rotE r = 0) (hb : airB a = true) : AC Tryz.prog 19 [rotD r,airD a,.list (sps [s]),.fn 125 [] [.ptr 0 0,.ptr 8 0]] [(0,macC r a),(8,[dI s.1,dI s.2])] [(0,some (macC r a)),(8,some [dI s.1,dI s.2])] (dI (lvE r a s)) := by
  refine krotor_check.ac (n0 := 200) (by simp) ⟨in_rotD _ _,in_airD _ _,.list _,.fn _ _ _ (by simp) (by intro d hd; simp at hd; rcases hd with rfl | rfl <;> exact .ptr _ _ (by omega)),trivial⟩ ⟨⟨by omega,wals_in (c := macC r a) rfl⟩,⟨by omega,wals_in (c := [dI s.1,dI s.2]) rfl⟩,trivial⟩ rfl ?_
  have tc : Tbl r.c.x r.c.y r.c.v := limB_tbl ((rotE_is h0).lim 2 (by omega))
  have c1 := roCheck_ac r hs
  rw [h0] at c1
  have c2 := fun k hk => airL_gd a hb k hk
  have c3 := cfsp_ac 45 (fun x => !spVB x) roCheck1_ac [s] (by simp)
  have c4 := roCl1_ac r a s
  have c5 := roCont3_ac r.c s a.w tc (hs 2 (by omega))
  have al : (sps (airL a)).length = 4 := rfl
  have aa := sps_all (airL a)
  have ag := fun k hk => sps_gd2 (airL a) k hk
  have ha2 : (airL a).length = 4 := rfl
  unfold lvE lvB
  unfold crotor_check
  unfold rotD rotC airD airC macC at *
  refine aw_seq (aw_region ?_)
  simp (disch := first | exact okY | omega) only [ZU,dI,Nat.reduceAdd,Nat.reduceMul,AOpRun,aexec,D.isBot,↓eget_h,Nat.reduceBEq,or_self,↓reduceIte,D.cells]
  (repeat' (first | (with_reducible first | refine thenQ_n ?_ | refine blockQ_n ?_ | refine thenQ_e ?_ | refine blockQ_t ?_ | refine blockQ_f (by decide) ?_) | apply aw_seq | apply aw_skip | apply aw_exit | apply aw_ret | apply aw_block | apply aw_condT rfl | apply aw_condF rfl | ((first | refine aw_hide fun K hK => aw_region ?_ | refine acall0 (c1) ?_ | refine ago_if (by omega) ?_ | skip); simp (disch := first | exact okY | omega) only [ZU,Nat.reduceAdd,Nat.reduceMul,AOpRun,aexec,Nat.reduceBEq,↓eget_h,↓hget_h,Nat.reduceLeDiff,↓reduceIte,List.drop,List.take,dI,isSh,abin,bne_self_eq_false,fillD,D.isBot,D.cells,ne_eq,not_true_eq_false,Nat.reduceGT,or_self,splice,cast_lit]) | subst hK))
  clear c1
  refine aw_wk (s' := ⟨[(2,.list (sps [s])),(3,.fn 125 [] [.ptr 0 0,.ptr 8 0]),(25,.list (sps (airL a))),(26,dI (4 : Nat)),(27,dI (0 : Nat))],[(0,macC r a),(8,[dI s.1,dI s.2])],600⟩) ?_ ?_
  · unfold dI macC
    refine wk_q [328] [(0,0),(8,8)] ?_ ?_ <;> repeat' (first | exact trivial | exact vr_val _ | exact vr_list _ | exact vr_ptr _ _ _ rfl | apply vr_fn | refine vr_fl _ _ _ _ _ (by decide) rfl ?_ ?_ ?_ ?_ | refine And.intro ⟨_,rfl,.inl ⟨_,rfl,by decide,?_⟩⟩ ?_ | apply And.intro)
    all_goals first | exact sps_two _ | rfl | (refine wals_in ?_; rfl)
  refine aw_loop (fun k : Nat => ⟨[(2,.list (sps [s])),(3,.fn 125 [] [.ptr 0 0,.ptr 8 0]),(25,.list (sps (airL a))),(26,dI (4 : Nat)),(27,dI k)],[(0,macC r a),(8,[dI s.1,dI s.2])],600⟩) (fun k => k ≤ 4) (fun k => 4 - k) ⟨0,by omega,?_⟩ ?_
  · unfold dI macC
    refine wk_q [] [(0,0),(8,8)] ?_ ?_ <;> repeat' (first | exact trivial | exact vr_val _ | exact vr_list _ | exact vr_ptr _ _ _ rfl | apply vr_fn | refine And.intro ⟨_,rfl,.inl ⟨_,rfl,by decide,?_⟩⟩ ?_ | apply And.intro)
  intro k hk
  unfold macC
  by_cases hk2 : k < 4
  case pos =>
    have g1 := ag k (by omega)
    have v1 := roValid_ac ((airL a)[k]?.getD (0,0))
    rw [c2 k hk2] at v1
    have ki : (k : Int) < ((4 : Nat) : Int) := by omega
    have ki4 : (k : Int) < 4 := by omega
    clear c2 c3 c4 c5 ag tc
    generalize (airL a)[k]?.getD (0,0) = z at *
    generalize airL a = L at *
    (repeat' (first | (with_reducible first | refine thenQ_n ?_ | refine blockQ_n ?_ | refine thenQ_e ?_ | refine blockQ_t ?_ | refine blockQ_f (by decide) ?_) | apply aw_seq | apply aw_skip | apply aw_exit | apply aw_ret | apply aw_block | apply aw_condT rfl | apply aw_condF rfl | ((first | refine aw_hide fun K hK => aw_region ?_ | refine acall0 (v1) ?_ | refine ago_if (by omega) ?_ | skip); simp (disch := first | exact okY | omega) only [ZU,Nat.reduceMul,Nat.reduceAdd,dI,cast_lit,AOpRun,aexec,Nat.reduceBEq,↓eget_h,isSh,↓reduceIte,abin,ki4,aa,opt1,g1,Nat.reduceLeDiff,List.take,↓hget_h,D.isBot,D.cells,List.all,D.leaf,splice,List.drop,dB,fits]) | subst hK))
    refine ⟨k + 1,by omega,by omega,?_⟩
    try unfold macC
    refine wk_q [] [(0,0),(8,8)] ?_ ?_ <;> repeat' (first | exact trivial | exact vr_val _ | exact vr_list _ | exact vr_ptr _ _ _ rfl | apply vr_fn | refine And.intro ⟨_,rfl,.inl ⟨_,rfl,by decide,?_⟩⟩ ?_ | apply And.intro)
  obtain rfl : k = 4 := by omega
  clear c2 ag al aa ha2
  have q3 : ([s].any fun x => !spVB x) = !spVB s := by simp
  rw [q3] at c3
  cases h1 : spVB s with
  | false =>
    rw [h1] at c3
    (repeat' (first | (with_reducible first | refine thenQ_n ?_ | refine blockQ_n ?_ | refine thenQ_e ?_ | refine blockQ_t ?_ | refine blockQ_f (by decide) ?_) | apply aw_seq | apply aw_skip | apply aw_exit | apply aw_ret | apply aw_block | apply aw_condT rfl | apply aw_condF rfl | ((first | refine aw_hide fun K hK => aw_region ?_ | refine acall0 (c3) ?_ | refine ago_if (by omega) ?_ | skip); simp (disch := first | exact okY | omega) only [ZU,Nat.reduceMul,Nat.reduceAdd,dI,cast_lit,AOpRun,aexec,Nat.reduceBEq,↓eget_h,isSh,↓reduceIte,abin,Int.reduceLT,decide_false,dB,ARun_some,AG_tf,Bool.false_and]) | subst hK))
    all_goals (refine end_q [] [(0,0),(8,8)] ?_ ?_ <;> repeat' (first | exact trivial | exact vr_val _ | exact vr_list _ | refine And.intro ⟨_,rfl,_,rfl,by decide,?_⟩ ?_ | apply And.intro))
  | true =>
    rw [h1] at c3
    cases h2 : lyB r.c s a.w
    all_goals
      rw [h2] at c5
      (repeat' (first | (with_reducible first | refine thenQ_n ?_ | refine blockQ_n ?_ | refine thenQ_e ?_ | refine blockQ_t ?_ | refine blockQ_f (by decide) ?_) | apply aw_seq | apply aw_skip | apply aw_exit | apply aw_ret | apply aw_block | apply aw_condT rfl | apply aw_condF rfl | ((first | refine aw_hide fun K hK => aw_region ?_ | refine acall0 (c3) ?_ | refine acallB (c4) (by repeat' (first | exact trivial | exact rfl | refine And.intro ?_ ?_)) (by kernel_rfl) (by kernel_rfl) (by kernel_rfl) ?_ | refine acall0 (c5) ?_ | refine ago_if (by omega) ?_ | skip); simp (disch := first | exact okY | omega) only [ZU,Nat.reduceMul,Nat.reduceAdd,dI,cast_lit,AOpRun,aexec,Nat.reduceBEq,↓eget_h,isSh,↓reduceIte,abin,Int.reduceLT,decide_false,dB,ARun_some,AG_ff,Bool.and_false]) | subst hK))
      all_goals (refine end_q [] [(0,0),(8,8)] ?_ ?_ <;> repeat' (first | exact trivial | exact vr_val _ | exact vr_list _ | refine And.intro ⟨_,rfl,_,rfl,by decide,?_⟩ ?_ | apply And.intro))
theorem roCkL_ac (r : Rot) (a : Air) (s : Int × Int) (hs : RotSm r) (h0 : rotE r = 0) (hb : airB a = true) : AC Tryz.prog 116 [.agg (macC r a),.agg [dI s.1,dI s.2]] [] [] (dI (lvE r a s)) := by
  refine krotor_checkLevel.ac (n0 := 0) (by simp) ⟨.agg _ (wals_in (c := macC r a) rfl),in_sp _ _ _,trivial⟩ trivial rfl ?_
  have c := roChk_ac r a s hs h0 hb
  unfold crotor_checkLevel
  unfold rotD rotC airD airC macC at *
  generalize lvE r a s = E at *
  refine aw_seq (aw_region ?_)
  simp (disch := first | exact okY | omega) only [ZU,dI,Nat.reduceAdd,Nat.reduceMul,AOpRun,aexec,D.isBot,↓eget_h,or_self,↓reduceIte,D.cells,Nat.reduceBEq]
  refine aw_seq (aw_region_cut [⟨some 5, .fad 0 (.tmp 2), none, []⟩,
     ⟨some 6,.loadN 26 (.tmp 5),none,[]⟩,
     ⟨some 7,.fad 26 (.tmp 2),none,[]⟩,
     ⟨some 8,.loadN 8 (.tmp 7),none,[]⟩,
     ⟨some 9,.loadN 2 (.tmp 3),none,[]⟩,
     ⟨some 10,.buildSl 2 1 [(.val (.int .i64 0)),(.val (.int .i64 0))] [(0,2,(.tmp 9))],none,[]⟩]
     [⟨some 11,.mkfn 125 [] [(.tmp 2),(.tmp 3)],none,[]⟩,
     ⟨some 12,.call (.func 19) [(.tmp 6),(.tmp 8),(.tmp 10),(.tmp 11)],none,[]⟩,
     ⟨some 4,.mv (.tmp 12),none,[]⟩] ?_)
  simp (disch := first | exact okY | omega) only [ZU,Nat.reduceAdd,Nat.reduceMul,AOpRun,aexec,Nat.reduceBEq,↓eget_h,Nat.reduceLeDiff,↓reduceIte,List.drop,List.take,↓hget_h,fillD,D.isBot,D.cells,ne_eq,not_true_eq_false,Nat.reduceGT,or_self,splice]
  refine ⟨⟨[(2,.ptr 0 0),(3,.ptr 8 0),(6,rotD r),(8,airD a),(10,.list (sps [s]))],[(0,macC r a),(8,[dI s.1,dI s.2])],600⟩,?_,of_decide_eq_true (by kernel_rfl),?_⟩
  · unfold rotD rotC airD airC macC dI
    refine wk_q [64] [(0,0),(8,8)] ?_ ?_ <;> repeat' (first | exact trivial | exact vr_val _ | exact vr_list _ | exact vr_ptr _ _ _ rfl | apply vr_agg | refine vr_fl _ _ _ _ _ (by decide) rfl ?_ ?_ ?_ ?_ | refine And.intro ⟨_,rfl,.inl ⟨_,rfl,by decide,?_⟩⟩ ?_ | apply And.intro)
    all_goals first | exact sps_two _ | rfl | (refine wals_in ?_; rfl)
  unfold rotD rotC airD airC macC
  simp (disch := first | exact okY | omega) only [ZU,Nat.reduceSub,Nat.reduceAdd,dI,Nat.reduceBEq,eget_n,↓eget_h]
  (repeat' (first | (with_reducible first | refine thenQ_n ?_ | refine blockQ_n ?_ | refine thenQ_e ?_ | refine blockQ_t ?_ | refine blockQ_f (by decide) ?_) | apply aw_seq | apply aw_skip | apply aw_exit | apply aw_ret | apply aw_block | apply aw_condT rfl | apply aw_condF rfl | ((first | refine aw_hide fun K hK => aw_region ?_ | refine acallB (c) (by repeat' (first | exact trivial | exact rfl | refine And.intro ?_ ?_)) (by kernel_rfl) (by kernel_rfl) (by kernel_rfl) ?_ | refine ago_if (by omega) ?_ | skip); simp (disch := first | exact okY | omega) only [ZU,Nat.reduceAdd,dI,Nat.reduceBEq,AOpRun,aexec,↓eget_h]) | subst hK))
  all_goals (refine end_q [] [] ?_ ?_ <;> repeat' (first | exact trivial | exact vr_val _))
theorem roBound_ac (t : Tb) (x y : Int × Int) (hs : TbSm t) : AC Tryz.prog 49 [.agg (lkC t x y)] [] [] (.agg [dI (boundR t.x t.y t.v x y).1.1,dI (boundR t.x t.y t.v x y).1.2]) := by
  refine krotor_looked_bound.ac (n0 := 0) (by simp) ⟨.agg _ (wals_in (c := lkC t x y) rfl),trivial⟩ trivial rfl ?_
  have c := bound_ac x y hs.sz
  unfold crotor_looked_bound
  unfold tabD spD lkC at *
  generalize boundR t.x t.y t.v x y = B at *
  obtain ⟨⟨B1,B2⟩,B3⟩ := B
  (repeat' (first | (with_reducible first | refine thenQ_n ?_ | refine blockQ_n ?_ | refine thenQ_e ?_ | refine blockQ_t ?_ | refine blockQ_f (by decide) ?_) | apply aw_seq | apply aw_skip | apply aw_exit | apply aw_ret | apply aw_block | apply aw_condT rfl | apply aw_condF rfl | ((first | refine aw_hide fun K hK => aw_region ?_ | refine acall0 (c) ?_ | refine ago_if (by omega) ?_ | skip); simp (disch := first | exact okY | omega) only [ZU,Nat.reduceAdd,Nat.reduceMul,dI,AOpRun,aexec,D.isBot,↓eget_h,or_self,↓reduceIte,D.cells,Nat.reduceBEq,Nat.reduceLeDiff,List.drop,List.take,opt1,↓hget_h,List.all,D.leaf,splice]) | subst hK))
  all_goals (refine end_q [] [] ?_ ?_ <;> repeat' (first | exact trivial | exact vr_val _ | apply vr_agg | apply And.intro))
def lvR (r : Rot) (a : Air) (s : Int × Int) : (Int × Int) × Int := if lvB r a s = true then ((boundR r.c.x r.c.y r.c.v s a.w).1,0) else ((0,0),1)
theorem roLevel_ac (r : Rot) (a : Air) (s : Int × Int) (hs : RotSm r) (h0 : rotE r = 0) (hb : airB a = true) : AC Tryz.prog 96 [rotD r,airD a,.agg [dI s.1,dI s.2]] [] [] (.tup [.agg [dI (lvR r a s).1.1,dI (lvR r a s).1.2],dI (lvR r a s).2]) := by
  refine krotor_Level.ac (n0 := 0) (by simp) ⟨in_rotD _ _,in_airD _ _,in_sp _ _ _,trivial⟩ trivial rfl ?_
  have c1 := roCkL_ac r a s hs h0 hb
  have c2 := roLevelM_ac r a s
  have c3 := roBound_ac r.c s a.w (hs 2 (by omega))
  unfold crotor_Level
  unfold lvE at c1
  unfold lvR
  unfold rotD rotC airD airC macC lkC spD at *
  generalize boundR r.c.x r.c.y r.c.v s a.w = B at *
  obtain ⟨⟨B1,B2⟩,B3⟩ := B
  cases h : lvB r a s
  all_goals
    simp only [h,if_true,if_false,Bool.false_eq_true] at c1 ⊢
    (repeat' (first | (with_reducible first | refine thenQ_n ?_ | refine blockQ_n ?_ | refine thenQ_e ?_ | refine blockQ_t ?_ | refine blockQ_f (by decide) ?_) | apply aw_seq | apply aw_skip | apply aw_exit | apply aw_ret | apply aw_block | apply aw_condT rfl | apply aw_condF rfl | ((first | refine aw_hide fun K hK => aw_region ?_ | refine acall0 (c1) ?_ | refine acall0 (c2) ?_ | refine acall0 (c3) ?_ | refine ago_if (by omega) ?_ | skip); simp (disch := first | exact okY | omega) only [ZU,Nat.reduceAdd,Nat.reduceMul,dI,AOpRun,aexec,D.isBot,↓eget_h,or_self,↓reduceIte,D.cells,Nat.reduceBEq,Nat.reduceLeDiff,List.drop,List.take,↓hget_h,fillD,ne_eq,not_true_eq_false,Nat.reduceGT,splice,List.all,D.leaf,isSh,abin,Int.reduceBNe,bne_self_eq_false]) | subst hK))
    all_goals (refine end_q [] [] ?_ ?_ <;> repeat' (first | exact trivial | exact vr_val _ | apply vr_agg | apply vr_tup | apply And.intro))
end Go.Proofs.YtbncpngjclabhaaGreat
/- At each point of a box the value of a table lies between the ends of its bound. In numbers; no conditions. -/
namespace Go.Proofs.YtbncpngjclabhaaGreat

def flo (xs ys : List Int) (vs : List (List Int)) (x y : Int) : Int := atN xs ys vs x y / atD xs ys x y
def cei (xs ys : List Int) (vs : List (List Int)) (x y : Int) : Int := -(-(atN xs ys vs x y) / atD xs ys x y)
end Go.Proofs.YtbncpngjclabhaaGreat
/- The ends of a bound: no value at a point of the box is beyond them, and each is one. In numbers; no conditions. -/
namespace Go.Proofs.YtbncpngjclabhaaGreat

structure BndIs (xs ys : List Int) (vs : List (List Int)) (x y b : Int × Int) : Prop where
  all : ∀ u v,x.1 ≤ u → u ≤ x.2 → y.1 ≤ v → v ≤ y.2 → b.1 ≤ flo xs ys vs u v ∧ cei xs ys vs u v ≤ b.2
  low : ∃ u v,x.1 ≤ u ∧ u ≤ x.2 ∧ y.1 ≤ v ∧ v ≤ y.2 ∧ flo xs ys vs u v = b.1
  top : cei xs ys vs (wst xs ys vs x y).1 (wst xs ys vs x y).2 = b.2 ∧ x.1 ≤ (wst xs ys vs x y).1 ∧ (wst xs ys vs x y).1 ≤ x.2 ∧ y.1 ≤ (wst xs ys vs x y).2 ∧ (wst xs ys vs x y).2 ≤ y.2
end Go.Proofs.YtbncpngjclabhaaGreat
/- Less air, less fuel: the law in numbers. No conditions. -/
namespace Go.Proofs.YtbncpngjclabhaaGreat

theorem spVB_t {x : Int × Int} (h : spVB x = true) : -1000000 ≤ x.1 ∧ x.1 ≤ x.2 ∧ x.2 ≤ 1000000 := by
  unfold spVB wI at h
  simp only [Bool.and_eq_true,decide_eq_true_eq] at h
  omega
end Go.Proofs.YtbncpngjclabhaaGreat
/- The margin of power, in numbers: with less weights it is not less. No conditions. -/
namespace Go.Proofs.YtbncpngjclabhaaGreat

open Lift
structure MgOk (r : Rot) (a : Air) (s : Int × Int) : Prop where
  ah : boundR r.a.x r.a.y r.a.v a.w a.t = (bnd r.a.x r.a.y r.a.v a.w a.t,0)
  ag : boundR r.b.x r.b.y r.b.v s a.d = (bnd r.b.x r.b.y r.b.v s a.d,0)
  ap : boundR r.d.x r.d.y r.d.v a.t a.h = (bnd r.d.x r.d.y r.d.v a.t a.h,0)
  h : OnT r.a.x r.a.y r.a.v a.w a.t
  g : OnT r.b.x r.b.y r.b.v s a.d
  p : OnT r.d.x r.d.y r.d.v a.t a.h
  bh : 0 ≤ (bnd r.a.x r.a.y r.a.v a.w a.t).1 ∧ (bnd r.a.x r.a.y r.a.v a.w a.t).1 ≤ (bnd r.a.x r.a.y r.a.v a.w a.t).2 ∧ (bnd r.a.x r.a.y r.a.v a.w a.t).2 ≤ 100000
  bg : 0 ≤ (bnd r.b.x r.b.y r.b.v s a.d).1 ∧ (bnd r.b.x r.b.y r.b.v s a.d).1 ≤ (bnd r.b.x r.b.y r.b.v s a.d).2 ∧ (bnd r.b.x r.b.y r.b.v s a.d).2 ≤ 100
  bp : 0 ≤ (bnd r.d.x r.d.y r.d.v a.t a.h).1 ∧ (bnd r.d.x r.d.y r.d.v a.t a.h).1 ≤ (bnd r.d.x r.d.y r.d.v a.t a.h).2 ∧ (bnd r.d.x r.d.y r.d.v a.t a.h).2 ≤ 100000
end Go.Proofs.YtbncpngjclabhaaGreat
/- The functions' bodies, translated. Written by a program; no conditions. -/
namespace Go.Proofs.YtbncpngjclabhaaGreat
open Go.RowKit Lift

def crotor_machine_power : ACode :=
 (.seq
 (.region false [oo 1 (.box (.tmp 0)),
 oo 2 (.mem [(.val (.slice none 0 0)),(.val (.slice none 0 0)),(.val (.slice none 0 0)),(.val (.int .i64 0)),(.val (.int .i64 0)),(.val (.int .i64 0)),(.val (.int .i64 0))])] [])
 (.seq
 (.region false [oo 3 (.fad 0 (.tmp 1)),
 oo 4 (.fad 9 (.tmp 3)),
 oo 5 (.loadN 3 (.tmp 4)),
 oo 6 (.fad 26 (.tmp 1)),
 oo 7 (.fad 2 (.tmp 6)),
 oo 8 (.loadN 2 (.tmp 7)),
 oo 9 (.fad 26 (.tmp 1)),
 oo 10 (.fad 4 (.tmp 9)),
 oo 11 (.loadN 2 (.tmp 10)),
 oo 12 (.build [(.val (.slice none 0 0)),(.val (.slice none 0 0)),(.val (.slice none 0 0)),(.val (.int .i64 0)),(.val (.int .i64 0)),(.val (.int .i64 0)),(.val (.int .i64 0))] [(0,3,(.tmp 5)),(3,2,(.tmp 8)),(5,2,(.tmp 11))]),
 on (.store 7 (.tmp 2) (.tmp 12))] [3,4,5,6,7,8,9,10,11,12])
 .ret))
theorem krotor_machine_power : IsCode Tryz.prog 114 13 crotor_machine_power [.cellN 2 7] :=
 ⟨Tryz.f114,_,[0,1,2],Tryz.func114,rfl,by decide,rfl,by kernel_rfl,by kernel_rfl⟩
end Go.Proofs.YtbncpngjclabhaaGreat
/- rotor: Margin (views last). No conditions. -/
namespace Go.Proofs.YtbncpngjclabhaaGreat
open Go.RowKit Lift

theorem roPowerM_ac (r : Rot) (a : Air) : AC Tryz.prog 114 [.agg (macC r a)] [] [] (.agg (lkC r.d a.t a.h)) := by
  refine krotor_machine_power.ac (n0 := 0) (by simp) ⟨.agg _ (wals_in rfl),trivial⟩ trivial rfl ?_
  unfold crotor_machine_power macC lkC
  (have hg : (987654321 : Nat) - 987654321 = 0 := rfl; have hr := hg; repeat' (first | (with_reducible first | refine thenQ_n ?_ | refine blockQ_n ?_ | refine thenQ_e ?_ | refine blockQ_t ?_ | refine blockQ_f (by decide) ?_) | apply aw_seq | apply aw_skip | apply aw_exit | apply aw_ret | apply aw_block | apply aw_condT rfl | apply aw_condF rfl | (refine aw_cond rfl (fun hg => ?_) (fun hg => ?_) <;> (try (have hq := hg; simp only [Bool.not_eq_true',Bool.not_eq_false',Bool.and_eq_true,Bool.and_eq_false_iff,Bool.or_eq_true,Bool.or_eq_false_iff,decide_eq_true_eq,decide_eq_false_iff_not,bne_iff_ne,beq_iff_eq,beq_eq_false_iff_ne,bne_eq_false_iff_eq,ne_eq,Int.not_lt,Int.not_le,Decidable.not_not] at hq)) <;> (try (have hr := hg; simp only [decide_eq_true_eq,decide_eq_false_iff_not] at hr)) <;> (try (exfalso; omega))) | (refine ag_bool (fun hg => ?_) (fun hg => ?_) <;> (try (have hq := hg; simp only [Bool.not_eq_true',Bool.not_eq_false',Bool.and_eq_true,Bool.and_eq_false_iff,Bool.or_eq_true,Bool.or_eq_false_iff,decide_eq_true_eq,decide_eq_false_iff_not,bne_iff_ne,beq_iff_eq,beq_eq_false_iff_ne,bne_eq_false_iff_eq,ne_eq,Int.not_lt,Int.not_le,Decidable.not_not] at hq)) <;> (try (have hr := hg; simp only [decide_eq_true_eq,decide_eq_false_iff_not] at hr)) <;> (try (exfalso; omega)) <;> simp (disch := first | exact okY | omega) only [ARun_nil,ARun_none,ARun_some,ARun_skip,AOpRun,AGo_f,AGo_ok,AG_tt,AG_ff,AG_tf,AG_ft,AG_un,aexec,run1,asI,elems,base,opt1,fillD,splice,abin,ash,isSh,foldI,mn2,mx2,↓eget_h,eget_c,eget_n,eput_c,eput_n,putO,↓hget_h,hget_c,hget_n,hput_c,hput_n,hdel_c,hdel_n,hups,cond_true,cond_false,  ups,St.F,St.app,FSt.ev,dropE_c,dropE_n,inL_c,inL_n,envOf,thenQ,blockQ,D.isBot,D.isAgg,D.cells,D.leaf,scalarEq,eqCells,isB,Option.map,List.map,List.length,List.all,List.append,List.take,List.drop,List.cons_append,List.nil_append,List.append_nil,Option.isSome,List.getElem?_cons_zero,List.getElem?_cons_succ,if_true,if_false,true_and,and_true,Bool.not_true,Bool.not_false,Bool.true_or,Bool.false_or,Bool.or_true,Bool.or_false,Bool.false_eq_true,↓reduceIte,Nat.reduceAdd,Nat.reduceMul,Nat.reduceEqDiff,Nat.reduceBEq,Nat.reduceSub,Nat.zero_add,Nat.reduceLeDiff,Nat.reduceGT,Nat.reduceLT,Nat.reduceBNe,okLog_f,reduceCtorEq,or_self,or_false,false_or,or_true,true_or,and_self,and_false,false_and,not_true_eq_false,not_false_eq_true,ne_eq,Bool.and_true,Bool.true_and,Bool.and_false,Bool.false_and,decide_eq_true_eq,decide_true,decide_false,Int.reduceBEq,Int.reduceBNe,Int.reduceLT,Int.reduceLE,Int.reduceAdd,Int.reduceSub,Int.reduceMul,Int.reduceNeg,Int.reduceEq,Int.toNat_zero,Int.reduceToNat,Int.zero_lt_one,Nat.zero_le,Int.le_refl,beq_self_eq_true,bne_self_eq_false,cast_lit,fits,wrap_in,Int.toNat_natCast,Int.natCast_nonneg,dI,dB,hg,hr]) | ((first | refine aw_hide fun K hK => aw_region ?_ | refine ago_if (by omega) ?_ | skip); simp (disch := first | exact okY | omega) only [ARun_nil,ARun_none,ARun_some,ARun_skip,AOpRun,AGo_f,AGo_ok,AG_tt,AG_ff,AG_tf,AG_ft,AG_un,aexec,run1,asI,elems,base,opt1,fillD,splice,abin,ash,isSh,foldI,mn2,mx2,↓eget_h,eget_c,eget_n,eput_c,eput_n,putO,↓hget_h,hget_c,hget_n,hput_c,hput_n,hdel_c,hdel_n,hups,cond_true,cond_false,  ups,St.F,St.app,FSt.ev,dropE_c,dropE_n,inL_c,inL_n,envOf,thenQ,blockQ,D.isBot,D.isAgg,D.cells,D.leaf,scalarEq,eqCells,isB,Option.map,List.map,List.length,List.all,List.append,List.take,List.drop,List.cons_append,List.nil_append,List.append_nil,Option.isSome,List.getElem?_cons_zero,List.getElem?_cons_succ,if_true,if_false,true_and,and_true,Bool.not_true,Bool.not_false,Bool.true_or,Bool.false_or,Bool.or_true,Bool.or_false,Bool.false_eq_true,↓reduceIte,Nat.reduceAdd,Nat.reduceMul,Nat.reduceEqDiff,Nat.reduceBEq,Nat.reduceSub,Nat.zero_add,Nat.reduceLeDiff,Nat.reduceGT,Nat.reduceLT,Nat.reduceBNe,okLog_f,reduceCtorEq,or_self,or_false,false_or,or_true,true_or,and_self,and_false,false_and,not_true_eq_false,not_false_eq_true,ne_eq,Bool.and_true,Bool.true_and,Bool.and_false,Bool.false_and,decide_eq_true_eq,decide_true,decide_false,Int.reduceBEq,Int.reduceBNe,Int.reduceLT,Int.reduceLE,Int.reduceAdd,Int.reduceSub,Int.reduceMul,Int.reduceNeg,Int.reduceEq,Int.toNat_zero,Int.reduceToNat,Int.zero_lt_one,Nat.zero_le,Int.le_refl,beq_self_eq_true,bne_self_eq_false,cast_lit,fits,wrap_in,Int.toNat_natCast,Int.natCast_nonneg,dI,dB,hg,hr]) | subst hK))
  all_goals (refine end_q [] [] ?_ ?_ <;> repeat' (first | exact trivial | exact vr_val _ | exact vr_list _ | exact vr_at _ | exact vr_nil | exact vr_cap0 | exact vr_vec _ _ _ _ rfl | exact vr_own _ _ _ _ _ rfl | exact vr_ptr _ _ _ rfl | exact vr_nilv _ _ _ rfl | exact vr_bot _ | exact vr_cap0v _ _ _ rfl | exact vr_cap0l | apply vr_agg | apply vr_tup | apply vr_fn | refine vr_yld _ _ _ rfl ?_ | exact Ren.bot _ | exact Ren.val _ | exact Ren.list _ | exact Ren.at_ _ | exact Ren.ptr _ _ _ rfl | refine Ren.yld _ _ _ _ _ rfl rfl (RenL.get ?_).2 (fun _ _ _ h => h) | refine vr_fl _ _ _ _ _ (by decide) rfl ?_ ?_ ?_ ?_ | refine And.intro ⟨_,rfl,.inl ⟨_,rfl,by decide,?_⟩⟩ ?_ | refine And.intro ⟨_,rfl,_,rfl,by decide,?_⟩ ?_ | refine And.intro ⟨_,rfl,.inr ⟨rfl,rfl,of_decide_eq_true (by kernel_rfl)⟩⟩ ?_ | apply And.intro | refine vr_valq ?_ | refine vr_listq ?_ | exact vrl_flat _ (by first | exact icells_in _ | exact rcells_in _ | exact scells_in _ | exact bcells_in _ | assumption) | fail))
structure Lk where
  t : Tb
  x : Int × Int
  y : Int × Int
instance : Inhabited Lk := ⟨⟨⟨[],[],[]⟩,(0,0),(0,0)⟩⟩
end Go.Proofs.YtbncpngjclabhaaGreat
/- The functions' bodies, translated. Written by a program; no conditions. -/
namespace Go.Proofs.YtbncpngjclabhaaGreat
open Go.RowKit Lift

def crotor_Has : ACode :=
 (.seq
 (.region false [oo 2 (.box (.tmp 0)),
 oo 3 (.box (.tmp 1)),
 oo 4 (.mem [(.val (.int .i64 0)),(.val (.int .i64 0))]),
 oo 5 (.mv (kI 0))] [])
 (.seq
 (.region false [oo 8 (.loadN 26 (.tmp 2)),
 oo 9 (.loadN 8 (.tmp 3)),
 oo 10 (.build [(.val (.slice none 0 0)),(.val (.slice none 0 0)),(.val (.slice none 0 0)),(.val (.slice none 0 0)),(.val (.slice none 0 0)),(.val (.slice none 0 0)),(.val (.slice none 0 0)),(.val (.slice none 0 0)),(.val (.slice none 0 0)),(.val (.slice none 0 0)),(.val (.slice none 0 0)),(.val (.slice none 0 0)),(.val (.slice none 0 0)),(.val (.slice none 0 0)),(.val (.slice none 0 0)),(.val (.slice none 0 0)),(.val (.slice none 0 0)),(.val (.slice none 0 0)),(.val (.slice none 0 0)),(.val (.slice none 0 0)),(.val (.slice none 0 0)),(.val (.slice none 0 0)),(.val (.slice none 0 0)),(.val (.slice none 0 0)),(.val (.int .i64 0)),(.val (.int .i64 0)),(.val (.int .i64 0)),(.val (.int .i64 0)),(.val (.int .i64 0)),(.val (.int .i64 0)),(.val (.int .i64 0)),(.val (.int .i64 0)),(.val (.int .i64 0)),(.val (.int .i64 0))] [(0,26,(.tmp 8)),(26,8,(.tmp 9))]),
 oo 6 (.mem [(.val (.slice none 0 0)),(.val (.slice none 0 0)),(.val (.slice none 0 0)),(.val (.slice none 0 0)),(.val (.slice none 0 0)),(.val (.slice none 0 0)),(.val (.slice none 0 0)),(.val (.slice none 0 0)),(.val (.slice none 0 0)),(.val (.slice none 0 0)),(.val (.slice none 0 0)),(.val (.slice none 0 0)),(.val (.slice none 0 0)),(.val (.slice none 0 0)),(.val (.slice none 0 0)),(.val (.slice none 0 0)),(.val (.slice none 0 0)),(.val (.slice none 0 0)),(.val (.slice none 0 0)),(.val (.slice none 0 0)),(.val (.slice none 0 0)),(.val (.slice none 0 0)),(.val (.slice none 0 0)),(.val (.slice none 0 0)),(.val (.int .i64 0)),(.val (.int .i64 0)),(.val (.int .i64 0)),(.val (.int .i64 0)),(.val (.int .i64 0)),(.val (.int .i64 0)),(.val (.int .i64 0)),(.val (.int .i64 0)),(.val (.int .i64 0)),(.val (.int .i64 0))]),
 on (.store 34 (.tmp 6) (.tmp 10))] [8,9,10])
 (.seq
 (.seq
 (.region false [oo 11 (.loadN 26 (.tmp 2)),
 oo 12 (.loadN 8 (.tmp 3)),
 oo 13 (.mkfn 113 [] [(.tmp 6)]),
 oo 14 (.call (.func 19) [(.tmp 11),(.tmp 12),(.const (.slice none 0 0)),(.tmp 13)]),
 om 7 14] [11,12,13,14])
 (.seq
 (.region false [om 15 7,
 oo 16 (.bin .neq (.tmp 15) (kI 0))] [15])
 (.cond (.tmp 16)
 (.seq
 (.region false [oo 17 (.build [(.val (.int .i64 0)),(.val (.int .i64 0))] []),
 om 18 7,
 on (.store 2 (.tmp 4) (.tmp 17)),
 om 5 18] [17,18])
 .ret)
 .skip)))
 (.seq
 (.region false [oo 19 (.loadN 34 (.tmp 6)),
 oo 20 (.call (.func 114) [(.tmp 19)]),
 oo 21 (.call (.func 49) [(.tmp 20)]),
 on (.store 2 (.tmp 4) (.tmp 21)),
 oo 5 (.mv (kI 0))] [19,20,21])
 .ret))))
theorem krotor_Has : IsCode Tryz.prog 94 22 crotor_Has [.cellN 4 2, .tmp 5] :=
 ⟨Tryz.f94,_,[16,0,1,2,3,6,7,4,5],Tryz.func94,rfl,by decide,rfl,by kernel_rfl,by kernel_rfl⟩
def crotor_Has_S1 : ACode :=
 (.seq
 (.region false [oo 1 (.mv (.const (.slice none 0 0)))] [])
 (.seq
 (.region false [oo 2 (.loadN 34 (.tmp 0)),
 oo 3 (.call (.func 114) [(.tmp 2)]),
 oo 4 (.buildSl 7 1 [(.val (.slice none 0 0)),(.val (.slice none 0 0)),(.val (.slice none 0 0)),(.val (.int .i64 0)),(.val (.int .i64 0)),(.val (.int .i64 0)),(.val (.int .i64 0))] [(0,7,(.tmp 3))]),
 om 1 4] [2,3,4])
 .ret))
theorem krotor_Has_S1 : IsCode Tryz.prog 113 5 crotor_Has_S1 [.tmp 1] :=
 ⟨Tryz.f113,_,[0,1],Tryz.func113,rfl,by decide,rfl,by kernel_rfl,by kernel_rfl⟩
def crotor_machine_ring : ACode :=
 (.seq
 (.region false [oo 2 (.box (.tmp 0)),
 oo 3 (.box (.tmp 1)),
 oo 4 (.mem [(.val (.slice none 0 0)),(.val (.slice none 0 0)),(.val (.slice none 0 0)),(.val (.int .i64 0)),(.val (.int .i64 0)),(.val (.int .i64 0)),(.val (.int .i64 0))])] [])
 (.seq
 (.region false [oo 5 (.fad 0 (.tmp 2)),
 oo 6 (.fad 15 (.tmp 5)),
 oo 7 (.loadN 3 (.tmp 6)),
 oo 8 (.loadN 2 (.tmp 3)),
 oo 9 (.fad 26 (.tmp 2)),
 oo 10 (.fad 0 (.tmp 9)),
 oo 11 (.loadN 2 (.tmp 10)),
 oo 12 (.build [(.val (.slice none 0 0)),(.val (.slice none 0 0)),(.val (.slice none 0 0)),(.val (.int .i64 0)),(.val (.int .i64 0)),(.val (.int .i64 0)),(.val (.int .i64 0))] [(0,3,(.tmp 7)),(3,2,(.tmp 8)),(5,2,(.tmp 11))]),
 on (.store 7 (.tmp 4) (.tmp 12))] [5,6,7,8,9,10,11,12])
 .ret))
theorem krotor_machine_ring : IsCode Tryz.prog 21 13 crotor_machine_ring [.cellN 4 7] :=
 ⟨Tryz.f21,_,[0,1,2,3,4],Tryz.func21,rfl,by decide,rfl,by kernel_rfl,by kernel_rfl⟩
def crotor_machine_wake : ACode :=
 (.seq
 (.region false [oo 3 (.box (.tmp 0)),
 oo 4 (.box (.tmp 1)),
 oo 5 (.box (.tmp 2)),
 oo 6 (.mv (.const (.bool false)))] [])
 (.seq
 (.region false [oo 9 (.loadN 34 (.tmp 3)),
 oo 10 (.loadN 2 (.tmp 4)),
 oo 11 (.call (.func 21) [(.tmp 9),(.tmp 10)]),
 oo 12 (.call (.func 49) [(.tmp 11)]),
 oo 13 (.fld1 0 (.tmp 12)),
 om 7 13] [9,10,11,12,13])
 (.seq
 (.region false [oo 14 (.fad 0 (.tmp 3)),
 oo 15 (.fad 18 (.tmp 14)),
 oo 16 (.loadN 3 (.tmp 15)),
 oo 17 (.loadN 2 (.tmp 4)),
 oo 18 (.fad 26 (.tmp 3)),
 oo 19 (.fad 0 (.tmp 18)),
 oo 20 (.loadN 2 (.tmp 19)),
 oo 21 (.build [(.val (.slice none 0 0)),(.val (.slice none 0 0)),(.val (.slice none 0 0)),(.val (.int .i64 0)),(.val (.int .i64 0)),(.val (.int .i64 0)),(.val (.int .i64 0))] [(0,3,(.tmp 16)),(3,2,(.tmp 17)),(5,2,(.tmp 20))]),
 oo 22 (.call (.func 49) [(.tmp 21)]),
 oo 23 (.fld1 1 (.tmp 22)),
 om 8 23] [14,15,16,17,18,19,20,21,22,23])
 (.seq
 (.region false [oo 24 (.fad 1 (.tmp 5)),
 oo 25 (.load1 (.tmp 24)),
 om 26 7,
 oo 27 (.bin .geq (.tmp 25) (.tmp 26)),
 om 28 27,
 og 29 28 true (.fad 0 (.tmp 5)) [],
 og 30 28 true (.load1 (.tmp 29)) [],
 og 31 28 true (.mv (.tmp 8)) [],
 og 32 28 true (.bin .leq (.tmp 30) (.tmp 31)) [],
 oo 33 (.pick (.tmp 28) (.tmp 32) (.const (.bool false))),
 om 6 33] [24,25,26,27,28,29,30,31,32,33])
 .ret))))
theorem krotor_machine_wake : IsCode Tryz.prog 26 34 crotor_machine_wake [.tmp 6] :=
 ⟨Tryz.f26,_,[0,1,2,3,4,5,7,8,6],Tryz.func26,rfl,by decide,rfl,by kernel_rfl,by kernel_rfl⟩
def crotor_Wake : ACode :=
 (.seq
 (.region false [oo 4 (.box (.tmp 0)),
 oo 5 (.box (.tmp 1)),
 oo 6 (.box (.tmp 2)),
 oo 7 (.box (.tmp 3)),
 oo 8 (.mv (.const (.bool false))),
 oo 9 (.mv (kI 0))] [])
 (.seq
 (.region false [oo 12 (.loadN 26 (.tmp 4)),
 oo 13 (.loadN 8 (.tmp 5)),
 oo 14 (.build [(.val (.slice none 0 0)),(.val (.slice none 0 0)),(.val (.slice none 0 0)),(.val (.slice none 0 0)),(.val (.slice none 0 0)),(.val (.slice none 0 0)),(.val (.slice none 0 0)),(.val (.slice none 0 0)),(.val (.slice none 0 0)),(.val (.slice none 0 0)),(.val (.slice none 0 0)),(.val (.slice none 0 0)),(.val (.slice none 0 0)),(.val (.slice none 0 0)),(.val (.slice none 0 0)),(.val (.slice none 0 0)),(.val (.slice none 0 0)),(.val (.slice none 0 0)),(.val (.slice none 0 0)),(.val (.slice none 0 0)),(.val (.slice none 0 0)),(.val (.slice none 0 0)),(.val (.slice none 0 0)),(.val (.slice none 0 0)),(.val (.int .i64 0)),(.val (.int .i64 0)),(.val (.int .i64 0)),(.val (.int .i64 0)),(.val (.int .i64 0)),(.val (.int .i64 0)),(.val (.int .i64 0)),(.val (.int .i64 0)),(.val (.int .i64 0)),(.val (.int .i64 0))] [(0,26,(.tmp 12)),(26,8,(.tmp 13))]),
 oo 10 (.mem [(.val (.slice none 0 0)),(.val (.slice none 0 0)),(.val (.slice none 0 0)),(.val (.slice none 0 0)),(.val (.slice none 0 0)),(.val (.slice none 0 0)),(.val (.slice none 0 0)),(.val (.slice none 0 0)),(.val (.slice none 0 0)),(.val (.slice none 0 0)),(.val (.slice none 0 0)),(.val (.slice none 0 0)),(.val (.slice none 0 0)),(.val (.slice none 0 0)),(.val (.slice none 0 0)),(.val (.slice none 0 0)),(.val (.slice none 0 0)),(.val (.slice none 0 0)),(.val (.slice none 0 0)),(.val (.slice none 0 0)),(.val (.slice none 0 0)),(.val (.slice none 0 0)),(.val (.slice none 0 0)),(.val (.slice none 0 0)),(.val (.int .i64 0)),(.val (.int .i64 0)),(.val (.int .i64 0)),(.val (.int .i64 0)),(.val (.int .i64 0)),(.val (.int .i64 0)),(.val (.int .i64 0)),(.val (.int .i64 0)),(.val (.int .i64 0)),(.val (.int .i64 0))]),
 on (.store 34 (.tmp 10) (.tmp 14))] [12,13,14])
 (.seq
 (.seq
 (.region false [oo 15 (.loadN 26 (.tmp 4)),
 oo 16 (.loadN 8 (.tmp 5)),
 oo 17 (.loadN 2 (.tmp 6)),
 oo 18 (.loadN 2 (.tmp 7)),
 oo 19 (.buildSl 2 2 [(.val (.int .i64 0)),(.val (.int .i64 0)),(.val (.int .i64 0)),(.val (.int .i64 0))] [(0,2,(.tmp 17)),(2,2,(.tmp 18))]),
 oo 20 (.mkfn 118 [] [(.tmp 10),(.tmp 6)]),
 oo 21 (.call (.func 19) [(.tmp 15),(.tmp 16),(.tmp 19),(.tmp 20)]),
 om 11 21] [15,16,17,18,19,20,21])
 (.seq
 (.region false [om 22 11,
 oo 23 (.bin .neq (.tmp 22) (kI 0))] [22])
 (.cond (.tmp 23)
 (.seq
 (.region false [om 24 11,
 oo 8 (.mv (.const (.bool false))),
 om 9 24] [24])
 .ret)
 .skip)))
 (.seq
 (.region false [oo 25 (.loadN 34 (.tmp 10)),
 oo 26 (.loadN 2 (.tmp 6)),
 oo 27 (.loadN 2 (.tmp 7)),
 oo 28 (.call (.func 26) [(.tmp 25),(.tmp 26),(.tmp 27)]),
 om 8 28,
 oo 9 (.mv (kI 0))] [25,26,27,28])
 .ret))))
theorem krotor_Wake : IsCode Tryz.prog 98 29 crotor_Wake [.tmp 8, .tmp 9] :=
 ⟨Tryz.f98,_,[23,0,1,2,3,4,5,6,7,10,11,8,9],Tryz.func98,rfl,by decide,rfl,by kernel_rfl,by kernel_rfl⟩
def crotor_Wake_S1 : ACode :=
 (.seq
 (.region false [oo 2 (.mv (.const (.slice none 0 0)))] [])
 (.seq
 (.region false [oo 3 (.loadN 34 (.tmp 0)),
 oo 4 (.loadN 2 (.tmp 1)),
 oo 5 (.call (.func 21) [(.tmp 3),(.tmp 4)]),
 oo 6 (.buildSl 7 1 [(.val (.slice none 0 0)),(.val (.slice none 0 0)),(.val (.slice none 0 0)),(.val (.int .i64 0)),(.val (.int .i64 0)),(.val (.int .i64 0)),(.val (.int .i64 0))] [(0,7,(.tmp 5))]),
 om 2 6] [3,4,5,6])
 .ret))
theorem krotor_Wake_S1 : IsCode Tryz.prog 118 7 crotor_Wake_S1 [.tmp 2] :=
 ⟨Tryz.f118,_,[0,1,2],Tryz.func118,rfl,by decide,rfl,by kernel_rfl,by kernel_rfl⟩
def crotor_Descent : ACode :=
 (.seq
 (.region false [oo 3 (.box (.tmp 0)),
 oo 4 (.box (.tmp 1)),
 oo 6 (.mem [(.val (.int .i64 0)),(.val (.int .i64 0))]),
 oo 7 (.mv (kI 0)),
 oo 8 (.mv (kI 0))] [])
 (.seq
 (.region false [oo 14 (.loadN 26 (.tmp 3)),
 oo 15 (.loadN 8 (.tmp 4)),
 oo 16 (.build [(.val (.slice none 0 0)),(.val (.slice none 0 0)),(.val (.slice none 0 0)),(.val (.slice none 0 0)),(.val (.slice none 0 0)),(.val (.slice none 0 0)),(.val (.slice none 0 0)),(.val (.slice none 0 0)),(.val (.slice none 0 0)),(.val (.slice none 0 0)),(.val (.slice none 0 0)),(.val (.slice none 0 0)),(.val (.slice none 0 0)),(.val (.slice none 0 0)),(.val (.slice none 0 0)),(.val (.slice none 0 0)),(.val (.slice none 0 0)),(.val (.slice none 0 0)),(.val (.slice none 0 0)),(.val (.slice none 0 0)),(.val (.slice none 0 0)),(.val (.slice none 0 0)),(.val (.slice none 0 0)),(.val (.slice none 0 0)),(.val (.int .i64 0)),(.val (.int .i64 0)),(.val (.int .i64 0)),(.val (.int .i64 0)),(.val (.int .i64 0)),(.val (.int .i64 0)),(.val (.int .i64 0)),(.val (.int .i64 0)),(.val (.int .i64 0)),(.val (.int .i64 0))] [(0,26,(.tmp 14)),(26,8,(.tmp 15))]),
 oo 9 (.mem [(.val (.slice none 0 0)),(.val (.slice none 0 0)),(.val (.slice none 0 0)),(.val (.slice none 0 0)),(.val (.slice none 0 0)),(.val (.slice none 0 0)),(.val (.slice none 0 0)),(.val (.slice none 0 0)),(.val (.slice none 0 0)),(.val (.slice none 0 0)),(.val (.slice none 0 0)),(.val (.slice none 0 0)),(.val (.slice none 0 0)),(.val (.slice none 0 0)),(.val (.slice none 0 0)),(.val (.slice none 0 0)),(.val (.slice none 0 0)),(.val (.slice none 0 0)),(.val (.slice none 0 0)),(.val (.slice none 0 0)),(.val (.slice none 0 0)),(.val (.slice none 0 0)),(.val (.slice none 0 0)),(.val (.slice none 0 0)),(.val (.int .i64 0)),(.val (.int .i64 0)),(.val (.int .i64 0)),(.val (.int .i64 0)),(.val (.int .i64 0)),(.val (.int .i64 0)),(.val (.int .i64 0)),(.val (.int .i64 0)),(.val (.int .i64 0)),(.val (.int .i64 0))]),
 on (.store 34 (.tmp 9) (.tmp 16))] [14,15,16])
 (.seq
 (.seq
 (.region false [oo 17 (.loadN 26 (.tmp 3)),
 oo 18 (.loadN 8 (.tmp 4)),
 oo 19 (.mkfn 20 [] [(.tmp 9),(.tmp 3)]),
 oo 20 (.call (.func 19) [(.tmp 17),(.tmp 18),(.const (.slice none 0 0)),(.tmp 19)]),
 om 10 20] [17,18,19,20])
 (.seq
 (.region false [om 21 10,
 oo 22 (.bin .neq (.tmp 21) (kI 0))] [21])
 (.cond (.tmp 22)
 (.seq
 (.region false [oo 23 (.build [(.val (.int .i64 0)),(.val (.int .i64 0))] []),
 om 24 10,
 on (.store 2 (.tmp 6) (.tmp 23)),
 oo 7 (.mv (kI 0)),
 om 8 24] [23,24])
 .ret)
 .skip)))
 (.seq
 (.seq
 (.region false [om 25 2,
 oo 26 (.len_ (.tmp 25)),
 oo 27 (.bin .gtr (.tmp 26) (kI 50))] [25,26])
 (.cond (.tmp 27)
 (.seq
 (.region false [oo 28 (.build [(.val (.int .i64 0)),(.val (.int .i64 0))] []),
 on (.store 2 (.tmp 6) (.tmp 28)),
 oo 7 (.mv (kI 0)),
 oo 8 (.mv (kI 2))] [28])
 .ret)
 .skip))
 (.seq
 (.region false [oo 11 (.mem [(.val (.int .i64 0)),(.val (.int .i64 0))])] [])
 (.seq
 (.seq
 (.region false [om 29 2,
 oo 30 (.len_ (.tmp 29)),
 oo 31 (.mv (kI 0))] [])
 (.block 0
 (.loop
 (.seq
 (.region false [oo 32 (.bin .lss (.tmp 31) (.tmp 30))] [])
 (.seq
 (.cond (.tmp 32)
 .skip
 (.exit 0))
 (.seq
 (.block 1
 (.seq
 (.region false [om 33 31,
 oo 34 (.iadS 5 (.tmp 29) (.tmp 31)),
 oo 35 (.loadN 5 (.tmp 34)),
 oo 13 (.mem [(.val (.int .i64 0)),(.val (.int .i64 0)),(.val (.int .i64 0)),(.val (.int .i64 0)),(.val (.int .i64 0))]),
 om 12 33,
 on (.store 5 (.tmp 13) (.tmp 35))] [33,34,35])
 (.seq
 (.seq
 (.region false [oo 36 (.fad 4 (.tmp 13)),
 oo 37 (.load1 (.tmp 36)),
 oo 38 (.call (.func 23) [(.tmp 37),(kI 0),(kI 1000)]),
 oo 39 (.un .not (.tmp 38)),
 om 40 39,
 og 41 40 false (.fad 0 (.tmp 13)) [],
 og 42 40 false (.loadN 2 (.tmp 41)) [],
 og 43 40 false (.call (.func 24) [(.tmp 42)]) [],
 og 44 40 false (.un .not (.tmp 43)) [],
 oo 45 (.pick (.tmp 40) (.const (.bool true)) (.tmp 44)),
 om 46 45,
 og 47 46 false (.fad 2 (.tmp 13)) [],
 og 48 46 false (.loadN 2 (.tmp 47)) [],
 og 49 46 false (.call (.func 24) [(.tmp 48)]) [],
 og 50 46 false (.un .not (.tmp 49)) [],
 oo 51 (.pick (.tmp 46) (.const (.bool true)) (.tmp 50)),
 om 52 51,
 og 53 52 false (.loadN 34 (.tmp 9)) [],
 og 54 52 false (.fad 0 (.tmp 13)) [],
 og 55 52 false (.loadN 2 (.tmp 54)) [],
 og 56 52 false (.call (.func 21) [(.tmp 53),(.tmp 55)]) [],
 og 57 52 false (.call (.func 25) [(.tmp 56)]) [],
 og 58 52 false (.un .not (.tmp 57)) [],
 oo 59 (.pick (.tmp 52) (.const (.bool true)) (.tmp 58))] [36,37,38,39,40,41,42,43,44,45,46,47,48,49,50,51,52,53,54,55,56,57,58])
 (.cond (.tmp 59)
 (.seq
 (.region false [oo 60 (.build [(.val (.int .i64 0)),(.val (.int .i64 0))] []),
 om 61 12,
 on (.store 2 (.tmp 6) (.tmp 60)),
 om 7 61,
 oo 8 (.mv (kI 1))] [60,61])
 .ret)
 .skip))
 (.seq
 (.seq
 (.region false [oo 62 (.loadN 34 (.tmp 9)),
 oo 63 (.fad 0 (.tmp 13)),
 oo 64 (.loadN 2 (.tmp 63)),
 oo 65 (.fad 2 (.tmp 13)),
 oo 66 (.loadN 2 (.tmp 65)),
 oo 67 (.call (.func 26) [(.tmp 62),(.tmp 64),(.tmp 66)])] [62,63,64,65,66])
 (.cond (.tmp 67)
 (.seq
 (.region false [oo 68 (.build [(.val (.int .i64 0)),(.val (.int .i64 0))] []),
 om 69 12,
 on (.store 2 (.tmp 6) (.tmp 68)),
 om 7 69,
 oo 8 (.mv (kI 22))] [68,69])
 .ret)
 .skip))
 (.region true [oo 70 (.fad 0 (.tmp 11)),
 oa 71 (.load1 (.tmp 70)) [0],
 oo 72 (.fad 2 (.tmp 13)),
 oa 73 (.fad 0 (.tmp 72)) [2],
 oa 74 (.load1 (.tmp 73)) [3,2],
 oo 75 (.fad 4 (.tmp 13)),
 oa 76 (.load1 (.tmp 75)) [5],
 oa 77 (.bin .mul (.tmp 74) (.tmp 76)) [4,3,2,6,5],
 oa 78 (.bin .add (.tmp 71) (.tmp 77)) [1,0,7,4,3,2,6,5],
 oo 79 (.fad 1 (.tmp 11)),
 oa 80 (.load1 (.tmp 79)) [9],
 oo 81 (.fad 2 (.tmp 13)),
 oa 82 (.fad 1 (.tmp 81)) [11],
 oa 83 (.load1 (.tmp 82)) [12,11],
 oo 84 (.fad 4 (.tmp 13)),
 oa 85 (.load1 (.tmp 84)) [14],
 oa 86 (.bin .mul (.tmp 83) (.tmp 85)) [13,12,11,15,14],
 oa 87 (.bin .add (.tmp 80) (.tmp 86)) [10,9,16,13,12,11,15,14],
 oa 88 (.fad 0 (.tmp 11)) [0,1,2,3,4,5,6,7,8,9,10],
 ⟨none,.store 1 (.tmp 88) (.tmp 78),none,[18,0,1,2,3,4,5,6,7,8,9,10]⟩,
 oa 89 (.fad 1 (.tmp 11)) [0,1,2,3,4,5,6,7,8,9,10,11,12,13,14,15,16,17,18,19],
 ⟨none,.store 1 (.tmp 89) (.tmp 87),none,[20,0,1,2,3,4,5,6,7,8,9,10,11,12,13,14,15,16,17,18,19]⟩] [70,71,72,73,74,75,76,77,78,79,80,81,82,83,84,85,86,87,88,89])))))
 (.region false [oo 90 (.bin .add (.tmp 31) (kI 1)),
 om 31 90] [90])))))))
 (.seq
 (.seq
 (.region false [oo 91 (.loadN 2 (.tmp 11)),
 oo 92 (.call (.func 24) [(.tmp 91)]),
 oo 93 (.un .not (.tmp 92))] [91,92])
 (.cond (.tmp 93)
 (.seq
 (.region false [oo 94 (.build [(.val (.int .i64 0)),(.val (.int .i64 0))] []),
 on (.store 2 (.tmp 6) (.tmp 94)),
 oo 7 (.mv (kI 0)),
 oo 8 (.mv (kI 2))] [94])
 .ret)
 .skip))
 (.seq
 (.region false [oo 95 (.loadN 2 (.tmp 11)),
 on (.store 2 (.tmp 6) (.tmp 95)),
 oo 7 (.mv (kI 0)),
 oo 8 (.mv (kI 0))] [95])
 .ret))))))))
theorem krotor_Descent : IsCode Tryz.prog 9 96 crotor_Descent [.cellN 6 2, .tmp 7, .tmp 8] :=
 ⟨Tryz.f9,_,[93,67,59,32,27,22,0,1,3,4,9,10,6,2,31,30,29,13,12,11,7,8],Tryz.func9,rfl,by decide,rfl,by kernel_rfl,by kernel_rfl⟩
def crotor_Descent_S1 : ACode :=
 (.seq
 (.region false [oo 2 (.mv (.const (.slice none 0 0)))] [])
 (.seq
 (.region true [oo 3 (.loadN 34 (.tmp 0)),
 oo 4 (.fad 15 (.tmp 1)),
 oa 5 (.fad 0 (.tmp 4)) [1],
 oa 6 (.load1 (.tmp 5)) [2,1],
 oa 7 (.iadS 1 (.tmp 6) (kI 0)) [3,2,1],
 oa 8 (.load1 (.tmp 7)) [4,3,2,1],
 oa 9 (.call (.func 22) [(.tmp 8)]) [5,4,3,2,1],
 oa 10 (.call (.func 21) [(.tmp 3),(.tmp 9)]) [0,6,5,4,3,2,1],
 oa 11 (.buildSl 7 1 [(.val (.slice none 0 0)),(.val (.slice none 0 0)),(.val (.slice none 0 0)),(.val (.int .i64 0)),(.val (.int .i64 0)),(.val (.int .i64 0)),(.val (.int .i64 0))] [(0,7,(.tmp 10))]) [7,0,6,5,4,3,2,1],
 oa 2 (.mv (.tmp 11)) [8,7,0,6,5,4,3,2,1]] [3,4,5,6,7,8,9,10,11])
 .ret))
theorem krotor_Descent_S1 : IsCode Tryz.prog 20 12 crotor_Descent_S1 [.tmp 2] :=
 ⟨Tryz.f20,_,[0,1,2],Tryz.func20,rfl,by decide,rfl,by kernel_rfl,by kernel_rfl⟩
def crotor_one : ACode :=
 (.seq
 (.region false [oo 2 (.mem [(.val (.int .i64 0)),(.val (.int .i64 0))])] [])
 (.seq
 (.region false [om 3 0,
 om 4 0,
 oo 5 (.build [(.val (.int .i64 0)),(.val (.int .i64 0))] [(0,1,(.tmp 3)),(1,1,(.tmp 4))]),
 on (.store 2 (.tmp 2) (.tmp 5))] [3,4,5])
 .ret))
theorem krotor_one : IsCode Tryz.prog 22 6 crotor_one [.cellN 2 2] :=
 ⟨Tryz.f22,_,[0,2],Tryz.func22,rfl,by decide,rfl,by kernel_rfl,by kernel_rfl⟩
end Go.Proofs.YtbncpngjclabhaaGreat
