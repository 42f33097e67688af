/- Texts of the law TopDescends, part 11. No conditions. -/
import Derived.Test.YtbncpngjclabhaaGreatPTopDescends10
set_option linter.unusedSimpArgs false
set_option linter.unusedVariables false
set_option maxRecDepth 100000
set_option maxHeartbeats 16000000
/- engine: one turn of the steps (with maps; views last). Its code is taken from the dump. No conditions. -/
namespace Go.Proofs.YtbncpngjclabhaaGreat
open Go Go.RowKit Lift

def qOf (k : Nat) (L : List (Ps × Ps)) : List Ps := (L.map (·.1)).drop k
theorem qOf_add {k : Nat} {L : List (Ps × Ps)} (h : k ≤ L.length) (p x : Ps) : (if pre L x = none then qOf k L ++ [x] else qOf k L) = qOf k (addQ p L x) := by
  unfold addQ qOf
  split
  · rw [List.map_append,List.drop_append_of_le_length (by simpa using h)]; rfl
  · rfl
theorem qOf_len (k : Nat) (L : List (Ps × Ps)) : (qOf k L).length = L.length - k := by simp [qOf]
def csTurn : ACode :=
 (.seq
 (.seq
 (.region true [om 38 6,
 oo 39 (.fad 2 (.tmp 1)),
 oa 40 (.load1 (.tmp 39)) [1],
 oo 41 (.fad 0 (.tmp 2)),
 oa 42 (.load1 (.tmp 41)) [3],
 oo 43 (.load1 (.tmp 3)),
 oa 44 (.nilc (.tmp 42)) [4,3],
 oa 45 (.fad 33 (.tmp 44)) [6,4,3],
 oa 46 (.iadA 2 1 (.tmp 45) (.tmp 43)) [7,6,4,3,5],
 oa 47 (.load1 (.tmp 46)) [8,7,6,4,3,5],
 om 48 5,
 oa 49 (.iadS 1 (.tmp 47) (.tmp 48)) [9,8,7,6,4,3,5,10],
 oa 50 (.load1 (.tmp 49)) [11,9,8,7,6,4,3,5,10],
 oa 51 (.bin .add (.tmp 40) (.tmp 50)) [2,1,12,11,9,8,7,6,4,3,5,10],
 oa 52 (.mnx false [(kI 12),(.tmp 51)]) [13,2,1,12,11,9,8,7,6,4,3,5,10],
 oa 53 (.bin .leq (.tmp 38) (.tmp 52)) [0,14,13,2,1,12,11,9,8,7,6,4,3,5,10]] [38,39,40,41,42,43,44,45,46,47,48,49,50,51,52])
 (.cond (.tmp 53)
 .skip
 (.exit 2)))
 (.seq
 (.block 3
 (.seq
 (.region false [oo 56 (.fad 0 (.tmp 1)),
 oo 57 (.load1 (.tmp 56)),
 om 58 5,
 oo 59 (.bin .add (.tmp 57) (.tmp 58)),
 om 60 5,
 om 61 6,
 oo 62 (.build [(.val (.int .i64 0)),(.val (.int .i64 0)),(.val (.int .i64 0))] [(0,1,(.tmp 59)),(1,1,(.tmp 60)),(2,1,(.tmp 61))]),
 oo 7 (.mem [(.val (.int .i64 0)),(.val (.int .i64 0)),(.val (.int .i64 0))]),
 on (.store 3 (.tmp 7) (.tmp 62))] [56,57,58,59,60,61,62])
 (.seq
 (.region true [om 63 6,
 oa 64 (.bin .eql (.tmp 63) (kI 0)) [0],
 oa 65 (.mv (.tmp 64)) [1,0],
 og 66 65 true (.fad 2 (.tmp 1)) [2,1,0],
 og 67 65 true (.load1 (.tmp 66)) [3,2,1,0],
 og 68 65 true (.bin .eql (.tmp 67) (kI 0)) [4,3,2,1,0],
 og 69 65 true (.mv (.tmp 68)) [5,4,3,2,1,0],
 og 70 69 false (.fad 2 (.tmp 1)) [6,5,4,3,2,1,0],
 og 71 69 false (.load1 (.tmp 70)) [7,6,5,4,3,2,1,0],
 og 72 69 false (.fad 0 (.tmp 2)) [6,5,4,3,2,1,0],
 og 73 69 false (.load1 (.tmp 72)) [9,6,5,4,3,2,1,0],
 og 74 69 false (.nilc (.tmp 73)) [10,9,6,5,4,3,2,1,0],
 og 75 69 false (.fad 0 (.tmp 74)) [11,10,9,6,5,4,3,2,1,0],
 og 76 69 false (.fad 32 (.tmp 75)) [12,11,10,9,6,5,4,3,2,1,0],
 og 77 69 false (.load1 (.tmp 76)) [13,12,11,10,9,6,5,4,3,2,1,0],
 og 78 69 false (.bin .gtr (.tmp 71) (.tmp 77)) [8,7,6,5,4,3,2,1,0,14,13,12,11,10,9],
 og 79 65 true (.pick (.tmp 69) (.const (.bool true)) (.tmp 78)) [6,5,4,3,2,1,0,15,8,7,14,13,12,11,10,9],
 og 80 65 true (.mv (.tmp 79)) [16,6,5,4,3,2,1,0,15,8,7,14,13,12,11,10,9],
 og 81 80 false (.loadN 5 (.tmp 2)) [17,16,6,5,4,3,2,1,0,15,8,7,14,13,12,11,10,9],
 og 82 80 false (.loadN 3 (.tmp 7)) [17,16,6,5,4,3,2,1,0,15,8,7,14,13,12,11,10,9],
 og 83 80 false (.call (.func 40) [(.tmp 81),(.tmp 82)]) [18,17,16,6,5,4,3,2,1,0,15,8,7,14,13,12,11,10,9,19],
 og 84 80 false (.un .not (.tmp 83)) [20,18,17,16,6,5,4,3,2,1,0,15,8,7,14,13,12,11,10,9,19],
 og 85 65 true (.pick (.tmp 80) (.const (.bool true)) (.tmp 84)) [17,16,6,5,4,3,2,1,0,15,8,7,14,13,12,11,10,9,21,20,18,19],
 oa 86 (.pick (.tmp 65) (.tmp 85) (.const (.bool false))) [2,1,0,22,17,16,6,5,4,3,15,8,7,14,13,12,11,10,9,21,20,18,19],
 oa 8 (.mv (.tmp 86)) [23,2,1,0,22,17,16,6,5,4,3,15,8,7,14,13,12,11,10,9,21,20,18,19]] [63,64,65,66,67,68,69,70,71,72,73,74,75,76,77,78,79,80,81,82,83,84,85,86])
 (.seq
 (.region true [om 87 6,
 oa 88 (.bin .gtr (.tmp 87) (kI 0)) [0],
 oa 89 (.mv (.tmp 88)) [1,0],
 og 90 89 true (.mv (.tmp 6)) [2,1,0],
 og 91 89 true (.fad 2 (.tmp 1)) [2,1,0],
 og 92 89 true (.load1 (.tmp 91)) [4,2,1,0],
 og 93 89 true (.bin .lss (.tmp 90) (.tmp 92)) [3,2,1,0,5,4],
 oa 94 (.pick (.tmp 89) (.tmp 93) (.const (.bool false))) [2,1,0,6,3,5,4],
 oa 95 (.mv (.tmp 94)) [7,2,1,0,6,3,5,4],
 og 96 95 true (.fad 0 (.tmp 2)) [8,7,2,1,0,6,3,5,4],
 og 97 95 true (.load1 (.tmp 96)) [9,8,7,2,1,0,6,3,5,4],
 og 98 95 true (.nilc (.tmp 97)) [10,9,8,7,2,1,0,6,3,5,4],
 og 99 95 true (.fad 35 (.tmp 98)) [11,10,9,8,7,2,1,0,6,3,5,4],
 og 100 95 true (.load1 (.tmp 99)) [12,11,10,9,8,7,2,1,0,6,3,5,4],
 og 101 95 true (.mv (.tmp 5)) [8,7,2,1,0,6,3,5,4],
 og 102 95 true (.iadS 1 (.tmp 100) (.tmp 101)) [13,12,11,10,9,8,7,2,1,0,6,3,5,4,14],
 og 103 95 true (.load1 (.tmp 102)) [15,13,12,11,10,9,8,7,2,1,0,6,3,5,4,14],
 og 104 95 true (.fad 2 (.tmp 1)) [8,7,2,1,0,6,3,5,4],
 og 105 95 true (.load1 (.tmp 104)) [17,8,7,2,1,0,6,3,5,4],
 og 106 95 true (.mv (.tmp 6)) [8,7,2,1,0,6,3,5,4],
 og 107 95 true (.bin .sub (.tmp 105) (.tmp 106)) [18,17,8,7,2,1,0,6,3,5,4,19],
 og 108 95 true (.iadS 1 (.tmp 103) (.tmp 107)) [16,15,13,12,11,10,9,8,7,2,1,0,6,3,5,4,14,20,18,17,19],
 og 109 95 true (.load1 (.tmp 108)) [21,16,15,13,12,11,10,9,8,7,2,1,0,6,3,5,4,14,20,18,17,19],
 oa 110 (.pick (.tmp 95) (.tmp 109) (.const (.bool false))) [8,7,2,1,0,6,3,5,4,22,21,16,15,13,12,11,10,9,14,20,18,17,19],
 oa 9 (.mv (.tmp 110)) [23,8,7,2,1,0,6,3,5,4,22,21,16,15,13,12,11,10,9,14,20,18,17,19]] [87,88,89,90,91,92,93,94,95,96,97,98,99,100,101,102,103,104,105,106,107,108,109,110])
 (.seq
 (.region false [oo 111 (.fad 0 (.tmp 7)),
 oo 112 (.load1 (.tmp 111)),
 oo 113 (.bin .leq (.tmp 112) (kI 40)),
 om 114 113,
 og 115 114 true (.mv (.tmp 8)) [],
 og 116 114 true (.un .not (.tmp 115)) [],
 oo 117 (.pick (.tmp 114) (.tmp 116) (.const (.bool false))),
 om 118 117,
 og 119 118 true (.mv (.tmp 9)) [],
 og 120 118 true (.un .not (.tmp 119)) [],
 oo 121 (.pick (.tmp 118) (.tmp 120) (.const (.bool false))),
 om 122 121,
 og 123 122 true (.loadN 5 (.tmp 2)) [],
 og 124 122 true (.loadN 3 (.tmp 1)) [],
 og 125 122 true (.loadN 3 (.tmp 7)) [],
 og 126 122 true (.call (.func 102) [(.tmp 123),(.tmp 124),(.tmp 125)]) [],
 oo 127 (.pick (.tmp 122) (.tmp 126) (.const (.bool false))),
 om 128 127,
 og 129 128 true (.mv (.tmp 0)) [],
 og 130 128 true (.loadN 3 (.tmp 7)) [],
 og 131 128 true (.call (.tmp 129) [(.tmp 130)]) [],
 og 132 128 true (.un .not (.tmp 131)) [],
 oo 133 (.pick (.tmp 128) (.tmp 132) (.const (.bool false)))] [111,112,113,114,115,116,117,118,119,120,121,122,123,124,125,126,127,128,129,130,131,132])
 (.cond (.tmp 133)
 .ret
 .skip))))))
 (.region false [om 54 6,
 oo 55 (.bin .add (.tmp 54) (kI 1)),
 om 6 55] [54,55])))
theorem mn2_le (a b : Int) : mn2 a b ≤ a := by unfold mn2; split <;> omega
theorem loH_ge (s : Ste) (p : Ps) : 0 ≤ loH s p ∧ p.h - s.drop ≤ loH s p := by unfold loH mx2; split <;> omega
theorem steps_turn {rr : Loop} (hr : LoopIsA Tryz.prog 75 [53] cengine_site_way_B100053 cengine_site_way_B53 rr) (s : Ste) (C : List D) (cl sf : Int) (hC : SteC s C) (hs : SteOk s) (f p : Ps) (hp : PsOk s p) (L : List (Ps × Ps)) (k : Nat) (hk : k < L.length) (hL : L.length ≤ 900000) (r : List Ps) (vn : Nat) (hv : (vn : Int) ≤ s.top) (h : Int) (h0 : loH s p ≤ h) (h13 : h ≤ 13) (Q : AExit → St → Prop)
    (hN : h ≤ hiH s p vn → ∀ r' s',Wk [1000,0,8,16,80,120,136] s' ⟨[(0,.yld 1000 rr [.bot,.bot,.bot,.bot,.bot,.bot,.bot,.bot,.bot,.ptr 16 0,.bot,.bot,.ptr 80 0,.ptr 120 0,.ptr 136 0]),(1,.ptr 525 0),(2,.ptr 524 0),(3,.ptr 526 0),(5,dI vn),(6,dI (h + 1))],[(0,[.at_ C,dI s.len,dI cl,dI sf,.list (sps s.hind)]),(8,[dI f.x,dI f.v,dI f.h]),(16,[.fn 42 [] []]),(80,[.mp 40]),(40,[.val (mpV (enV (if okB s p ⟨p.x + vn,vn,h⟩ = true then addQ p L ⟨p.x + vn,vn,h⟩ else L)))]),(120,[.own 128 (r'.length * 3) (qOf k (if okB s p ⟨p.x + vn,vn,h⟩ = true then addQ p L ⟨p.x + vn,vn,h⟩ else L)).length 3]),(128,pcl (r' ++ qOf k (if okB s p ⟨p.x + vn,vn,h⟩ = true then addQ p L ⟨p.x + vn,vn,h⟩ else L))),(136,[dI p.x,dI p.v,dI p.h]),(524,[.at_ C,dI s.len,dI cl,dI sf,.list (sps s.hind)]),(525,[dI p.x,dI p.v,dI p.h]),(526,[dI 1])],1400⟩ → Q .norm s')
    (hE : ¬ h ≤ hiH s p vn → ∀ s',Wk [1000,0,8,16,80,120,136] s' ⟨[(0,.yld 1000 rr [.bot,.bot,.bot,.bot,.bot,.bot,.bot,.bot,.bot,.ptr 16 0,.bot,.bot,.ptr 80 0,.ptr 120 0,.ptr 136 0]),(1,.ptr 525 0),(2,.ptr 524 0),(3,.ptr 526 0),(5,dI vn),(6,dI h)],[(0,[.at_ C,dI s.len,dI cl,dI sf,.list (sps s.hind)]),(8,[dI f.x,dI f.v,dI f.h]),(16,[.fn 42 [] []]),(80,[.mp 40]),(40,[.val (mpV (enV L))]),(120,[.own 128 (r.length * 3) (qOf k L).length 3]),(128,pcl (r ++ qOf k L)),(136,[dI p.x,dI p.v,dI p.h]),(524,[.at_ C,dI s.len,dI cl,dI sf,.list (sps s.hind)]),(525,[dI p.x,dI p.v,dI p.h]),(526,[dI 1])],1400⟩ → Q (.ex 2) s') :
    AWb ⟨false,[1000]⟩ Tryz.prog 134 [1000,0,8,16,80,120,136] csTurn Q ⟨[(0,.yld 1000 rr [.bot,.bot,.bot,.bot,.bot,.bot,.bot,.bot,.bot,.ptr 16 0,.bot,.bot,.ptr 80 0,.ptr 120 0,.ptr 136 0]),(1,.ptr 525 0),(2,.ptr 524 0),(3,.ptr 526 0),(5,dI vn),(6,dI h)],[(0,[.at_ C,dI s.len,dI cl,dI sf,.list (sps s.hind)]),(8,[dI f.x,dI f.v,dI f.h]),(16,[.fn 42 [] []]),(80,[.mp 40]),(40,[.val (mpV (enV L))]),(120,[.own 128 (r.length * 3) (qOf k L).length 3]),(128,pcl (r ++ qOf k L)),(136,[dI p.x,dI p.v,dI p.h]),(524,[.at_ C,dI s.len,dI cl,dI sf,.list (sps s.hind)]),(525,[dI p.x,dI p.v,dI p.h]),(526,[dI 1])],1400⟩ := by
  have ra := ints_all s.R
  have hvl : vn < s.R.length := by rw [hs.r]; omega
  have hvw : vn < s.W.length := by rw [hs.w]; omega
  have rg := ints_gd s.R vn hvl
  have hX : IntKind.i64.wrap (p.h + s.R[vn]?.getD 0) = IntKind.i64.wrap (p.h + rat s.R vn) := by simp [rat]
  generalize hXX : IntKind.i64.wrap (p.h + rat s.R vn) = X at *
  have hhi : hiH s p vn = if X < 12 then X else 12 := by unfold hiH; rw [hXX]; rfl
  have c1 := hC.r
  have hlo := loH_ge s p
  have hql := qOf_len k L
  have hq0 : 0 < (qOf k L).length := by rw [hql]; omega
  have hpy := pcl_noY (r ++ qOf k L)
  obtain ⟨t1,t2,d1,d2,k1,k2,_,_,hwr,hh6⟩ := hs
  obtain ⟨px1,px2,pv1,pv2,ph1,ph2⟩ := hp
  unfold csTurn
  by_cases hc : h ≤ hiH s p vn
  case neg =>
    rw [hhi] at hc
    have q := decide_eq_false hc
    refine aw_seq (aw_seq (aw_hide fun K hK => aw_region ?_))
    simp (disch := first | exact okY | omega) only [ZU,Nat.reduceAdd,Nat.reduceMul,dI,AOpRun,aexec,Nat.reduceBEq,↓eget_h,run1,↓hget_h,Int.reduceLE,cast_lit,Int.reduceLT,↓reduceIte,Int.reduceToNat,c1,ra,opt1,rg,isSh,abin,hX,foldI,mn2,q]
    subst hK
    refine aw_condF rfl (aw_exit ?_)
    simp only [thenQ,blockQ,if_true,if_false,Nat.reduceEqDiff,reduceCtorEq]
    refine hE (by rw [hhi]; exact hc) _ ?_
    unfold dI
    refine wk_q [] [(1000,1000),(0,0),(8,8),(16,16),(80,80),(40,40),(120,120),(128,128),(136,136),(524,524),(525,525),(526,526)] ?_ ?_ <;> repeat' (first | exact trivial | exact vr_val _ | exact vr_list _ | exact vr_at _ | exact vr_own _ _ _ _ _ rfl | exact vr_ptr _ _ _ rfl | apply vr_fn | refine vr_yld _ _ _ rfl ?_ | exact Ren.bot _ | exact Ren.ptr _ _ _ rfl | refine And.intro ⟨_,rfl,.inl ⟨_,rfl,by decide,?_⟩⟩ ?_ | apply And.intro | exact vr_mp _ _ rfl | exact vrl_flat _ (by first | exact pcl_in _ _ | exact icells_in _ | exact rcells_in _ | exact scells_in _ | exact bcells_in _ | assumption) | fail)
  have hc' := hc
  rw [hhi] at hc'
  have q := decide_eq_true hc'
  have h12 : h ≤ 12 := Int.le_trans hc (mn2_le _ _)
  refine aw_seq (aw_seq (aw_hide fun K hK => aw_region ?_))
  simp (disch := first | exact okY | omega) only [ZU,Nat.reduceAdd,Nat.reduceMul,dI,AOpRun,aexec,Nat.reduceBEq,↓eget_h,run1,↓hget_h,Int.reduceLE,cast_lit,Int.reduceLT,↓reduceIte,Int.reduceToNat,c1,ra,opt1,rg,isSh,abin,hX,foldI,mn2,q]
  subst hK
  refine aw_condT rfl (aw_skip ?_)
  simp only [thenQ,blockQ,if_true,if_false,Nat.reduceEqDiff,reduceCtorEq]
  obtain ⟨x,hx⟩ : ∃ x : Ps,x = ⟨p.x + vn,vn,h⟩ := ⟨_,rfl⟩
  have x1 : p.x + (vn : Int) = x.x := by rw [hx]
  have x2 : (vn : Int) = x.v := by rw [hx]
  have x3 : h = x.h := by rw [hx]
  have hd := down_ac s C cl sf x hC
  have hcl := clear_ac s C cl sf p x hh6
  refine aw_seq (aw_block (aw_seq (aw_hide fun K hK => aw_region ?_)))
  simp (disch := first | exact okY | omega) only [ZU,Nat.reduceAdd,Nat.reduceMul,AOpRun,aexec,Nat.reduceBEq,↓eget_h,run1,↓hget_h,isSh,↓reduceIte,abin,fits,fillD,D.isBot,D.cells,ne_eq,not_true_eq_false,Nat.reduceGT,or_self,splice,List.take,List.drop,Nat.reduceLeDiff,List.all,D.leaf]
  subst hK
  -- ends
  refine aw_cut ⟨[(0,.yld 1000 rr [.bot,.bot,.bot,.bot,.bot,.bot,.bot,.bot,.bot,.ptr 16 0,.bot,.bot,.ptr 80 0,.ptr 120 0,.ptr 136 0]),(1,.ptr 525 0),(2,.ptr 524 0),(3,.ptr 526 0),(5,dI vn),(6,dI h),(7,.ptr 2000 0),(8,dB (endsB s p x))],[(0,[.at_ C,dI s.len,dI cl,dI sf,.list (sps s.hind)]),(8,[dI f.x,dI f.v,dI f.h]),(16,[.fn 42 [] []]),(80,[.mp 40]),(40,[.val (mpV (enV L))]),(120,[.own 128 (r.length * 3) (qOf k L).length 3]),(128,pcl (r ++ qOf k L)),(136,[dI p.x,dI p.v,dI p.h]),(524,[.at_ C,dI s.len,dI cl,dI sf,.list (sps s.hind)]),(525,[dI p.x,dI p.v,dI p.h]),(526,[dI 1]),(2000,[dI (p.x + vn),dI vn,dI h])],2200⟩ ?_ ?_
  · unfold siteL psL at hd
    have e1 := hC.sink
    rw [← x1,← x2,← x3] at hd
    cases q1 : (h == 0)
    · refine aw_hide fun K hK => aw_region ?_
      simp (disch := first | exact okY | omega) only [ZU,Nat.reduceAdd,Nat.reduceMul,AOpRun,aexec,Nat.reduceBEq,↓eget_h,isSh,↓reduceIte,abin,q1,ARun_some,AG_ft,AG_un]
      subst hK
      try simp only [thenQ,blockQ,if_true,if_false,Nat.reduceEqDiff,reduceCtorEq]
      have e2 : endsB s p x = false := by have : ¬ h = 0 := by simpa using q1
                                          simp [endsB,← x3,this]
      rw [e2]
      refine wk_q [] [(1000,1000),(0,0),(8,8),(16,16),(80,80),(40,40),(120,120),(128,128),(136,136),(524,524),(525,525),(526,526),(2000,1584)] ?_ ?_ <;> repeat' (first | exact trivial | exact vr_val _ | exact vr_list _ | exact vr_at _ | exact vr_own _ _ _ _ _ rfl | exact vr_ptr _ _ _ rfl | apply vr_fn | refine vr_yld _ _ _ rfl ?_ | exact Ren.bot _ | exact Ren.ptr _ _ _ rfl | refine And.intro ⟨_,rfl,.inl ⟨_,rfl,by decide,?_⟩⟩ ?_ | apply And.intro | exact vr_mp _ _ rfl | exact vrl_flat _ (by first | exact pcl_in _ _ | exact icells_in _ | exact rcells_in _ | exact scells_in _ | exact bcells_in _ | assumption) | fail)
    cases q2 : (p.h == 0)
    case true =>
      refine aw_hide fun K hK => aw_region ?_
      simp (disch := first | exact okY | omega) only [ZU,Nat.reduceAdd,Nat.reduceMul,AOpRun,aexec,Nat.reduceBEq,↓eget_h,isSh,↓reduceIte,abin,q1,ARun_some,AG_tt,run1,↓hget_h,q2,AG_tf]
      subst hK
      try simp only [thenQ,blockQ,if_true,if_false,Nat.reduceEqDiff,reduceCtorEq]
      have e2 : endsB s p x = true := by have h1 : h = 0 := by simpa using q1
                                         have h2 : p.h = 0 := by simpa using q2
                                         simp [endsB,← x3,h1,h2]
      rw [e2]
      refine wk_q [] [(1000,1000),(0,0),(8,8),(16,16),(80,80),(40,40),(120,120),(128,128),(136,136),(524,524),(525,525),(526,526),(2000,1584)] ?_ ?_ <;> repeat' (first | exact trivial | exact vr_val _ | exact vr_list _ | exact vr_at _ | exact vr_own _ _ _ _ _ rfl | exact vr_ptr _ _ _ rfl | apply vr_fn | refine vr_yld _ _ _ rfl ?_ | exact Ren.bot _ | exact Ren.ptr _ _ _ rfl | refine And.intro ⟨_,rfl,.inl ⟨_,rfl,by decide,?_⟩⟩ ?_ | apply And.intro | exact vr_mp _ _ rfl | exact vrl_flat _ (by first | exact pcl_in _ _ | exact icells_in _ | exact rcells_in _ | exact scells_in _ | exact bcells_in _ | assumption) | fail)
    cases q3 : decide (p.h > s.sink)
    case true =>
      refine aw_hide fun K hK => aw_region ?_
      simp (disch := first | exact okY | omega) only [ZU,Nat.reduceAdd,Nat.reduceMul,AOpRun,aexec,Nat.reduceBEq,↓eget_h,isSh,↓reduceIte,abin,q1,ARun_some,AG_tt,run1,↓hget_h,q2,AG_ff,List.drop,e1,q3,AG_tf]
      subst hK
      try simp only [thenQ,blockQ,if_true,if_false,Nat.reduceEqDiff,reduceCtorEq]
      have e2 : endsB s p x = true := by have h1 : h = 0 := by simpa using q1
                                         simp [endsB,← x3,h1,q3]
      rw [e2]
      refine wk_q [] [(1000,1000),(0,0),(8,8),(16,16),(80,80),(40,40),(120,120),(128,128),(136,136),(524,524),(525,525),(526,526),(2000,1584)] ?_ ?_ <;> repeat' (first | exact trivial | exact vr_val _ | exact vr_list _ | exact vr_at _ | exact vr_own _ _ _ _ _ rfl | exact vr_ptr _ _ _ rfl | apply vr_fn | refine vr_yld _ _ _ rfl ?_ | exact Ren.bot _ | exact Ren.ptr _ _ _ rfl | refine And.intro ⟨_,rfl,.inl ⟨_,rfl,by decide,?_⟩⟩ ?_ | apply And.intro | exact vr_mp _ _ rfl | exact vrl_flat _ (by first | exact pcl_in _ _ | exact icells_in _ | exact rcells_in _ | exact scells_in _ | exact bcells_in _ | assumption) | fail)
    refine aw_hide fun K hK => aw_region ?_
    simp (disch := first | exact okY | omega) only [ZU,Nat.reduceAdd,Nat.reduceMul,AOpRun,aexec,Nat.reduceBEq,↓eget_h,isSh,↓reduceIte,abin,q1,ARun_some,AG_tt,run1,↓hget_h,q2,AG_ff,List.drop,e1,q3,Nat.reduceLeDiff,List.take]
    refine acall0 hd ?_
    simp (disch := first | exact okY | omega) only [ZU,Nat.reduceAdd,dB,Nat.reduceBEq,ARun_some,↓eget_h,AG_ff,AOpRun,aexec,AG_tt,↓reduceIte]
    subst hK
    try simp only [thenQ,blockQ,if_true,if_false,Nat.reduceEqDiff,reduceCtorEq]
    have e2 : endsB s p x = !downB s x := by have h1 : h = 0 := by simpa using q1
                                             have h2 : ¬ p.h = 0 := by simpa using q2
                                             simp [endsB,← x3,h1,h2,q3]
    rw [e2]
    refine wk_q [] [(1000,1000),(0,0),(8,8),(16,16),(80,80),(40,40),(120,120),(128,128),(136,136),(524,524),(525,525),(526,526),(2000,1584)] ?_ ?_ <;> repeat' (first | exact trivial | exact vr_val _ | exact vr_list _ | exact vr_at _ | exact vr_own _ _ _ _ _ rfl | exact vr_ptr _ _ _ rfl | apply vr_fn | refine vr_yld _ _ _ rfl ?_ | exact Ren.bot _ | exact Ren.ptr _ _ _ rfl | refine And.intro ⟨_,rfl,.inl ⟨_,rfl,by decide,?_⟩⟩ ?_ | apply And.intro | exact vr_mp _ _ rfl | exact vrl_flat _ (by first | exact pcl_in _ _ | exact icells_in _ | exact rcells_in _ | exact scells_in _ | exact bcells_in _ | assumption) | fail)
  -- sinks
  refine aw_cut ⟨[(0,.yld 1000 rr [.bot,.bot,.bot,.bot,.bot,.bot,.bot,.bot,.bot,.ptr 16 0,.bot,.bot,.ptr 80 0,.ptr 120 0,.ptr 136 0]),(1,.ptr 525 0),(2,.ptr 524 0),(3,.ptr 526 0),(5,dI vn),(6,dI h),(7,.ptr 2000 0),(8,dB (endsB s p x)),(9,dB (sinksB s p x))],[(0,[.at_ C,dI s.len,dI cl,dI sf,.list (sps s.hind)]),(8,[dI f.x,dI f.v,dI f.h]),(16,[.fn 42 [] []]),(80,[.mp 40]),(40,[.val (mpV (enV L))]),(120,[.own 128 (r.length * 3) (qOf k L).length 3]),(128,pcl (r ++ qOf k L)),(136,[dI p.x,dI p.v,dI p.h]),(524,[.at_ C,dI s.len,dI cl,dI sf,.list (sps s.hind)]),(525,[dI p.x,dI p.v,dI p.h]),(526,[dI 1]),(2000,[dI (p.x + vn),dI vn,dI h])],2400⟩ ?_ ?_
  · have e1 := hC.w
    have wa := blss_all s.W
    have wg := blss_gd s.W vn hvw
    have ba := bls_all (s.W[vn]?.getD [])
    cases q1 : decide (h > 0)
    · refine aw_hide fun K hK => aw_region ?_
      simp (disch := first | exact okY | omega) only [ZU,Nat.reduceAdd,Nat.reduceMul,dI,dB,AOpRun,aexec,Nat.reduceBEq,↓eget_h,isSh,↓reduceIte,abin,q1,ARun_some,AG_ft]
      subst hK
      try simp only [thenQ,blockQ,if_true,if_false,Nat.reduceEqDiff,reduceCtorEq]
      have e2 : sinksB s p x = false := by simp only [sinksB,← x3,q1,Bool.false_and]
      rw [e2]
      refine wk_q [] [(1000,1000),(0,0),(8,8),(16,16),(80,80),(40,40),(120,120),(128,128),(136,136),(524,524),(525,525),(526,526),(2000,2000)] ?_ ?_ <;> repeat' (first | exact trivial | exact vr_val _ | exact vr_list _ | exact vr_at _ | exact vr_own _ _ _ _ _ rfl | exact vr_ptr _ _ _ rfl | apply vr_fn | refine vr_yld _ _ _ rfl ?_ | exact Ren.bot _ | exact Ren.ptr _ _ _ rfl | refine And.intro ⟨_,rfl,.inl ⟨_,rfl,by decide,?_⟩⟩ ?_ | apply And.intro | exact vr_mp _ _ rfl | exact vrl_flat _ (by first | exact pcl_in _ _ | exact icells_in _ | exact rcells_in _ | exact scells_in _ | exact bcells_in _ | assumption) | fail)
    cases q2 : decide (h < p.h)
    · refine aw_hide fun K hK => aw_region ?_
      simp (disch := first | exact okY | omega) only [ZU,Nat.reduceAdd,Nat.reduceMul,dI,dB,AOpRun,aexec,Nat.reduceBEq,↓eget_h,isSh,↓reduceIte,abin,q1,ARun_some,AG_tt,run1,↓hget_h,q2,AG_ft]
      subst hK
      try simp only [thenQ,blockQ,if_true,if_false,Nat.reduceEqDiff,reduceCtorEq]
      have e2 : sinksB s p x = false := by simp only [sinksB,← x3,q1,q2,Bool.false_and,Bool.and_false]
      rw [e2]
      refine wk_q [] [(1000,1000),(0,0),(8,8),(16,16),(80,80),(40,40),(120,120),(128,128),(136,136),(524,524),(525,525),(526,526),(2000,2000)] ?_ ?_ <;> repeat' (first | exact trivial | exact vr_val _ | exact vr_list _ | exact vr_at _ | exact vr_own _ _ _ _ _ rfl | exact vr_ptr _ _ _ rfl | apply vr_fn | refine vr_yld _ _ _ rfl ?_ | exact Ren.bot _ | exact Ren.ptr _ _ _ rfl | refine And.intro ⟨_,rfl,.inl ⟨_,rfl,by decide,?_⟩⟩ ?_ | apply And.intro | exact vr_mp _ _ rfl | exact vrl_flat _ (by first | exact pcl_in _ _ | exact icells_in _ | exact rcells_in _ | exact scells_in _ | exact bcells_in _ | assumption) | fail)
    have h1 := of_decide_eq_true q1
    have h2 := of_decide_eq_true q2
    obtain ⟨dn,hdn⟩ : ∃ dn : Nat,p.h - h = dn := ⟨(p.h - h).toNat,by omega⟩
    have bg := bls_gd (s.W[vn]?.getD []) dn (by rw [hwr vn hvw]; omega)
    refine aw_hide fun K hK => aw_region ?_
    simp (disch := first | exact okY | omega) only [ZU,Nat.reduceAdd,Nat.reduceMul,dI,dB,AOpRun,aexec,Nat.reduceBEq,↓eget_h,isSh,↓reduceIte,abin,q1,ARun_some,AG_tt,run1,↓hget_h,q2,e1,wa,opt1,wg,hdn,fits,ba,bg]
    subst hK
    try simp only [thenQ,blockQ,if_true,if_false,Nat.reduceEqDiff,reduceCtorEq]
    have e2 : sinksB s p x = (s.W[vn]?.getD [])[dn]?.getD false := by simp [sinksB,← x3,← x2,q1,q2,wat,hdn]
    rw [e2]
    refine wk_q [] [(1000,1000),(0,0),(8,8),(16,16),(80,80),(40,40),(120,120),(128,128),(136,136),(524,524),(525,525),(526,526),(2000,2000)] ?_ ?_ <;> repeat' (first | exact trivial | exact vr_val _ | exact vr_list _ | exact vr_at _ | exact vr_own _ _ _ _ _ rfl | exact vr_ptr _ _ _ rfl | apply vr_fn | refine vr_yld _ _ _ rfl ?_ | exact Ren.bot _ | exact Ren.ptr _ _ _ rfl | refine And.intro ⟨_,rfl,.inl ⟨_,rfl,by decide,?_⟩⟩ ?_ | apply And.intro | exact vr_mp _ _ rfl | exact vrl_flat _ (by first | exact pcl_in _ _ | exact icells_in _ | exact rcells_in _ | exact scells_in _ | exact bcells_in _ | assumption) | fail)
  -- the rest
  have hokx : okB s p ⟨p.x + vn,vn,h⟩ = okB s p x := by rw [hx]
  have hN' := hN hc
  rw [hokx,← hx] at hN'
  clear hN hE
  have fin : ∀ s' : St,okB s p x = false → Wk [1000,0,8,16,80,120,136] s' ⟨[(0,.yld 1000 rr [.bot,.bot,.bot,.bot,.bot,.bot,.bot,.bot,.bot,.ptr 16 0,.bot,.bot,.ptr 80 0,.ptr 120 0,.ptr 136 0]),(1,.ptr 525 0),(2,.ptr 524 0),(3,.ptr 526 0),(5,dI vn),(6,dI (h + 1))],[(0,[.at_ C,dI s.len,dI cl,dI sf,.list (sps s.hind)]),(8,[dI f.x,dI f.v,dI f.h]),(16,[.fn 42 [] []]),(80,[.mp 40]),(40,[.val (mpV (enV L))]),(120,[.own 128 (r.length * 3) (qOf k L).length 3]),(128,pcl (r ++ qOf k L)),(136,[dI p.x,dI p.v,dI p.h]),(524,[.at_ C,dI s.len,dI cl,dI sf,.list (sps s.hind)]),(525,[dI p.x,dI p.v,dI p.h]),(526,[dI 1])],1400⟩ → Q .norm s' := fun s' ho hw => hN' r s' (by rw [ho]; exact hw)
  unfold siteL psL at hcl
  have hokd : okB s p x = (decide (x.x ≤ 40) && (!endsB s p x && (!sinksB s p x && clearB s p x))) := rfl
  rw [← x1,← x2,← x3] at hcl
  rw [← x1] at hokd
  cases q1 : decide (p.x + (vn : Int) ≤ 40)
  · rw [q1] at hokd
    refine aw_seq (aw_hide fun K hK => aw_region ?_)
    simp (disch := first | exact okY | omega) only [ZU,Nat.reduceAdd,Nat.reduceMul,dI,dB,AOpRun,aexec,Nat.reduceBEq,↓eget_h,run1,↓hget_h,isSh,↓reduceIte,abin,q1,ARun_some,AG_ft]
    subst hK
    refine aw_condF rfl (aw_skip ?_)
    simp only [thenQ,blockQ,if_true,if_false,Nat.reduceEqDiff,reduceCtorEq]
    refine aw_hide fun K hK => aw_region ?_
    simp (disch := first | exact okY | omega) only [ZU,Nat.reduceAdd,Nat.reduceMul,AOpRun,aexec,Nat.reduceBEq,↓eget_h,isSh,↓reduceIte,abin,fits]
    subst hK
    refine fin _ (by rw [hokd]; simp) ?_
    unfold dI
    refine wk_q [] [(1000,1000),(0,0),(8,8),(16,16),(80,80),(40,40),(120,120),(128,128),(136,136),(524,524),(525,525),(526,526)] ?_ ?_ <;> repeat' (first | exact trivial | exact vr_val _ | exact vr_list _ | exact vr_at _ | exact vr_own _ _ _ _ _ rfl | exact vr_ptr _ _ _ rfl | apply vr_fn | refine vr_yld _ _ _ rfl ?_ | exact Ren.bot _ | exact Ren.ptr _ _ _ rfl | refine And.intro ⟨_,rfl,.inl ⟨_,rfl,by decide,?_⟩⟩ ?_ | apply And.intro | exact vr_mp _ _ rfl | exact vrl_flat _ (by first | exact pcl_in _ _ | exact icells_in _ | exact rcells_in _ | exact scells_in _ | exact bcells_in _ | assumption) | fail)
  cases q2 : endsB s p x
  case true =>
    rw [q1,q2] at hokd
    refine aw_seq (aw_hide fun K hK => aw_region ?_)
    simp (disch := first | exact okY | omega) only [ZU,Nat.reduceAdd,Nat.reduceMul,dI,dB,AOpRun,aexec,Nat.reduceBEq,↓eget_h,run1,↓hget_h,isSh,↓reduceIte,abin,q1,ARun_some,AG_tt,AG_ft]
    subst hK
    refine aw_condF rfl (aw_skip ?_)
    simp only [thenQ,blockQ,if_true,if_false,Nat.reduceEqDiff,reduceCtorEq]
    refine aw_hide fun K hK => aw_region ?_
    simp (disch := first | exact okY | omega) only [ZU,Nat.reduceAdd,Nat.reduceMul,AOpRun,aexec,Nat.reduceBEq,↓eget_h,isSh,↓reduceIte,abin,fits]
    subst hK
    refine fin _ (by rw [hokd]; simp) ?_
    unfold dI
    refine wk_q [] [(1000,1000),(0,0),(8,8),(16,16),(80,80),(40,40),(120,120),(128,128),(136,136),(524,524),(525,525),(526,526)] ?_ ?_ <;> repeat' (first | exact trivial | exact vr_val _ | exact vr_list _ | exact vr_at _ | exact vr_own _ _ _ _ _ rfl | exact vr_ptr _ _ _ rfl | apply vr_fn | refine vr_yld _ _ _ rfl ?_ | exact Ren.bot _ | exact Ren.ptr _ _ _ rfl | refine And.intro ⟨_,rfl,.inl ⟨_,rfl,by decide,?_⟩⟩ ?_ | apply And.intro | exact vr_mp _ _ rfl | exact vrl_flat _ (by first | exact pcl_in _ _ | exact icells_in _ | exact rcells_in _ | exact scells_in _ | exact bcells_in _ | assumption) | fail)
  cases q3 : sinksB s p x
  case true =>
    rw [q1,q2,q3] at hokd
    refine aw_seq (aw_hide fun K hK => aw_region ?_)
    simp (disch := first | exact okY | omega) only [ZU,Nat.reduceAdd,Nat.reduceMul,dI,dB,AOpRun,aexec,Nat.reduceBEq,↓eget_h,run1,↓hget_h,isSh,↓reduceIte,abin,q1,ARun_some,AG_tt,AG_ft]
    subst hK
    refine aw_condF rfl (aw_skip ?_)
    simp only [thenQ,blockQ,if_true,if_false,Nat.reduceEqDiff,reduceCtorEq]
    refine aw_hide fun K hK => aw_region ?_
    simp (disch := first | exact okY | omega) only [ZU,Nat.reduceAdd,Nat.reduceMul,AOpRun,aexec,Nat.reduceBEq,↓eget_h,isSh,↓reduceIte,abin,fits]
    subst hK
    refine fin _ (by rw [hokd]; simp) ?_
    unfold dI
    refine wk_q [] [(1000,1000),(0,0),(8,8),(16,16),(80,80),(40,40),(120,120),(128,128),(136,136),(524,524),(525,525),(526,526)] ?_ ?_ <;> repeat' (first | exact trivial | exact vr_val _ | exact vr_list _ | exact vr_at _ | exact vr_own _ _ _ _ _ rfl | exact vr_ptr _ _ _ rfl | apply vr_fn | refine vr_yld _ _ _ rfl ?_ | exact Ren.bot _ | exact Ren.ptr _ _ _ rfl | refine And.intro ⟨_,rfl,.inl ⟨_,rfl,by decide,?_⟩⟩ ?_ | apply And.intro | exact vr_mp _ _ rfl | exact vrl_flat _ (by first | exact pcl_in _ _ | exact icells_in _ | exact rcells_in _ | exact scells_in _ | exact bcells_in _ | assumption) | fail)
  rw [q1,q2,q3] at hokd
  simp only [Bool.true_and,Bool.not_false] at hokd
  cases q4 : clearB s p x
  · rw [q4] at hokd hcl
    refine aw_seq (aw_hide fun K hK => aw_region ?_)
    simp (disch := first | exact okY | omega) only [ZU,Nat.reduceAdd,Nat.reduceMul,dI,dB,AOpRun,aexec,Nat.reduceBEq,↓eget_h,run1,↓hget_h,isSh,↓reduceIte,abin,q1,ARun_some,AG_tt,Nat.reduceLeDiff,List.drop,List.take]
    refine acall0 hcl ?_
    simp (disch := first | exact okY | omega) only [ZU,Nat.reduceAdd,dB,Nat.reduceBEq,AOpRun,aexec,↓eget_h,↓reduceIte,ARun_some,AG_ft]
    subst hK
    refine aw_condF rfl (aw_skip ?_)
    simp only [thenQ,blockQ,if_true,if_false,Nat.reduceEqDiff,reduceCtorEq]
    refine aw_hide fun K hK => aw_region ?_
    simp (disch := first | exact okY | omega) only [ZU,Nat.reduceAdd,Nat.reduceMul,AOpRun,aexec,Nat.reduceBEq,↓eget_h,isSh,↓reduceIte,abin,fits]
    subst hK
    refine fin _ hokd ?_
    unfold dI
    refine wk_q [] [(1000,1000),(0,0),(8,8),(16,16),(80,80),(40,40),(120,120),(128,128),(136,136),(524,524),(525,525),(526,526)] ?_ ?_ <;> repeat' (first | exact trivial | exact vr_val _ | exact vr_list _ | exact vr_at _ | exact vr_own _ _ _ _ _ rfl | exact vr_ptr _ _ _ rfl | apply vr_fn | refine vr_yld _ _ _ rfl ?_ | exact Ren.bot _ | exact Ren.ptr _ _ _ rfl | refine And.intro ⟨_,rfl,.inl ⟨_,rfl,by decide,?_⟩⟩ ?_ | apply And.intro | exact vr_mp _ _ rfl | exact vrl_flat _ (by first | exact pcl_in _ _ | exact icells_in _ | exact rcells_in _ | exact scells_in _ | exact bcells_in _ | assumption) | fail)
  rw [q4] at hokd hcl
  rw [hokd] at hN'
  simp only [if_true] at hN'
  have wb := way_body [.at_ C,dI s.len,dI cl,dI sf,.list (sps s.hind)] (dint_in _ rfl) rfl f p x L r (qOf k L) hq0 (by omega)
  rw [qOf_add (k := k) (L := L) (by omega) p x] at wb
  have hqy := fun r' => pcl_noY (r' ++ qOf k (addQ p L x))
  rw [← x1,← x2,← x3] at wb
  refine aw_seq (aw_hide fun K hK => aw_region_yieldGA hr [⟨some 111,.fad 0 (.tmp 7),none,[]⟩,⟨some 112,.load1 (.tmp 111),none,[]⟩,⟨some 113,.bin .leq (.tmp 112) (.const (.int .i64 40)),none,[]⟩,⟨some 114,.mv (.tmp 113),none,[]⟩,⟨some 115,.mv (.tmp 8),(some (some 114,true)),[]⟩,⟨some 116,.un .not (.tmp 115),(some (some 114,true)),[]⟩,⟨some 117,.pick (.tmp 114) (.tmp 116) (.const (.bool false)),none,[]⟩,⟨some 118,.mv (.tmp 117),none,[]⟩,⟨some 119,.mv (.tmp 9),(some (some 118,true)),[]⟩,⟨some 120,.un .not (.tmp 119),(some (some 118,true)),[]⟩,⟨some 121,.pick (.tmp 118) (.tmp 120) (.const (.bool false)),none,[]⟩,⟨some 122,.mv (.tmp 121),none,[]⟩,⟨some 123,.loadN 5 (.tmp 2),(some (some 122,true)),[]⟩,⟨some 124,.loadN 3 (.tmp 1),(some (some 122,true)),[]⟩,⟨some 125,.loadN 3 (.tmp 7),(some (some 122,true)),[]⟩,⟨some 126,.call (.func 102) [(.tmp 123),(.tmp 124),(.tmp 125)],(some (some 122,true)),[]⟩,⟨some 127,.pick (.tmp 122) (.tmp 126) (.const (.bool false)),none,[]⟩,⟨some 128,.mv (.tmp 127),none,[]⟩,⟨some 129,.mv (.tmp 0),(some (some 128,true)),[]⟩,⟨some 130,.loadN 3 (.tmp 7),(some (some 128,true)),[]⟩]
    [⟨some 132,.un .not (.tmp 131),(some (some 128,true)),[]⟩,⟨some 133,.pick (.tmp 128) (.tmp 132) (.const (.bool false)),none,[]⟩] ?_)
  simp (disch := first | exact okY | omega) only [ZU,Nat.reduceAdd,Nat.reduceMul,dI,dB,AOpRun,aexec,Nat.reduceBEq,↓eget_h,run1,↓hget_h,isSh,↓reduceIte,abin,q1,ARun_some,AG_tt,Nat.reduceLeDiff,List.drop,List.take]
  refine acall0 hcl ?_
  simp (disch := first | exact okY | omega) only [ZU,Nat.reduceAdd,dB,Nat.reduceBEq,AOpRun,aexec,↓eget_h,↓reduceIte,ARun_some,AG_tt,↓hget_h,Nat.reduceLeDiff,List.drop,List.take]
  subst hK
  refine yieldKGA [1000,0,8,16,80,120,136,525,524,526] [(0,.yld 1000 rr [.bot,.bot,.bot,.bot,.bot,.bot,.bot,.bot,.bot,.ptr 16 0,.bot,.bot,.ptr 80 0,.ptr 120 0,.ptr 136 0]),(1,.ptr 525 0),(2,.ptr 524 0),(3,.ptr 526 0),(5,.val (.int .i64 vn)),(6,.val (.int .i64 h)),(128,.val (.bool true))] [.agg [dI (p.x + vn),dI vn,dI h]] (.inl rfl) rfl rfl hr rfl (by simp [hpY,noY,hpy]) (by simp)
    ⟨.inr ⟨rfl,.yld _ _ _ (by simp) (by intro d hd; simp at hd; rcases hd with rfl | rfl | rfl | rfl | rfl | rfl | rfl | rfl | rfl | rfl | rfl | rfl | rfl | rfl | rfl <;> first | exact .bot | exact .ptr _ _ (by simp))⟩,.inr ⟨rfl,.ptr _ _ (by simp)⟩,.inr ⟨rfl,.ptr _ _ (by simp)⟩,.inr ⟨rfl,.ptr _ _ (by simp)⟩,.inr ⟨rfl,.val _⟩,.inr ⟨rfl,.val _⟩,.inr ⟨rfl,.val _⟩,trivial⟩ ?_
  refine aw_wk (s' := ⟨parE (envOf 0 [.bot,.bot,.bot,.bot,.bot,.bot,.bot,.bot,.bot,.ptr 16 0,.bot,.bot,.ptr 80 0,.ptr 120 0,.ptr 136 0]) [53] [.agg [dI (p.x + vn),dI vn,dI h]],hw [.at_ C,dI s.len,dI cl,dI sf,.list (sps s.hind)] f p L r (qOf k L),2000⟩) ?_ (aw_post wb (asgPost ?_))
  · unfold hw
    simp only [parE,envOf,eput_c,eput_n,cond_true,cond_false,beq_self_eq_true,Nat.reduceBEq,dI]
    refine wk_q [] [(525,525),(524,524),(526,526),(1000,1000),(0,0),(8,8),(16,16),(80,80),(40,40),(120,120),(128,128),(136,136)] ?_ ?_ <;> repeat' (first | exact trivial | exact vr_val _ | exact vr_list _ | exact vr_at _ | exact vr_own _ _ _ _ _ rfl | exact vr_ptr _ _ _ rfl | exact vr_bot _ | apply vr_agg | apply vr_fn | refine And.intro ⟨_,rfl,.inl ⟨_,rfl,by decide,?_⟩⟩ ?_ | apply And.intro | exact vr_mp _ _ rfl | exact vrl_flat _ (by first | exact pcl_in _ _ | exact icells_in _ | exact rcells_in _ | exact scells_in _ | exact bcells_in _ | assumption) | fail)
  rintro e s' ⟨rfl,r',hw'⟩
  unfold hw at hw'
  refine ⟨_,hw',yieldQ (by simp [hpY,noY,hqy r',dI]) (of_decide_eq_true (by kernel_rfl)) ?_⟩
  simp (disch := first | exact okY | omega) only [ZU,Nat.reduceAdd,Nat.reduceMul,Nat.reduceSub,Nat.reduceBEq,dI,ARun_some,↓eget_h,AG_tt,AOpRun,aexec,↓reduceIte]
  refine aw_condF rfl (aw_skip ?_)
  simp only [thenQ,blockQ,if_true,if_false,Nat.reduceEqDiff,reduceCtorEq]
  refine aw_hide fun K hK => aw_region ?_
  simp (disch := first | exact okY | omega) only [ZU,Nat.reduceAdd,Nat.reduceMul,AOpRun,aexec,Nat.reduceBEq,↓eget_h,isSh,↓reduceIte,abin,fits]
  subst hK
  refine hN' r' _ ?_
  unfold dI
  refine wk_q [] [(1000,1000),(0,0),(8,8),(16,16),(80,80),(40,40),(120,120),(128,128),(136,136),(524,524),(525,525),(526,526)] ?_ ?_ <;> repeat' (first | exact trivial | exact vr_val _ | exact vr_list _ | exact vr_at _ | exact vr_own _ _ _ _ _ rfl | exact vr_ptr _ _ _ rfl | apply vr_fn | refine vr_yld _ _ _ rfl ?_ | exact Ren.bot _ | exact Ren.ptr _ _ _ rfl | refine And.intro ⟨_,rfl,.inl ⟨_,rfl,by decide,?_⟩⟩ ?_ | apply And.intro | exact vr_mp _ _ rfl | exact vrl_flat _ (by first | exact pcl_in _ _ | exact icells_in _ | exact rcells_in _ | exact scells_in _ | exact bcells_in _ | assumption) | fail)
end Go.Proofs.YtbncpngjclabhaaGreat
/- engine: the steps, entered one by one (with maps; views last). No conditions. -/
namespace Go.Proofs.YtbncpngjclabhaaGreat
open Go Go.RowKit Lift

theorem addL_app (p : Ps) (L : List (Ps × Ps)) (a b : List Ps) : addL p L (a ++ b) = addL p (addL p L a) b := by unfold addL; rw [List.foldl_append]
theorem addQ_len (p : Ps) (L : List (Ps × Ps)) (x : Ps) : L.length ≤ (addQ p L x).length ∧ (addQ p L x).length ≤ L.length + 1 := by
  unfold addQ; split <;> simp
theorem addL_len (p : Ps) : ∀ (l : List Ps) (L : List (Ps × Ps)),L.length ≤ (addL p L l).length ∧ (addL p L l).length ≤ L.length + l.length
  | [],L => by simp [addL]
  | x :: l,L => by
    have h1 := addQ_len p L x
    have h2 := addL_len p l (addQ p L x)
    have e : addL p L (x :: l) = addL p (addQ p L x) l := rfl
    rw [e,List.length_cons]
    omega
theorem stH_len (s : Ste) (p : Ps) (v : Int) : ∀ n,(stH s p v n).length ≤ n
  | 0 => by simp [stH]
  | n + 1 => by
    have := stH_len s p v n
    simp only [stH,List.length_append]
    split <;> simp <;> omega
theorem nH_le {s : Ste} {p : Ps} {v : Int} : nH s p v ≤ 13 := by
  have := mn2_le 12 (IntKind.i64.wrap (p.h + rat s.R v))
  have := (loH_ge s p).1
  unfold nH hiH; omega
theorem stV_len (s : Ste) (p : Ps) : ∀ m,(stV s p m).length ≤ m * 13
  | 0 => by simp [stV]
  | m + 1 => by
    have := stV_len s p m
    have := stH_len s p (loV p + m) (nH s p (loV p + m))
    have := nH_le (s := s) (p := p) (v := loV p + m)
    simp only [stV,List.length_append]
    omega
theorem hiV_le (s : Ste) (p : Ps) : hiV s p ≤ s.top ∧ hiV s p ≤ p.v + 1 := by unfold hiV mn2; split <;> omega
theorem loV_ge (p : Ps) : 0 ≤ loV p ∧ p.v - 1 ≤ loV p := by unfold loV mx2; split <;> omega
theorem nV_le (s : Ste) (p : Ps) : nV s p ≤ 3 := by
  have := hiV_le s p; have := loV_ge p; unfold nV; omega
theorem stH_next (s : Ste) (p : Ps) (L : List (Ps × Ps)) (a : List Ps) (vn n : Nat) (h : Int) (hh : h = loH s p + n) : (if okB s p ⟨p.x + vn,vn,h⟩ = true then addQ p (addL p L (a ++ stH s p vn n)) ⟨p.x + vn,vn,h⟩ else addL p L (a ++ stH s p vn n)) = addL p L (a ++ stH s p vn (n + 1)) := by
  subst hh
  simp only [stH]
  split
  · rw [← List.append_assoc,addL_app p L (a ++ stH s p vn n)]; rfl
  · rw [List.append_nil]
theorem steps_hit {rr : Loop} (hr : LoopIsA Tryz.prog 75 [53] cengine_site_way_B100053 cengine_site_way_B53 rr) (s : Ste) (C : List D) (cl sf : Int) (hC : SteC s C) (hs : SteOk s) (f p : Ps) (hp : PsOk s p) (L : List (Ps × Ps)) (k : Nat) (hk : k < L.length) (hL : L.length ≤ 800000) (r : List Ps) :
    AWb ⟨false,[1000]⟩ Tryz.prog 134 [1000,0,8,16,80,120,136] cengine_site_steps_S1 (fun e s' => (e = .norm ∨ e = .ret) ∧ ∃ r',Wk [1000,0,8,16,80,120,136] s' ⟨[(0,.yld 1000 rr [.bot,.bot,.bot,.bot,.bot,.bot,.bot,.bot,.bot,.ptr 16 0,.bot,.bot,.ptr 80 0,.ptr 120 0,.ptr 136 0])],[(0,[.at_ C,dI s.len,dI cl,dI sf,.list (sps s.hind)]),(8,[dI f.x,dI f.v,dI f.h]),(16,[.fn 42 [] []]),(80,[.mp 40]),(40,[.val (mpV (enV (addL p L (stepsL s p))))]),(120,[.own 128 (r'.length * 3) (qOf k (addL p L (stepsL s p))).length 3]),(128,pcl (r' ++ qOf k (addL p L (stepsL s p)))),(136,[dI p.x,dI p.v,dI p.h]),(524,[.at_ C,dI s.len,dI cl,dI sf,.list (sps s.hind)]),(525,[dI p.x,dI p.v,dI p.h]),(526,[dI 1])],6000⟩) ⟨envOf 0 [.yld 1000 rr [.bot,.bot,.bot,.bot,.bot,.bot,.bot,.bot,.bot,.ptr 16 0,.bot,.bot,.ptr 80 0,.ptr 120 0,.ptr 136 0],.ptr 525 0,.ptr 524 0,.ptr 526 0],[(0,[.at_ C,dI s.len,dI cl,dI sf,.list (sps s.hind)]),(8,[dI f.x,dI f.v,dI f.h]),(16,[.fn 42 [] []]),(80,[.mp 40]),(40,[.val (mpV (enV L))]),(120,[.own 128 (r.length * 3) (qOf k L).length 3]),(128,pcl (r ++ qOf k L)),(136,[dI p.x,dI p.v,dI p.h]),(524,[.at_ C,dI s.len,dI cl,dI sf,.list (sps s.hind)]),(525,[dI p.x,dI p.v,dI p.h]),(526,[dI 1])],1008⟩ := by
  have hv3 := nV_le s p
  have hvl := fun m => stV_len s p m
  have hvr := hiV_le s p
  have hvg := loV_ge p
  have hhl := fun v n => stH_len s p v n
  have hh13 := fun v => nH_le (s := s) (p := p) (v := v)
  have hlh := loH_ge s p
  have ct := hC.top
  have cd := hC.drop
  have hs' := hs
  obtain ⟨t1,t2,d1,d2,k1,k2,_,_,hwr,hh6⟩ := hs'
  have hp' := hp
  obtain ⟨px1,px2,pv1,pv2,ph1,ph2⟩ := hp'
  unfold cengine_site_steps_S1
  refine aw_seq (aw_hide fun K hK => aw_region ?_)
  simp (disch := first | exact okY | omega) only [ZU,Nat.reduceAdd,Nat.reduceMul,dI,AOpRun,aexec,Nat.reduceBEq,↓eget_h,run1,↓hget_h,isSh,↓reduceIte,abin,fits,foldI,mx2]
  subst hK
  simp only [thenQ,blockQ,if_true,if_false,Nat.reduceEqDiff,reduceCtorEq]
  refine aw_block (aw_loop (fun x : Nat × List Ps => ⟨[(0,.yld 1000 rr [.bot,.bot,.bot,.bot,.bot,.bot,.bot,.bot,.bot,.ptr 16 0,.bot,.bot,.ptr 80 0,.ptr 120 0,.ptr 136 0]),(1,.ptr 525 0),(2,.ptr 524 0),(3,.ptr 526 0),(5,dI (loV p + (x.1 : Int)))],[(0,[.at_ C,dI s.len,dI cl,dI sf,.list (sps s.hind)]),(8,[dI f.x,dI f.v,dI f.h]),(16,[.fn 42 [] []]),(80,[.mp 40]),(40,[.val (mpV (enV (addL p L (stV s p x.1))))]),(120,[.own 128 (x.2.length * 3) (qOf k (addL p L (stV s p x.1))).length 3]),(128,pcl (x.2 ++ qOf k (addL p L (stV s p x.1)))),(136,[dI p.x,dI p.v,dI p.h]),(524,[.at_ C,dI s.len,dI cl,dI sf,.list (sps s.hind)]),(525,[dI p.x,dI p.v,dI p.h]),(526,[dI 1])],1200⟩) (fun x => x.1 ≤ nV s p) (fun x => nV s p - x.1) ⟨(0,r),by simp,?_⟩ ?_)
  · simp only [Int.natCast_zero,Int.add_zero]
    have e0 : addL p L (stV s p 0) = L := rfl
    rw [e0]
    have e1 : (if p.v - 1 > 0 then p.v - 1 else 0) = loV p := rfl
    rw [e1]
    unfold dI
    refine wk_q [] [(1000,1000),(0,0),(8,8),(16,16),(80,80),(40,40),(120,120),(128,128),(136,136),(524,524),(525,525),(526,526)] ?_ ?_ <;> repeat' (first | exact trivial | exact vr_val _ | exact vr_list _ | exact vr_at _ | exact vr_own _ _ _ _ _ rfl | exact vr_ptr _ _ _ rfl | apply vr_fn | refine vr_yld _ _ _ rfl ?_ | exact Ren.bot _ | exact Ren.ptr _ _ _ rfl | refine And.intro ⟨_,rfl,.inl ⟨_,rfl,by decide,?_⟩⟩ ?_ | apply And.intro | exact vr_mp _ _ rfl | exact vrl_flat _ (by first | exact pcl_in _ _ | exact icells_in _ | exact rcells_in _ | exact scells_in _ | exact bcells_in _ | assumption) | fail)
  rintro ⟨m,r1⟩ hm
  simp only at hm ⊢
  obtain ⟨vn,hvn⟩ : ∃ vn : Nat,loV p + (m : Int) = vn := ⟨(loV p + m).toNat,by omega⟩
  rw [hvn]
  by_cases hc : (vn : Int) ≤ hiV s p
  case neg =>
    have hm2 : m = nV s p := by unfold nV at hm ⊢; omega
    have q : decide ((vn : Int) ≤ if p.v + 1 < s.top then p.v + 1 else s.top) = false := decide_eq_false hc
    refine aw_seq (aw_seq (aw_hide fun K hK => aw_region ?_))
    simp (disch := first | exact okY | omega) only [ZU,Nat.reduceAdd,Nat.reduceMul,dI,AOpRun,aexec,Nat.reduceBEq,↓eget_h,run1,↓hget_h,List.drop,ct,isSh,↓reduceIte,abin,fits,foldI,mn2,q]
    subst hK
    refine aw_condF rfl (aw_exit ?_)
    simp only [thenQ,blockQ,if_true,if_false,Nat.reduceEqDiff,reduceCtorEq]
    refine ⟨.inl trivial,r1,?_⟩
    rw [show stepsL s p = stV s p m by rw [hm2]; rfl]
    unfold dI
    refine wk_q [] [(1000,1000),(0,0),(8,8),(16,16),(80,80),(40,40),(120,120),(128,128),(136,136),(524,524),(525,525),(526,526)] ?_ ?_ <;> repeat' (first | exact trivial | exact vr_val _ | exact vr_list _ | exact vr_at _ | exact vr_own _ _ _ _ _ rfl | apply vr_fn | refine vr_yld _ _ _ rfl ?_ | exact Ren.bot _ | exact Ren.ptr _ _ _ rfl | refine And.intro ⟨_,rfl,.inl ⟨_,rfl,by decide,?_⟩⟩ ?_ | apply And.intro | exact vr_mp _ _ rfl | exact vrl_flat _ (by first | exact pcl_in _ _ | exact icells_in _ | exact rcells_in _ | exact scells_in _ | exact bcells_in _ | assumption) | fail)
  have q : decide ((vn : Int) ≤ if p.v + 1 < s.top then p.v + 1 else s.top) = true := decide_eq_true hc
  have hmlt : m < nV s p := by unfold nV; omega
  refine aw_seq (aw_seq (aw_hide fun K hK => aw_region ?_))
  simp (disch := first | exact okY | omega) only [ZU,Nat.reduceAdd,Nat.reduceMul,dI,AOpRun,aexec,Nat.reduceBEq,↓eget_h,run1,↓hget_h,List.drop,ct,isSh,↓reduceIte,abin,fits,foldI,mn2,q]
  subst hK
  refine aw_condT rfl (aw_skip ?_)
  simp only [thenQ,blockQ,if_true,if_false,Nat.reduceEqDiff,reduceCtorEq]
  refine aw_seq (aw_block (aw_seq (aw_hide fun K hK => aw_region ?_)))
  simp (disch := first | exact okY | omega) only [ZU,Nat.reduceAdd,Nat.reduceMul,AOpRun,aexec,Nat.reduceBEq,↓eget_h,run1,↓hget_h,List.drop,cd,isSh,↓reduceIte,abin,fits,foldI,mx2]
  subst hK
  simp only [thenQ,blockQ,if_true,if_false,Nat.reduceEqDiff,reduceCtorEq]
  refine aw_block (aw_loop (fun x : Nat × List Ps => ⟨[(0,.yld 1000 rr [.bot,.bot,.bot,.bot,.bot,.bot,.bot,.bot,.bot,.ptr 16 0,.bot,.bot,.ptr 80 0,.ptr 120 0,.ptr 136 0]),(1,.ptr 525 0),(2,.ptr 524 0),(3,.ptr 526 0),(5,dI vn),(6,dI (loH s p + (x.1 : Int)))],[(0,[.at_ C,dI s.len,dI cl,dI sf,.list (sps s.hind)]),(8,[dI f.x,dI f.v,dI f.h]),(16,[.fn 42 [] []]),(80,[.mp 40]),(40,[.val (mpV (enV (addL p L (stV s p m ++ stH s p vn x.1))))]),(120,[.own 128 (x.2.length * 3) (qOf k (addL p L (stV s p m ++ stH s p vn x.1))).length 3]),(128,pcl (x.2 ++ qOf k (addL p L (stV s p m ++ stH s p vn x.1)))),(136,[dI p.x,dI p.v,dI p.h]),(524,[.at_ C,dI s.len,dI cl,dI sf,.list (sps s.hind)]),(525,[dI p.x,dI p.v,dI p.h]),(526,[dI 1])],1400⟩) (fun x => x.1 ≤ nH s p vn) (fun x => nH s p vn - x.1) ⟨(0,r1),by simp,?_⟩ ?_)
  · simp only [Int.natCast_zero,Int.add_zero]
    have e0 : stV s p m ++ stH s p vn 0 = stV s p m := List.append_nil _
    rw [e0]
    have e1 : (if p.h - s.drop > 0 then p.h - s.drop else 0) = loH s p := rfl
    rw [e1]
    unfold dI
    refine wk_q [] [(1000,1000),(0,0),(8,8),(16,16),(80,80),(40,40),(120,120),(128,128),(136,136),(524,524),(525,525),(526,526)] ?_ ?_ <;> repeat' (first | exact trivial | exact vr_val _ | exact vr_list _ | exact vr_at _ | exact vr_own _ _ _ _ _ rfl | exact vr_ptr _ _ _ rfl | apply vr_fn | refine vr_yld _ _ _ rfl ?_ | exact Ren.bot _ | exact Ren.ptr _ _ _ rfl | refine And.intro ⟨_,rfl,.inl ⟨_,rfl,by decide,?_⟩⟩ ?_ | apply And.intro | exact vr_mp _ _ rfl | exact vrl_flat _ (by first | exact pcl_in _ _ | exact icells_in _ | exact rcells_in _ | exact scells_in _ | exact bcells_in _ | assumption) | fail)
  rintro ⟨n,r2⟩ hn
  simp only at hn ⊢
  have hal := addL_len p (stV s p m ++ stH s p vn n) L
  have a1 := hvl m
  have a2 := hhl vn n
  have a3 := hh13 vn
  rw [List.length_append] at hal
  have hnn : nH s p vn = (hiH s p vn + 1 - loH s p).toNat := rfl
  have hh12 : hiH s p vn ≤ 12 := mn2_le _ _
  have hlp : loH s p ≤ p.h := by unfold loH mx2; split <;> omega
  have nx := stH_next s p L (stV s p m) vn n (loH s p + n) rfl
  refine steps_turn hr s C cl sf hC hs f p hp (addL p L (stV s p m ++ stH s p vn n)) k (by omega) (by omega) r2 vn (by omega) (loH s p + n) (by omega) (by omega) _ ?_ ?_
  · intro hle r' s' hw
    rw [nx] at hw
    refine ⟨(n + 1,r'),by simp only; omega,by simp only; omega,?_⟩
    simp only
    rw [show loH s p + ((n + 1 : Nat) : Int) = loH s p + n + 1 by omega]
    exact hw
  · intro hle s' hw
    have hn2 : n = nH s p vn := by omega
    simp only [thenQ,blockQ,if_true,if_false,Nat.reduceEqDiff,reduceCtorEq]
    refine aw_wk hw ?_
    refine aw_hide fun K hK => aw_region ?_
    simp (disch := first | exact okY | omega) only [ZU,Nat.reduceAdd,Nat.reduceMul,dI,AOpRun,aexec,Nat.reduceBEq,↓eget_h,isSh,↓reduceIte,abin,fits]
    subst hK
    refine ⟨(m + 1,r2),by simp only; omega,by simp only; omega,?_⟩
    simp only
    have e3 : stV s p m ++ stH s p vn n = stV s p (m + 1) := by
      simp only [stV]; rw [hn2,hvn]
    rw [e3,show loV p + ((m + 1 : Nat) : Int) = (vn : Int) + 1 by omega]
    unfold dI
    refine wk_q [] [(1000,1000),(0,0),(8,8),(16,16),(80,80),(40,40),(120,120),(128,128),(136,136),(524,524),(525,525),(526,526)] ?_ ?_ <;> repeat' (first | exact trivial | exact vr_val _ | exact vr_list _ | exact vr_at _ | exact vr_own _ _ _ _ _ rfl | exact vr_ptr _ _ _ rfl | apply vr_fn | refine vr_yld _ _ _ rfl ?_ | exact Ren.bot _ | exact Ren.ptr _ _ _ rfl | refine And.intro ⟨_,rfl,.inl ⟨_,rfl,by decide,?_⟩⟩ ?_ | apply And.intro | exact vr_mp _ _ rfl | exact vrl_flat _ (by first | exact pcl_in _ _ | exact icells_in _ | exact rcells_in _ | exact scells_in _ | exact bcells_in _ | assumption) | fail)
end Go.Proofs.YtbncpngjclabhaaGreat
/- A search over poses: what is known stays small, and each pose is a step from the one before. No conditions. -/
namespace Go.Proofs.YtbncpngjclabhaaGreat
open Go Go.RowKit Lift

theorem nodup_lt : ∀ (N : Nat) (l : List Nat),l.Nodup → (∀ x ∈ l,x < N) → l.length ≤ N
  | 0,l,_,h => by
    cases l with
    | nil => simp
    | cons x l => exact absurd (h x (by simp)) (by omega)
  | N + 1,l,hn,h => by
    by_cases hm : N ∈ l
    · have h1 := nodup_lt N (l.erase N) (hn.erase N) (fun x hx => by
        have := (hn.mem_erase_iff).1 hx
        have := h x this.2
        omega)
      rw [List.length_erase_of_mem hm] at h1
      omega
    · have := nodup_lt N l hn (fun x hx => by
        have := h x hx
        have : x ≠ N := fun e => hm (e ▸ hx)
        omega)
      omega
def psN (p : Ps) : Nat := (((p.x + 40) * 7 + p.v) * 13 + p.h).toNat
theorem psN_lt {s : Ste} (hs : SteOk s) {p : Ps} (h : PsOk s p) : psN p < 7371 := by
  obtain ⟨a,b,c,d,e,g⟩ := h
  have := hs.t2
  unfold psN; omega
theorem psN_inj {s : Ste} (hs : SteOk s) {p q : Ps} (h : PsOk s p) (h' : PsOk s q) (he : psN p = psN q) : p = q := by
  obtain ⟨a,b,c,d,e,g⟩ := h
  obtain ⟨a',b',c',d',e',g'⟩ := h'
  have := hs.t2
  obtain ⟨x,v,y⟩ := p
  obtain ⟨x',v',y'⟩ := q
  simp only at *
  unfold psN at he
  simp only at he
  rw [Ps.mk.injEq]
  omega
theorem stH_mem {s : Ste} {p x : Ps} {v : Int} : ∀ {n : Nat},x ∈ stH s p v n → okB s p x = true ∧ ∃ j : Nat,j < n ∧ x = ⟨p.x + v,v,loH s p + j⟩
  | 0,h => by simp [stH] at h
  | n + 1,h => by
    simp only [stH,List.mem_append] at h
    rcases h with h | h
    · obtain ⟨h1,j,h2,h3⟩ := stH_mem h
      exact ⟨h1,j,by omega,h3⟩
    · split at h
      · rename_i ho
        simp only [List.mem_singleton] at h
        exact ⟨h ▸ ho,n,by omega,h⟩
      · cases h
theorem stV_mem {s : Ste} {p x : Ps} : ∀ {m : Nat},x ∈ stV s p m → ∃ i : Nat,i < m ∧ x ∈ stH s p (loV p + i) (nH s p (loV p + i))
  | 0,h => by simp [stV] at h
  | m + 1,h => by
    simp only [stV,List.mem_append] at h
    rcases h with h | h
    · obtain ⟨i,h1,h2⟩ := stV_mem h
      exact ⟨i,by omega,h2⟩
    · exact ⟨m,by omega,h⟩
structure StepOk (s : Ste) (p q : Ps) : Prop where
  ok : PsOk s q
  free : sinksB s p q = false
  drop : p.h - q.h ≤ s.drop
theorem steps_ok {s : Ste} (hs : SteOk s) {p x : Ps} (hp : PsOk s p) (h : x ∈ stepsL s p) : StepOk s p x := by
  obtain ⟨i,hi,h⟩ := stV_mem h
  obtain ⟨ho,j,hj,rfl⟩ := stH_mem h
  have v1 := loV_ge p
  have v2 := hiV_le s p
  have w1 := loH_ge s p
  have w2 : hiH s p (loV p + i) ≤ 12 := mn2_le _ _
  have a1 : nV s p = (hiV s p + 1 - loV p).toNat := rfl
  have a2 : nH s p (loV p + i) = (hiH s p (loV p + i) + 1 - loH s p).toNat := rfl
  simp only [okB,Bool.and_eq_true,decide_eq_true_eq,Bool.not_eq_true'] at ho
  obtain ⟨o1,o2,o3,o4⟩ := ho
  obtain ⟨a,b,c,d,e,g⟩ := hp
  exact ⟨⟨by simp only; omega,o1,by simp only; omega,by simp only; omega,by simp only; omega,by simp only; omega⟩,o3,by simp only; omega⟩
structure Inv (s : Ste) (f : Ps) (L : List (Ps × Ps)) : Prop where
  h0 : L[0]? = some (f,f)
  nd : (L.map (·.1)).Nodup
  ok : ∀ e ∈ L,PsOk s e.1
  bk : ∀ i e,0 < i → L[i]? = some e → ∃ j e',j < i ∧ L[j]? = some e' ∧ e'.1 = e.2 ∧ e.1 ∈ stepsL s e.2
theorem inv_len {s : Ste} (hs : SteOk s) {f : Ps} {L : List (Ps × Ps)} (h : Inv s f L) : L.length ≤ 7371 := by
  have h1 : (L.map fun e => psN e.1).Nodup := by
    have : (L.map fun e => psN e.1) = (L.map (·.1)).map psN := by rw [List.map_map]; rfl
    rw [this]
    have nd := h.nd
    have ok : ∀ p ∈ L.map (·.1),PsOk s p := fun p hp => by
      obtain ⟨e,he,rfl⟩ := List.mem_map.1 hp; exact h.ok e he
    generalize L.map (·.1) = l at nd ok
    induction l with
    | nil => simp
    | cons p l ih =>
      rw [List.nodup_cons] at nd
      rw [List.map_cons,List.nodup_cons]
      refine ⟨fun hm => ?_,ih nd.2 fun q hq => ok q (by simp [hq])⟩
      obtain ⟨q,hq,he⟩ := List.mem_map.1 hm
      have := psN_inj hs (ok q (by simp [hq])) (ok p (by simp)) he
      subst this
      exact nd.1 hq
  have := nodup_lt 7371 _ h1 (fun x hx => by
    obtain ⟨e,he,rfl⟩ := List.mem_map.1 hx
    exact psN_lt hs (h.ok e he))
  simpa using this
theorem pre_none {L : List (Ps × Ps)} {q : Ps} (h : pre L q = none) : q ∉ L.map (·.1) := by
  intro hm
  obtain ⟨e,he,rfl⟩ := List.mem_map.1 hm
  simp only [pre,Option.map_eq_none_iff,List.find?_eq_none] at h
  have := h e he
  simp at this
theorem pre_at : ∀ {L : List (Ps × Ps)} {i : Nat} {e : Ps × Ps},(L.map (·.1)).Nodup → L[i]? = some e → pre L e.1 = some e.2
  | [],i,e,_,h => by simp at h
  | x :: L,0,e,_,h => by
    simp only [List.getElem?_cons_zero,Option.some.injEq] at h
    subst h
    simp [pre]
  | x :: L,i + 1,e,hn,h => by
    simp only [List.map_cons,List.nodup_cons] at hn
    simp only [List.getElem?_cons_succ] at h
    have hne : ¬ x.1 = e.1 := fun he => hn.1 (he ▸ List.mem_map.2 ⟨e,List.mem_of_getElem? h,rfl⟩)
    have := pre_at hn.2 h
    unfold pre at this ⊢
    rw [List.find?_cons,decide_eq_false hne]
    exact this
theorem inv_add {s : Ste} {f : Ps} {L : List (Ps × Ps)} (h : Inv s f L) (hs : SteOk s) {k : Nat} {e : Ps × Ps} (hk : L[k]? = some e) {x : Ps} (hx : x ∈ stepsL s e.1) : Inv s f (addQ e.1 L x) ∧ (addQ e.1 L x)[k]? = some e := by
  unfold addQ
  split
  · rename_i hn
    have hlt : k < L.length := (List.getElem?_eq_some_iff.1 hk).1
    have hke : (L ++ [(x,e.1)])[k]? = some e := by rw [List.getElem?_append_left hlt]; exact hk
    refine ⟨⟨?_,?_,fun d hd => ?_,fun i d hi hd => ?_⟩,hke⟩
    · have h0 := h.h0
      have : 0 < L.length := (List.getElem?_eq_some_iff.1 h0).1
      rw [List.getElem?_append_left this]; exact h0
    · rw [List.map_append,List.nodup_append]
      refine ⟨h.nd,by simp,fun a ha b hb => ?_⟩
      simp at hb
      subst hb
      intro he
      subst he
      exact pre_none hn ha
    · rcases List.mem_append.1 hd with hd | hd
      · exact h.ok d hd
      · simp at hd
        subst hd
        exact (steps_ok hs (h.ok e (List.mem_of_getElem? hk)) hx).ok
    · by_cases hil : i < L.length
      · rw [List.getElem?_append_left hil] at hd
        obtain ⟨j,e',h1,h2,h3,h4⟩ := h.bk i d hi hd
        exact ⟨j,e',h1,by rw [List.getElem?_append_left (by omega)]; exact h2,h3,h4⟩
      · have : i = L.length := by
          have := (List.getElem?_eq_some_iff.1 hd).1
          simp at this; omega
        subst this
        rw [List.getElem?_append_right (Nat.le_refl _)] at hd
        simp at hd
        subst hd
        exact ⟨k,e,hlt,hke,rfl,hx⟩
  · exact ⟨h,hk⟩
theorem inv_addL {s : Ste} {f : Ps} (hs : SteOk s) {k : Nat} {e : Ps × Ps} : ∀ {l : List Ps} {L : List (Ps × Ps)},Inv s f L → L[k]? = some e → (∀ x ∈ l,x ∈ stepsL s e.1) → Inv s f (addL e.1 L l) ∧ (addL e.1 L l)[k]? = some e
  | [],L,h,hk,_ => ⟨h,hk⟩
  | x :: l,L,h,hk,hl => by
    obtain ⟨h1,h2⟩ := inv_add h hs hk (hl x (by simp))
    have h3 := inv_addL hs h1 h2 (l := l) fun y hy => hl y (by simp [hy])
    exact h3
theorem inv_start {s : Ste} {f : Ps} (h : PsOk s f) : Inv s f [(f,f)] := ⟨rfl,by simp,fun e he => by simp at he; subst he; exact h,fun i e hi he => by
  have := (List.getElem?_eq_some_iff.1 he).1
  simp at this; omega⟩
inductive Path (s : Ste) (f : Ps) : List Ps → Ps → Prop
  | nil : Path s f [] f
  | snoc (l : List Ps) (e b : Ps) : Path s f l e → b ∈ stepsL s e → Path s f (l ++ [b]) b
theorem chain_path {s : Ste} {f : Ps} {L : List (Ps × Ps)} (h : Inv s f L) : ∀ (n i : Nat) (e : Ps × Ps),i ≤ n → L[i]? = some e → Path s f (chain L f n e.1).reverse e.1 := by
  intro n
  induction n with
  | zero =>
    intro i e hi he
    obtain rfl : i = 0 := by omega
    rw [h.h0] at he
    cases he
    exact .nil
  | succ n ih =>
    intro i e hi he
    unfold chain
    split
    · rename_i hf
      rw [hf]
      exact .nil
    · rename_i hf
      have hi0 : 0 < i := by
        rcases Nat.eq_zero_or_pos i with h0 | h0
        · subst h0
          rw [h.h0] at he
          cases he
          exact absurd rfl hf
        · exact h0
      obtain ⟨j,e',h1,h2,h3,h4⟩ := h.bk i e hi0 he
      rw [pre_at h.nd he,Option.getD_some,← h3,List.reverse_cons]
      refine .snoc _ _ _ (ih j e' (by omega) h2) ?_
      rw [h3]; exact h4
theorem wayF_path {s : Ste} {f : Ps} (hs : SteOk s) : ∀ (n : Nat) (L : List (Ps × Ps)) (k : Nat) (l : List Ps),Inv s f L → wayF s f n L k = some l → ∃ e,Path s f l e ∧ downB s e = true
  | 0,L,k,l,_,h => by simp [wayF] at h
  | n + 1,L,k,l,hi,h => by
    simp only [wayF] at h
    split at h
    · cases h
    · rename_i e he
      have hlt : k < L.length := (List.getElem?_eq_some_iff.1 he).1
      split at h
      · rename_i hd
        cases h
        exact ⟨e.1,chain_path hi _ k e (by omega) he,hd⟩
      · obtain ⟨h1,h2⟩ := inv_addL hs hi he (l := stepsL s e.1) (fun x hx => hx)
        exact wayF_path hs n _ _ l h1 h
theorem chain_len {f : Ps} (L : List (Ps × Ps)) : ∀ (n : Nat) (p : Ps),(chain L f n p).length ≤ n
  | 0,p => by simp [chain]
  | n + 1,p => by
    unfold chain
    split
    · simp
    · have := chain_len (f := f) L n ((pre L p).getD f)
      simp; omega
end Go.Proofs.YtbncpngjclabhaaGreat
/- engine: the way back through what is known (with maps; views last). Its code is taken from the dump. No conditions. -/
namespace Go.Proofs.YtbncpngjclabhaaGreat
open Go Go.RowKit Lift

def cwEnd : ACode :=
 (.seq
 (.region false [oo 15 (.mv (.const (.slice none 0 0)))] [])
 (.seq
 (.block 2
 (.loop
 (.seq
 (.seq
 (.region false [oo 36 (.loadN 3 (.tmp 14)),
 oo 37 (.loadN 3 (.tmp 6)),
 oo 38 (.eqa true [false,false,false] (.tmp 36) (.tmp 37))] [36,37])
 (.cond (.tmp 38)
 .skip
 (.exit 2)))
 (.seq
 (.block 3
 (.region false [om 42 15,
 oo 43 (.loadN 3 (.tmp 14)),
 oo 44 (.buildSl 3 1 [(.val (.int .i64 0)),(.val (.int .i64 0)),(.val (.int .i64 0))] [(0,3,(.tmp 43))]),
 oo 45 (.app 3 24 (.tmp 42) (.tmp 44)),
 om 15 45] [42,43,44,45]))
 (.region false [oo 39 (.load1 (.tmp 12)),
 oo 40 (.loadN 3 (.tmp 14)),
 oo 41 (.look [false,false,false] (.agg [(.val (.int .i64 0)),(.val (.int .i64 0)),(.val (.int .i64 0))]) false (.tmp 39) (.tmp 40)),
 on (.store 3 (.tmp 14) (.tmp 41))] [39,40,41])))))
 (.seq
 (.region false [om 46 15,
 oo 47 (.call (.func 68) [(.tmp 46)])] [46,47])
 (.seq
 (.region false [om 48 15,
 om 10 48,
 oo 11 (.mv (.const (.bool true)))] [48])
 .ret))))
theorem pcl_take (l : List Ps) : (pcl l).take (l.length * 3) = pcl l := List.take_of_length_le (by rw [pcl_len]; exact Nat.le_refl _)
theorem pcl_snoc (l : List Ps) (p : Ps) : pcl l ++ [.val (.int .i64 p.x),.val (.int .i64 p.v),.val (.int .i64 p.h)] = pcl (l ++ [p]) := by rw [pcl_app]; rfl
theorem neq_ps {p f : Ps} (h : ¬ p = f) : (p.x == f.x && (p.v == f.v && p.h == f.h)) = false := by
  rw [Bool.eq_false_iff]
  intro hc
  simp only [Bool.and_eq_true,beq_iff_eq] at hc
  obtain ⟨x,v,y⟩ := p
  obtain ⟨x',v',y'⟩ := f
  exact h (by rw [Ps.mk.injEq]; exact hc)
theorem way_end {s : Ste} (hs : SteOk s) {f : Ps} {L : List (Ps × Ps)} (hi : Inv s f L) {k : Nat} {e0 : Ps × Ps} (hk : L[k]? = some e0) :
    AWb false Tryz.prog 75 [] cwEnd (fun e s' => e = .ret ∧ Wk [] s' ⟨[(10,.list (pss (chain L f L.length e0.1).reverse)),(11,dB true)],[],5000⟩)
      ⟨[(6,.ptr 8 0),(12,.ptr 80 0),(14,.ptr 136 0)],[(8,[dI f.x,dI f.v,dI f.h]),(80,[.mp 40]),(40,[.val (mpV (enV L))]),(136,[dI e0.1.x,dI e0.1.v,dI e0.1.h])],600⟩ := by
  have hlen := inv_len hs hi
  have hkl : k < L.length := (List.getElem?_eq_some_iff.1 hk).1
  obtain ⟨W,hW⟩ : ∃ W,chain L f L.length e0.1 = W := ⟨_,rfl⟩
  have hWl := chain_len (f := f) L L.length e0.1
  rw [hW] at hWl ⊢
  unfold cwEnd
  refine aw_seq (aw_hide fun K hK => aw_region ?_)
  simp (disch := first | exact okY | omega) only [ZU,Nat.reduceMul,Nat.reduceAdd,dI,AOpRun,aexec,Nat.reduceBEq]
  subst hK
  simp only [thenQ,blockQ,if_true,if_false,Nat.reduceEqDiff,reduceCtorEq]
  refine aw_seq (aw_block (aw_loop (fun x : Ps × Nat × List Ps => ⟨[(6,.ptr 8 0),(12,.ptr 80 0),(14,.ptr 136 0),(15,.vec 700 x.2.2.length 3)],[(8,[dI f.x,dI f.v,dI f.h]),(80,[.mp 40]),(40,[.val (mpV (enV L))]),(136,[dI x.1.x,dI x.1.v,dI x.1.h]),(700,pcl x.2.2)],900⟩)
    (fun x => (∃ i e,i ≤ x.2.1 ∧ L[i]? = some e ∧ e.1 = x.1) ∧ x.2.2 ++ chain L f x.2.1 x.1 = W ∧ x.2.2.length + x.2.1 ≤ L.length) (fun x => x.2.1) ⟨(e0.1,L.length,[]),⟨⟨k,e0,by simp only; omega,hk,rfl⟩,hW,by simp⟩,?_⟩ ?_))
  · unfold dI
    refine wk_q [] [(8,8),(80,80),(40,40),(136,136),(700,700)] ?_ ?_ <;> repeat' (first | exact trivial | exact vr_val _ | exact vr_ptr _ _ _ rfl | exact vr_nilv _ _ _ rfl | refine And.intro ⟨_,rfl,.inl ⟨_,rfl,by decide,?_⟩⟩ ?_ | refine And.intro ⟨_,rfl,.inr ⟨rfl,rfl,of_decide_eq_true (by kernel_rfl)⟩⟩ ?_ | apply And.intro | exact vr_mp _ _ rfl)
  rintro ⟨p,n,l⟩ ⟨⟨i,e,hin,hie,hep⟩,hl,hb⟩
  simp only at hin hep hl hb ⊢
  subst hep
  by_cases hf : e.1 = f
  · have hc : chain L f n e.1 = [] := by
      cases n with
      | zero => rfl
      | succ n => unfold chain; rw [if_pos hf]
    rw [hc,List.append_nil] at hl
    subst hl
    rw [hf]
    refine aw_seq (aw_seq (aw_hide fun K hK => aw_region ?_))
    simp (disch := first | exact okY | omega) only [ZU,Nat.reduceAdd,Nat.reduceMul,dI,AOpRun,aexec,Nat.reduceBEq,↓eget_h,↓hget_h,Nat.reduceLeDiff,↓reduceIte,List.drop,List.take,D.isAgg,D.cells,isB,eqCells,scalarEq,bne_self_eq_false]
    subst hK
    refine aw_condF rfl (aw_exit ?_)
    simp only [thenQ,blockQ,if_true,if_false,Nat.reduceEqDiff,reduceCtorEq]
    cases l with
    | nil =>
      refine aw_wk (s' := ⟨[(15,.list [])],[],1000⟩) ?_ ?_
      · refine wk_q [700] [] ?_ ?_ <;> repeat' (first | exact trivial | refine vr_fl _ _ _ _ _ (by decide) rfl ?_ ?_ ?_ ?_ | apply And.intro)
        all_goals first | rfl | exact pcl_in _ _ | (intro e he; cases he)
      refine aw_seq (aw_hide fun K hK => aw_region ?_)
      simp (disch := first | exact okY | omega) only [ZU,Nat.reduceAdd,Nat.reduceMul,AOpRun,aexec,↓eget_h,Nat.reduceBEq]
      refine acall0 rev0_ac ?_
      simp (disch := first | exact okY | omega) only [ZU,Nat.reduceAdd,Nat.reduceBEq]
      subst hK
      simp only [thenQ,blockQ,if_true,if_false,Nat.reduceEqDiff,reduceCtorEq]
      refine aw_seq (aw_hide fun K hK => aw_region ?_)
      simp (disch := first | exact okY | omega) only [ZU,Nat.reduceAdd,Nat.reduceMul,AOpRun,aexec,↓eget_h,Nat.reduceBEq]
      subst hK
      refine aw_ret ?_
      refine ⟨rfl,?_⟩
      unfold dB
      refine wk_q [] [] ?_ ?_ <;> repeat' (first | exact trivial | exact vr_val _ | exact vr_list _ | apply And.intro)
    | cons y l =>
      have h0 : 0 < (y :: l).length := by simp
      have hrv := rev_ac (y :: l) h0 (by omega)
      have ep := fun l => pcl_flat l
      have el := pcl_len (y :: l).reverse
      have e3 := pss_three (y :: l).reverse
      have e4 := pss_len (y :: l).reverse
      generalize y :: l = l at *
      refine aw_wk (s' := ⟨[(15,.vec 128 l.length 3)],[(128,pcl l)],1000⟩) ?_ ?_
      · refine wk_q [] [(128,700)] ?_ ?_ <;> repeat' (first | exact trivial | exact vr_vec _ _ _ _ rfl | refine And.intro ⟨_,rfl,.inl ⟨_,rfl,by decide,?_⟩⟩ ?_ | apply And.intro | exact vrl_flat _ (by first | exact pcl_in _ _ | exact icells_in _ | exact rcells_in _ | exact scells_in _ | exact bcells_in _ | assumption) | fail)
      refine aw_seq (aw_hide fun K hK => aw_region ?_)
      simp (disch := first | exact okY | omega) only [ZU,Nat.reduceAdd,Nat.reduceMul,AOpRun,aexec,↓eget_h,Nat.reduceBEq]
      refine acallB hrv (by repeat' (first | exact trivial | exact rfl | refine And.intro ?_ ?_)) (by kernel_rfl) (by kernel_rfl) (by kernel_rfl) ?_
      simp (disch := first | exact okY | omega) only [ZU,Nat.reduceAdd,Nat.reduceBEq]
      subst hK
      simp only [thenQ,blockQ,if_true,if_false,Nat.reduceEqDiff,reduceCtorEq]
      refine aw_seq (aw_hide fun K hK => aw_region ?_)
      simp (disch := first | exact okY | omega) only [ZU,Nat.reduceAdd,Nat.reduceMul,AOpRun,aexec,↓eget_h,Nat.reduceBEq]
      subst hK
      refine aw_ret ?_
      refine ⟨rfl,?_⟩
      unfold dB
      refine wk_q [128] [] ?_ ?_ <;> repeat' (first | exact trivial | exact vr_val _ | refine vr_fl _ _ _ _ _ (by decide) rfl ?_ ?_ ?_ ?_ | apply And.intro)
      all_goals first | exact e3 | (rw [e4]; simp; done) | exact ep _ | exact pcl_in _ _ | rfl
  · have hne := neq_ps hf
    have hi0 : 0 < i := by
      rcases Nat.eq_zero_or_pos i with h0 | h0
      · subst h0
        rw [hi.h0] at hie
        cases hie
        exact absurd rfl hf
      · exact h0
    obtain ⟨j,e',h1,h2,h3,_⟩ := hi.bk i e hi0 hie
    have hpre := pre_at hi.nd hie
    cases n with
    | zero => omega
    | succ n =>
    have hc : chain L f (n + 1) e.1 = e.1 :: chain L f n e.2 := by
      conv => lhs; unfold chain
      rw [if_neg hf,hpre,Option.getD_some]
    have hm := mf_pre e.1 L
    rw [hpre] at hm
    have pt := pcl_take l
    have pl := pcl_len l
    have ps := pcl_snoc l e.1
    refine aw_seq (aw_seq (aw_hide fun K hK => aw_region ?_))
    simp (disch := first | exact okY | omega) only [ZU,Nat.reduceAdd,Nat.reduceMul,dI,AOpRun,aexec,Nat.reduceBEq,↓eget_h,↓hget_h,Nat.reduceLeDiff,↓reduceIte,List.drop,List.take,D.isAgg,D.cells,isB,eqCells,scalarEq,hne]
    subst hK
    refine aw_condT rfl (aw_skip ?_)
    simp only [thenQ,blockQ,if_true,if_false,Nat.reduceEqDiff,reduceCtorEq]
    refine aw_seq (aw_block (aw_hide fun K hK => aw_region ?_))
    simp (disch := first | exact okY | omega) only [ZU,Nat.reduceAdd,Nat.reduceMul,AOpRun,aexec,Nat.reduceBEq,↓eget_h,↓hget_h,Nat.le_refl,↓reduceIte,List.drop,List.take,fillD,D.isBot,D.cells,ne_eq,not_true_eq_false,Nat.reduceGT,or_self,splice,base,pl,pt,elems,List.all,D.leaf,and_true,ups,ps]
    refine ago_if (by omega) ?_
    simp (disch := first | exact okY | omega) only [ZU,Nat.reduceAdd,Nat.reduceBEq,hdel_c,hdel_n,AOpRun,aexec,↓eget_h]
    subst hK
    simp only [thenQ,blockQ,if_true,if_false,Nat.reduceEqDiff,reduceCtorEq]
    refine aw_hide fun K hK => aw_region ?_
    simp (disch := first | exact okY | omega) only [ZU,Nat.reduceAdd,Nat.reduceMul,AOpRun,aexec,run1,Nat.reduceBEq,↓eget_h,↓hget_h,Nat.reduceLeDiff,↓reduceIte,List.drop,List.take,entsH,entsC,unV_mp,D.isAgg,D.cells,isB,hm,psV,lookD,liftV,D.isBot,List.all,D.leaf,splice]
    subst hK
    refine ⟨(e.2,n,l ++ [e.1]),⟨⟨j,e',by simp only; omega,h2,h3⟩,by simp only; rw [← hl,hc]; simp,by simp only [List.length_append,List.length_singleton]; omega⟩,by simp only; omega,?_⟩
    simp only [List.length_append,List.length_singleton]
    unfold dI
    refine wk_q [] [(8,8),(80,80),(40,40),(136,136),(700,948)] ?_ ?_ <;> repeat' (first | exact trivial | exact vr_val _ | exact vr_vec _ _ _ _ rfl | exact vr_ptr _ _ _ rfl | refine And.intro ⟨_,rfl,.inl ⟨_,rfl,by decide,?_⟩⟩ ?_ | apply And.intro | exact vr_mp _ _ rfl | exact vrl_flat _ (by first | exact pcl_in _ _ | exact icells_in _ | exact rcells_in _ | exact scells_in _ | exact bcells_in _ | assumption) | fail)
end Go.Proofs.YtbncpngjclabhaaGreat
/- engine: the search (with maps; views last). No conditions. -/
namespace Go.Proofs.YtbncpngjclabhaaGreat
open Go Go.RowKit Lift

def wayD : Option (List Ps) → D
  | none => .val (.slice none 0 0)
  | some l => .list (pss l)
theorem qOf_cons {k : Nat} {L : List (Ps × Ps)} {e : Ps × Ps} (h : L[k]? = some e) : qOf k L = e.1 :: qOf (k + 1) L := by
  obtain ⟨hlt,rfl⟩ := List.getElem?_eq_some_iff.1 h
  unfold qOf
  rw [List.drop_eq_getElem_cons (by simpa using hlt)]
  simp
def quD (r q : List Ps) : D := if q = [] then .list [] else .own 128 (r.length * 3) q.length 3
theorem quD_nil (r : List Ps) : quD r [] = .list [] := rfl
theorem quD_cons (r : List Ps) (p : Ps) (q : List Ps) : quD r (p :: q) = .own 128 (r.length * 3) (q.length + 1) 3 := rfl
theorem pcl_first (r : List Ps) (p : Ps) (q : List Ps) : ((pcl (r ++ (p :: q))).drop (r.length * 3)).take 3 = [.val (.int .i64 p.x),.val (.int .i64 p.v),.val (.int .i64 p.h)] := by
  rw [pcl_app,List.drop_left' (pcl_len r)]; rfl
theorem siteL_in (s : Ste) (C : List D) (cl sf : Int) (S : Nat → Prop) : ∀ d ∈ siteL s C cl sf,In S d := dint_in _ rfl
theorem way_enter {s : Ste} (hs : SteOk s) (C : List D) (cl sf : Int) (hC : SteC s C) (f p : Ps) (hp : PsOk s p) (L : List (Ps × Ps)) (k : Nat) (hk : k < L.length) (hL : L.length ≤ 800000) (r : List Ps) (SL : List D) (hSL : SL = siteL s C cl sf) (Q : AExit → St → Prop)
    (hQ : ∀ r' s',Wk [] s' ⟨[(2,dI 1),(3,.fn 40 [.agg SL] []),(5,.ptr 0 0),(6,.ptr 8 0),(9,.ptr 16 0),(12,.ptr 80 0),(13,.ptr 120 0)],[(0,SL),(8,[dI f.x,dI f.v,dI f.h]),(16,[.fn 42 [] []]),(80,[.mp 40]),(40,[.val (mpV (enV (addL p L (stepsL s p))))]),(120,[.own 128 (r'.length * 3) (qOf k (addL p L (stepsL s p))).length 3]),(128,pcl (r' ++ qOf k (addL p L (stepsL s p))))],6000⟩ → Q .norm s') :
    AWb false Tryz.prog 75 [] (.rangeFuncA (.tmp 52) [53] cengine_site_way_B100053 cengine_site_way_B53) Q ⟨[(2,dI 1),(3,.fn 40 [.agg SL] []),(5,.ptr 0 0),(6,.ptr 8 0),(9,.ptr 16 0),(12,.ptr 80 0),(13,.ptr 120 0),(14,.ptr 136 0),(52,.fn 101 [] [.ptr 525 0,.ptr 524 0,.ptr 526 0])],[(0,SL),(8,[dI f.x,dI f.v,dI f.h]),(16,[.fn 42 [] []]),(80,[.mp 40]),(40,[.val (mpV (enV L))]),(120,[.own 128 (r.length * 3) (qOf k L).length 3]),(128,pcl (r ++ qOf k L)),(136,[dI p.x,dI p.v,dI p.h]),(524,SL),(525,[dI p.x,dI p.v,dI p.h]),(526,[dI 1])],1000⟩ := by
  subst hSL
  have hqy := fun r' => pcl_noY (r' ++ qOf k (addL p L (stepsL s p)))
  refine aw_rangeSA [0,8,16,80,120,136] [(2,dI 1),(3,.fn 40 [.agg (siteL s C cl sf)] []),(5,.ptr 0 0),(6,.ptr 8 0),(9,.ptr 16 0),(12,.ptr 80 0),(13,.ptr 120 0),(14,.ptr 136 0)] [.bot,.bot,.bot,.bot,.bot,.bot,.bot,.bot,.bot,.ptr 16 0,.bot,.bot,.ptr 80 0,.ptr 120 0,.ptr 136 0] kengine_site_steps_S1 rfl (by simp) ⟨.inl rfl,.inl rfl,.inl rfl,.inl rfl,.inl rfl,.inl rfl,.inl rfl,.inl rfl,.inl rfl,.inr rfl,.inl rfl,.inl rfl,.inr rfl,.inr rfl,.inr rfl,trivial⟩ rfl rfl (by simp)
    ⟨.inr ⟨rfl,.val _⟩,.inr ⟨rfl,.fn _ _ _ (by intro d hd; simp at hd; subst hd; exact .agg _ (siteL_in _ _ _ _ _)) (by simp)⟩,.inr ⟨rfl,.ptr _ _ (by simp)⟩,.inr ⟨rfl,.ptr _ _ (by simp)⟩,.inr ⟨rfl,.ptr _ _ (by simp)⟩,.inr ⟨rfl,.ptr _ _ (by simp)⟩,.inr ⟨rfl,.ptr _ _ (by simp)⟩,.inr ⟨rfl,.ptr _ _ (by simp)⟩,trivial⟩ fun rr hr => ?_
  refine aw_post (steps_hit hr s C cl sf hC hs f p hp L k hk hL r) ?_
  rintro e s' ⟨he,r',hw⟩
  refine ⟨_,hw,rangeQSA 0 hr rfl he (by simp [hpY,noY,dI,hqy r']) ?_⟩
  refine hQ r' _ ?_
  unfold siteL dI
  refine wk_q [] [(0,0),(8,8),(16,16),(80,80),(40,40),(120,120),(128,128),(136,136)] ?_ ?_ <;> repeat' (first | exact trivial | exact vr_val _ | exact vr_list _ | exact vr_at _ | exact vr_own _ _ _ _ _ rfl | exact vr_ptr _ _ _ rfl | apply vr_agg | apply vr_fn | refine And.intro ⟨_,rfl,.inl ⟨_,rfl,by decide,?_⟩⟩ ?_ | apply And.intro | exact vr_mp _ _ rfl | exact vrl_flat _ (by first | exact pcl_in _ _ | exact icells_in _ | exact rcells_in _ | exact scells_in _ | exact bcells_in _ | assumption) | fail)
theorem way_ac {s : Ste} (hs : SteOk s) (C : List D) (cl sf : Int) (hC : SteC s C) (f : Ps) (hf : PsOk s f) : AC Tryz.prog 41 [.agg (siteL s C cl sf),.agg (psL f),dI 1,.fn 40 [.agg (siteL s C cl sf)] [],.fn 42 [] []] [] [] (.tup [wayD (wayF s f 8000 [(f,f)] 0),dB (wayF s f 8000 [(f,f)] 0).isSome]) := by
  refine kengine_site_way.ac (n0 := 0) (by simp) ⟨.agg _ (siteL_in _ _ _ _ _),.agg _ (dint_in _ rfl),.val _,.fn _ _ _ (by intro d hd; simp at hd; subst hd; exact .agg _ (siteL_in _ _ _ _ _)) (by simp),.fn _ _ _ (by simp) (by simp),trivial⟩ trivial rfl ?_
  obtain ⟨W,hW⟩ : ∃ W,wayF s f 8000 [(f,f)] 0 = W := ⟨_,rfl⟩
  rw [hW]
  have hd := fun p => down_ac s C cl sf p hC
  have hst := fun p => steps_ac (siteL s C cl sf) p rfl (siteL_in _ _ _ _) rfl
  have hen := fun (p : Ps) (hp : PsOk s p) (L : List (Ps × Ps)) (k : Nat) (hk : k < L.length) (hL : L.length ≤ 800000) (r : List Ps) => way_enter hs C cl sf hC f p hp L k hk hL r _ rfl
  have hin := siteL_in s C cl sf fun _ => False
  have hl5 : (siteL s C cl sf).length = 5 := rfl
  have hlf : (siteL s C cl sf).all D.leaf = true := rfl
  have ht5 : (siteL s C cl sf).take 5 = siteL s C cl sf := rfl
  generalize siteL s C cl sf = SL at *
  unfold psL at *
  unfold cengine_site_way
  refine aw_seq (aw_hide fun K hK => aw_region ?_)
  simp (disch := first | exact okY | omega) only [ZU,Nat.reduceAdd,Nat.reduceMul,dI,AOpRun,aexec,D.isBot,↓eget_h,or_self,↓reduceIte,D.cells,Nat.reduceBEq]
  subst hK
  simp only [thenQ,blockQ,if_true,if_false,Nat.reduceEqDiff,reduceCtorEq]
  have ev := enV_app [] f f
  rw [List.nil_append] at ev
  have ev0 : (enV []) = [] := rfl
  have hm0 : mfind [] [.val (.int .i64 f.x),.val (.int .i64 f.v),.val (.int .i64 f.h)] = some none := rfl
  rw [ev0,List.nil_append] at ev
  refine aw_seq (aw_hide fun K hK => aw_region ?_)
  simp (disch := first | exact okY | omega) only [ZU,Nat.reduceAdd,Nat.reduceMul,AOpRun,aexec,Nat.reduceBEq,optI,↓reduceIte,↓eget_h,↓hget_h,Nat.reduceLeDiff,List.drop,List.take,entsH,entsC,unV_mp,valV,valC,D.isAgg,D.cells,isB,isNew,hm0,ev,D.isBot,List.all,D.leaf,splice]
  subst hK
  simp only [thenQ,blockQ,if_true,if_false,Nat.reduceEqDiff,reduceCtorEq]
  refine aw_seq (aw_seq (aw_hide fun K hK => aw_region ?_))
  simp (disch := first | exact okY | omega) only [ZU,Nat.reduceAdd,Nat.reduceMul,AOpRun,aexec,Nat.reduceBEq,↓eget_h,↓hget_h,Nat.reduceLeDiff,↓reduceIte,List.drop,List.take,fillD,D.isBot,D.cells,ne_eq,not_true_eq_false,Nat.reduceGT,or_self,splice,List.all,D.leaf]
  subst hK
  simp only [thenQ,blockQ,if_true,if_false,Nat.reduceEqDiff,reduceCtorEq]
  refine aw_wk (s' := ⟨[(2,dI 1),(3,.fn 40 [.agg SL] []),(5,.ptr 0 0),(6,.ptr 8 0),(9,.ptr 16 0),(12,.ptr 80 0),(13,.ptr 120 0)],[(120,[.vec 128 1 3]),(0,SL),(8,[dI f.x,dI f.v,dI f.h]),(16,[.fn 42 [] []]),(80,[.mp 40]),(40,[.val (mpV (enV [(f,f)]))]),(128,[dI f.x,dI f.v,dI f.h])],200⟩) ?_ ?_
  · unfold dI
    refine wk_q [] [(0,0),(8,8),(16,16),(80,80),(40,40),(120,112),(128,104)] ?_ ?_ <;> repeat' (first | exact trivial | exact vr_val _ | exact vr_vec _ _ _ _ rfl | exact vr_ptr _ _ _ rfl | apply vr_agg | apply vr_fn | refine And.intro ⟨_,rfl,.inl ⟨_,rfl,by decide,?_⟩⟩ ?_ | apply And.intro | exact vr_mp _ _ rfl | exact vrl_flat _ (by first | exact pcl_in _ _ | exact icells_in _ | exact rcells_in _ | exact scells_in _ | exact bcells_in _ | assumption) | fail)
  refine aw_wk (wkVo (by omega)) ?_
  refine aw_block (aw_loop (fun x : List (Ps × Ps) × List Ps × Nat => ⟨[(2,dI 1),(3,.fn 40 [.agg SL] []),(5,.ptr 0 0),(6,.ptr 8 0),(9,.ptr 16 0),(12,.ptr 80 0),(13,.ptr 120 0)],[(0,SL),(8,[dI f.x,dI f.v,dI f.h]),(16,[.fn 42 [] []]),(80,[.mp 40]),(40,[.val (mpV (enV x.1))]),(120,[quD x.2.1 (qOf x.2.2 x.1)]),(128,pcl (x.2.1 ++ qOf x.2.2 x.1))],300⟩) (fun x => Inv s f x.1 ∧ x.2.2 ≤ x.1.length ∧ wayF s f (8000 - x.2.2) x.1 x.2.2 = W) (fun x => 8000 - x.2.2) ⟨([(f,f)],[],0),⟨inv_start hf,by simp,hW⟩,?_⟩ ?_)
  · have e1 : quD [] (qOf 0 [(f,f)]) = .own 128 0 1 3 := rfl
    have e2 : pcl ([] ++ qOf 0 [(f,f)]) = [dI f.x,dI f.v,dI f.h] := rfl
    simp only [e1,e2]
    unfold dI
    refine wk_q [] [(0,0),(8,8),(16,16),(80,80),(40,40),(120,120),(128,128)] ?_ ?_ <;> repeat' (first | exact trivial | exact vr_val _ | exact vr_own _ _ _ _ _ rfl | exact vr_ptr _ _ _ rfl | apply vr_agg | apply vr_fn | refine And.intro ⟨_,rfl,.inl ⟨_,rfl,by decide,?_⟩⟩ ?_ | apply And.intro | exact vr_mp _ _ rfl | exact vrl_flat _ (by first | exact pcl_in _ _ | exact icells_in _ | exact rcells_in _ | exact scells_in _ | exact bcells_in _ | assumption) | fail)
  rintro ⟨L,r,k⟩ ⟨hi,hkl,hw⟩
  simp only at hi hkl hw ⊢
  have hlen := inv_len hs hi
  obtain ⟨n,hn⟩ : ∃ n,8000 - k = n + 1 := ⟨8000 - k - 1,by omega⟩
  rw [hn] at hw
  simp only [wayF] at hw
  cases he : L[k]? with
  | none =>
    rw [he] at hw
    simp only at hw
    subst hw
    have hq : qOf k L = [] := by
      have := List.getElem?_eq_none_iff.1 he
      unfold qOf
      exact List.drop_eq_nil_of_le (by simpa using this)
    have e0 : (([] : List (List D)).length : Int) = 0 := rfl
    have q00 : decide ((0 : Int) > 0) = false := rfl
    rw [hq,quD_nil]
    refine aw_seq (aw_seq (aw_hide fun K hK => aw_region ?_))
    simp (disch := first | exact okY | omega) only [ZU,Nat.reduceAdd,Nat.reduceMul,dI,AOpRun,aexec,run1,Nat.reduceBEq,↓eget_h,↓hget_h,cast_lit,isSh,↓reduceIte,abin,q00]
    subst hK
    refine aw_condF rfl (aw_exit ?_)
    simp only [thenQ,blockQ,if_true,if_false,Nat.reduceEqDiff,reduceCtorEq]
    refine aw_seq (aw_hide fun K hK => aw_region ?_)
    simp (disch := first | exact okY | omega) only [ZU,Nat.reduceAdd,Nat.reduceMul,AOpRun,aexec,Nat.reduceBEq]
    subst hK
    simp only [thenQ,blockQ,if_true,if_false,Nat.reduceEqDiff,reduceCtorEq]
    refine aw_ret ?_
    unfold wayD dB
    (refine end_q [] [] ?_ ?_ <;> repeat' (first | exact trivial | exact vr_val _ | apply vr_tup | apply And.intro))
  | some e =>
  rw [he] at hw
  simp only at hw
  have hlt : k < L.length := (List.getElem?_eq_some_iff.1 he).1
  have hpe := hi.ok e (List.mem_of_getElem? he)
  have hq := qOf_cons he
  have hqc := pcl_len (r ++ qOf k L)
  rw [hq] at hqc
  obtain ⟨q,hqq⟩ : ∃ q,qOf (k + 1) L = q := ⟨_,rfl⟩
  rw [hqq] at hq hqc
  have pf := pcl_first r e.1 q
  have kq : (0 : Int) < ((q.length + 1 : Nat) : Int) := by omega
  have kq2 : decide (((q.length + 1 : Nat) : Int) > 0) = true := decide_eq_true kq
  have kl : r.length * 3 + 3 ≤ (pcl (r ++ e.1 :: q)).length := by rw [hqc]; simp; omega
  have hde := hd e.1
  rw [hq,quD_cons]
  refine aw_seq (aw_seq (aw_hide fun K hK => aw_region ?_))
  simp (disch := first | exact okY | omega) only [ZU,Nat.reduceAdd,Nat.reduceMul,dI,AOpRun,aexec,run1,Nat.reduceBEq,↓eget_h,↓hget_h,isSh,↓reduceIte,abin,kq]
  subst hK
  refine aw_condT rfl (aw_skip ?_)
  simp only [thenQ,blockQ,if_true,if_false,Nat.reduceEqDiff,reduceCtorEq]
  refine aw_seq (aw_block (aw_seq (aw_hide fun K hK => aw_region ?_)))
  simp (disch := first | exact okY | omega) only [ZU,Nat.reduceAdd,Nat.reduceMul,AOpRun,aexec,run1,Nat.reduceBEq,↓eget_h,↓hget_h,Nat.add_zero,Int.le_refl,kq,↓reduceIte,Int.toNat_zero,Nat.zero_mul,kl,pf,D.isBot,D.cells,Nat.reduceLeDiff,List.all,D.leaf,splice,List.take,List.drop]
  subst hK
  simp only [thenQ,blockQ,if_true,if_false,Nat.reduceEqDiff,reduceCtorEq]
  cases hdn : downB s e.1 with
  | true =>
    rw [hdn] at hde hw
    simp only [if_true] at hw
    refine aw_seq (aw_seq (aw_hide fun K hK => aw_region ?_))
    simp (disch := first | exact okY | omega) only [ZU,Nat.reduceAdd,Nat.reduceMul,AOpRun,aexec,Nat.reduceBEq,↓eget_h,↓hget_h,Nat.reduceLeDiff,↓reduceIte,List.drop,List.take]
    refine acall0 hde ?_
    simp (disch := first | exact okY | omega) only [ZU,Nat.reduceAdd,dB,Nat.reduceBEq]
    subst hK
    refine aw_condT rfl ?_
    try simp only [thenQ,blockQ,if_true,if_false,Nat.reduceEqDiff,reduceCtorEq]
    refine aw_wk (s' := ⟨[(6,.ptr 8 0),(12,.ptr 80 0),(14,.ptr 136 0)],[(8,[dI f.x,dI f.v,dI f.h]),(80,[.mp 40]),(40,[.val (mpV (enV L))]),(136,[dI e.1.x,dI e.1.v,dI e.1.h])],600⟩) ?_ (aw_post (way_end hs hi he) ?_)
    · unfold dI
      refine wk_q [] [(8,8),(80,80),(40,40),(136,348)] ?_ ?_ <;> repeat' (first | exact trivial | exact vr_val _ | exact vr_ptr _ _ _ rfl | refine And.intro ⟨_,rfl,.inl ⟨_,rfl,by decide,?_⟩⟩ ?_ | apply And.intro | exact vr_mp _ _ rfl)
    rintro e' s' ⟨rfl,hw'⟩
    refine ⟨_,hw',?_⟩
    rw [← hw]
    unfold wayD
    simp only [thenQ,blockQ,Option.isSome_some]
    (refine end_q [] [] ?_ ?_ <;> repeat' (first | exact trivial | exact vr_val _ | exact vr_list _ | apply vr_tup | apply And.intro))
  | false =>
  rw [hdn] at hde hw
  simp only [Bool.false_eq_true,if_false] at hw
  refine aw_seq (aw_seq (aw_hide fun K hK => aw_region ?_))
  simp (disch := first | exact okY | omega) only [ZU,Nat.reduceAdd,Nat.reduceMul,AOpRun,aexec,Nat.reduceBEq,↓eget_h,↓hget_h,Nat.reduceLeDiff,↓reduceIte,List.drop,List.take]
  refine acall0 hde ?_
  simp (disch := first | exact okY | omega) only [ZU,Nat.reduceAdd,dB,Nat.reduceBEq]
  subst hK
  refine aw_condF rfl (aw_skip ?_)
  simp only [thenQ,blockQ,if_true,if_false,Nat.reduceEqDiff,reduceCtorEq]
  refine aw_wk (s' := ⟨[(2,dI 1),(3,.fn 40 [.agg SL] []),(5,.ptr 0 0),(6,.ptr 8 0),(9,.ptr 16 0),(12,.ptr 80 0),(13,.ptr 120 0),(14,.ptr 136 0)],[(0,SL),(8,[dI f.x,dI f.v,dI f.h]),(16,[.fn 42 [] []]),(80,[.mp 40]),(40,[.val (mpV (enV L))]),(120,[.own 128 (r.length * 3) (q.length + 1) 3]),(128,pcl (r ++ e.1 :: q)),(136,[dI e.1.x,dI e.1.v,dI e.1.h])],500⟩) ?_ ?_
  · unfold dI
    refine wk_q [] [(0,0),(8,8),(16,16),(80,80),(40,40),(120,120),(128,128),(136,348)] ?_ ?_ <;> repeat' (first | exact trivial | exact vr_val _ | exact vr_own _ _ _ _ _ rfl | exact vr_ptr _ _ _ rfl | apply vr_agg | apply vr_fn | refine And.intro ⟨_,rfl,.inl ⟨_,rfl,by decide,?_⟩⟩ ?_ | apply And.intro | exact vr_mp _ _ rfl | exact vrl_flat _ (by first | exact pcl_in _ _ | exact icells_in _ | exact rcells_in _ | exact scells_in _ | exact bcells_in _ | assumption) | fail)
  refine aw_seq (aw_hide fun K hK => aw_region ?_)
  simp (disch := first | exact okY | omega) only [ZU,Nat.reduceAdd,Nat.reduceMul,dI,AOpRun,aexec,Nat.reduceBEq,↓eget_h,hl5,Nat.le_refl,↓reduceIte,List.drop,ht5,↓hget_h,List.take]
  refine acallH (hst e.1) [] (VwL.refl _) (.inl rfl) (by simp) (by simp) (by simp) (by intro g hg _; simp at hg; rcases hg with rfl | rfl | rfl <;> rfl) (by kernel_rfl) (by kernel_rfl) ?_
  simp (disch := first | exact okY | omega) only [ZU,Nat.reduceAdd,Nat.reduceBEq,dI]
  subst hK
  simp only [thenQ,blockQ,if_true,if_false,Nat.reduceEqDiff,reduceCtorEq]
  have hE := hen e.1 hpe L k hlt (by omega) r
  rw [hq,List.length_cons] at hE
  obtain ⟨hi2,he2⟩ := inv_addL hs hi he (l := stepsL s e.1) (fun x hx => hx)
  have hlen2 := inv_len hs hi2
  have hal := addL_len e.1 (stepsL s e.1) L
  have hq2 := qOf_cons he2
  generalize addL e.1 L (stepsL s e.1) = L2 at *
  refine aw_block (aw_wk (s' := ⟨[(2,dI 1),(3,.fn 40 [.agg SL] []),(5,.ptr 0 0),(6,.ptr 8 0),(9,.ptr 16 0),(12,.ptr 80 0),(13,.ptr 120 0),(14,.ptr 136 0),(52,.fn 101 [] [.ptr 525 0,.ptr 524 0,.ptr 526 0])],[(0,SL),(8,[dI f.x,dI f.v,dI f.h]),(16,[.fn 42 [] []]),(80,[.mp 40]),(40,[.val (mpV (enV L))]),(120,[.own 128 (r.length * 3) (q.length + 1) 3]),(128,pcl (r ++ e.1 :: q)),(136,[dI e.1.x,dI e.1.v,dI e.1.h]),(524,SL),(525,[dI e.1.x,dI e.1.v,dI e.1.h]),(526,[dI 1])],1000⟩) ?_ (hE _ ?_))
  · unfold dI
    refine wk_q [] [(0,0),(8,8),(16,16),(80,80),(40,40),(120,120),(128,128),(136,136),(524,524),(525,525),(526,526)] ?_ ?_ <;> repeat' (first | exact trivial | exact vr_val _ | exact vr_own _ _ _ _ _ rfl | exact vr_ptr _ _ _ rfl | apply vr_agg | apply vr_fn | refine And.intro ⟨_,rfl,.inl ⟨_,rfl,by decide,?_⟩⟩ ?_ | apply And.intro | exact vr_mp _ _ rfl | exact vrl_flat _ (by first | exact pcl_in _ _ | exact icells_in _ | exact rcells_in _ | exact scells_in _ | exact bcells_in _ | assumption) | fail)
  intro r' s' hw'
  rw [hq2,List.length_cons] at hw'
  simp only [thenQ,blockQ,if_true,if_false,Nat.reduceEqDiff,reduceCtorEq]
  refine aw_wk hw' ?_
  clear hw' hE hen
  refine aw_seq (aw_seq (aw_hide fun K hK => aw_region ?_))
  simp (disch := first | exact okY | omega) only [ZU,Nat.reduceMul,Nat.reduceAdd,dI,AOpRun,aexec,run1,Nat.reduceBEq,↓eget_h,↓hget_h]
  subst hK
  simp only [thenQ,blockQ,if_true,if_false,Nat.reduceEqDiff,reduceCtorEq]
  refine aw_hide fun K hK => aw_region ?_
  simp (disch := first | exact okY | omega) only [ZU,Nat.reduceAdd,Nat.reduceMul,AOpRun,aexec,Nat.reduceBEq,↓reduceIte,↓eget_h,↓hget_h,D.isBot,D.cells,Nat.reduceLeDiff,List.all,D.leaf,splice,List.take,List.drop]
  subst hK
  simp only [thenQ,blockQ,if_true,if_false,Nat.reduceEqDiff,reduceCtorEq]
  have hr3 : pcl (r' ++ e.1 :: qOf (k + 1) L2) = pcl ((r' ++ [e.1]) ++ qOf (k + 1) L2) := by simp
  have hr4 : (r' ++ [e.1]).length = r'.length + 1 := by simp
  have fin : wayF s f (8000 - (k + 1)) L2 (k + 1) = W := by rw [show 8000 - (k + 1) = n by omega]; exact hw
  refine aw_hide fun K hK => aw_region_sp [⟨some 28,.load1 (.tmp 13),none,[]⟩] [⟨none,.store 1 (.tmp 13) (.tmp 29),none,[]⟩] ?_
  simp (disch := first | exact okY | omega) only [ZU,AOpRun,aexec,run1,Nat.reduceBEq,↓eget_h,↓hget_h]
  have hk2 : k < L2.length := (List.getElem?_eq_some_iff.1 he2).1
  rw [hr3]
  cases hq3 : qOf (k + 1) L2 with
  | nil =>
    refine spSl0 (g := 128) (off := r'.length * 3) (n := 1) rfl rfl ?_
    simp (disch := first | exact okY | omega) only [ZU,Nat.reduceAdd,Nat.reduceMul,Nat.reduceBEq,AOpRun,aexec,↓eget_h,↓hget_h,D.isBot,D.cells,Nat.reduceLeDiff,List.all,D.leaf,↓reduceIte,splice,List.take,List.drop]
    subst hK
    refine ⟨(L2,r' ++ [e.1],k + 1),⟨hi2,by simp only; omega,fin⟩,by simp only; omega,?_⟩
    simp only [hq3,quD_nil,List.append_nil]
    unfold dI
    refine wk_q [] [(0,0),(8,8),(16,16),(80,80),(40,40),(120,6008),(128,128)] ?_ ?_ <;> repeat' (first | exact trivial | exact vr_val _ | exact vr_list _ | exact vr_ptr _ _ _ rfl | apply vr_agg | apply vr_fn | refine And.intro ⟨_,rfl,.inl ⟨_,rfl,by decide,?_⟩⟩ ?_ | apply And.intro | exact vr_mp _ _ rfl | exact vrl_flat _ (by first | exact pcl_in _ _ | exact icells_in _ | exact rcells_in _ | exact scells_in _ | exact bcells_in _ | assumption) | fail)
  | cons y q3 =>
    refine spSl (g := 128) (off := r'.length * 3) (n := q3.length + 1 + 1) (a := 1) rfl rfl (by omega) ?_
    simp (disch := first | exact okY | omega) only [ZU,Nat.reduceAdd,Nat.reduceMul,Nat.reduceBEq,AOpRun,aexec,↓eget_h,↓hget_h,D.isBot,D.cells,Nat.reduceLeDiff,List.all,D.leaf,↓reduceIte,splice,List.take,List.drop]
    subst hK
    refine ⟨(L2,r' ++ [e.1],k + 1),⟨hi2,by simp only; omega,fin⟩,by simp only; omega,?_⟩
    simp only [hq3,quD_cons,hr4,Nat.add_sub_cancel,Nat.add_mul,Nat.one_mul]
    unfold dI
    refine wk_q [] [(0,0),(8,8),(16,16),(80,80),(40,40),(120,6008),(128,128)] ?_ ?_ <;> repeat' (first | exact trivial | exact vr_val _ | exact vr_own _ _ _ _ _ rfl | exact vr_ptr _ _ _ rfl | apply vr_agg | apply vr_fn | refine And.intro ⟨_,rfl,.inl ⟨_,rfl,by decide,?_⟩⟩ ?_ | apply And.intro | exact vr_mp _ _ rfl | exact vrl_flat _ (by first | exact pcl_in _ _ | exact icells_in _ | exact rcells_in _ | exact scells_in _ | exact bcells_in _ | assumption) | fail)
end Go.Proofs.YtbncpngjclabhaaGreat
/- engine: Stop, where its checks pass. No conditions. -/
namespace Go.Proofs.YtbncpngjclabhaaGreat
open Go Go.RowKit Lift

def steOf (c : Crf) (a : Air) (f : Fld) : Ste := ⟨c.top,c.dr,c.tch,c.si,f.len,rts c a (halfR c a).1 (topN c),wks c a (topN c),f.hd⟩
theorem steC_of (c : Crf) (a : Air) (f : Fld) : SteC (steOf c a f) (crX c a) := ⟨rfl,rfl,rfl,rfl,rfl,rfl⟩
theorem steOk_of {c : Crf} {a : Air} {f : Fld} (h : CrOk c a) (hf : FldOk f) : SteOk (steOf c a f) := by
  have hi := crB_in h.b
  have h1 := wI_t hi.t
  have h2 := wI_t hi.d
  have h3 := wI_t hi.i
  refine ⟨h1.1,h1.2,h2.1,h2.2,by show 0 ≤ c.si; omega,by show c.si ≤ 3; omega,rts_len _ _ _ _,wks_len _ _ _,fun k hk => ?_,hf.n⟩
  show ((wks c a (topN c))[k]?.getD []).length = (c.dr + 1).toNat
  have hk' : k < topN c := by have : k < (wks c a (topN c)).length := hk; rwa [wks_len] at this
  simp [wks,hk',wkRow_len]
def ptD (c : Crf) (a : Air) (f : Fld) : D := .agg [.at_ (crX c a),dI f.len,dI f.cl,dI f.sf,.list (sps f.hd)]
theorem newSite_ac (c : Crf) (a : Air) (f : Fld) (h : CrOk c a) (hf : FldOk f) : AC Tryz.prog 38 [.agg (crfC c),airD a,.agg (fldC f)] [] [] (.tup [ptD c a f,dI 0]) := by
  refine kengine_newSite.ac (n0 := 0) (by simp) ⟨.agg _ (wals_in (c := crfC c) rfl),in_airD _ _,.agg _ (wals_in (c := fldC f) rfl),trivial⟩ trivial rfl ?_
  have c1 := newCraft_ac c a h
  have c2 := engCheckField_ac f hf
  unfold cengine_newSite ptD
  generalize crX c a = X at *
  unfold airD crfC airC fldC at *
  (repeat' (first | (with_reducible first | refine thenQ_n ?_ | refine blockQ_n ?_ | refine thenQ_e ?_ | refine blockQ_t ?_ | refine blockQ_f (by decide) ?_) | apply aw_seq | apply aw_skip | apply aw_exit | apply aw_ret | apply aw_block | apply aw_condT rfl | apply aw_condF rfl | ((first | refine aw_hide fun K hK => aw_region ?_ | refine acall0 (c1) ?_ | refine acall0 (c2) ?_ | refine ago_if (by omega) ?_ | skip); simp (disch := first | exact okY | omega) only [ZU,Nat.reduceAdd,Nat.reduceMul,dI,AOpRun,aexec,D.isBot,↓eget_h,or_self,↓reduceIte,D.cells,Nat.reduceBEq,Nat.reduceLeDiff,List.drop,List.take,↓hget_h,opt1,isSh,abin,bne_self_eq_false,fillD,ne_eq,not_true_eq_false,Nat.reduceGT,splice,List.all,D.leaf]) | subst hK))
  all_goals (refine end_q [] [] ?_ ?_ <;> repeat' (first | exact trivial | exact vr_val _ | exact vr_list _ | exact vr_at _ | apply vr_agg | apply vr_tup | apply And.intro))
theorem newPose_ac (c : Crf) (a : Air) (f : Fld) (p : Ps) (h : CrOk c a) (hf : FldOk f) (hp : PsOk (steOf c a f) p) (hd : p.h = 0 → downB (steOf c a f) p = true) : AC Tryz.prog 16 [.agg (crfC c),airD a,.agg (fldC f),.agg (psL p)] [] [] (.tup [ptD c a f,dI 0]) := by
  refine kengine_newPose.ac (n0 := 0) (by simp) ⟨.agg _ (wals_in (c := crfC c) rfl),in_airD _ _,.agg _ (wals_in (c := fldC f) rfl),.agg _ (wals_in (c := psL p) rfl),trivial⟩ trivial rfl ?_
  have c1 := newSite_ac c a f h hf
  have c2 := down_ac (steOf c a f) (crX c a) f.cl f.sf p (steC_of c a f)
  have w1 := engWithin_ac p.x (-40) 40
  have w2 := engWithin_ac p.v 0 c.top
  have w3 := engWithin_ac p.h 0 12
  have e1 : wI p.x (-40) 40 = true := by simp [wI]; exact ⟨hp.x1,hp.x2⟩
  have e2 : wI p.v 0 c.top = true := by simp [wI]; exact ⟨hp.v1,hp.v2⟩
  have e3 : wI p.h 0 12 = true := by simp [wI]; exact ⟨hp.h1,hp.h2⟩
  rw [e1] at w1
  rw [e2] at w2
  rw [e3] at w3
  unfold siteL at c2
  simp only [steOf] at c2
  unfold cengine_newPose ptD at *
  generalize crX c a = X at *
  unfold airD crfC airC fldC psL at *
  cases q : (p.h == 0) with
  | true =>
    have hd' := hd (by simpa using q)
    simp only [steOf] at hd'
    rw [hd'] at c2
    (repeat' (first | (with_reducible first | refine thenQ_n ?_ | refine blockQ_n ?_ | refine thenQ_e ?_ | refine blockQ_t ?_ | refine blockQ_f (by decide) ?_) | apply aw_seq | apply aw_skip | apply aw_exit | apply aw_ret | apply aw_block | apply aw_condT rfl | apply aw_condF rfl | ((first | refine aw_hide fun K hK => aw_region ?_ | refine acall0 (c1) ?_ | refine acall0 (c2) ?_ | refine acall0 (w1) ?_ | refine acall0 (w2) ?_ | refine acall0 (w3) ?_ | refine ago_if (by omega) ?_ | skip); simp (disch := first | exact okY | omega) only [ZU,Nat.reduceAdd,Nat.reduceMul,dI,AOpRun,aexec,D.isBot,↓eget_h,or_self,↓reduceIte,D.cells,Nat.reduceBEq,Nat.reduceLeDiff,List.drop,List.take,↓hget_h,opt1,List.all,D.leaf,splice,isSh,abin,bne_self_eq_false,Int.reduceNeg,run1,dB,q,ARun_some,AG_tt]) | subst hK))
    all_goals (refine end_q [] [] ?_ ?_ <;> repeat' (first | exact trivial | exact vr_val _ | exact vr_list _ | exact vr_at _ | apply vr_agg | apply vr_tup | apply And.intro))
  | false =>
    (repeat' (first | (with_reducible first | refine thenQ_n ?_ | refine blockQ_n ?_ | refine thenQ_e ?_ | refine blockQ_t ?_ | refine blockQ_f (by decide) ?_) | apply aw_seq | apply aw_skip | apply aw_exit | apply aw_ret | apply aw_block | apply aw_condT rfl | apply aw_condF rfl | ((first | refine aw_hide fun K hK => aw_region ?_ | refine acall0 (c1) ?_ | refine acall0 (c2) ?_ | refine acall0 (w1) ?_ | refine acall0 (w2) ?_ | refine acall0 (w3) ?_ | refine ago_if (by omega) ?_ | skip); simp (disch := first | exact okY | omega) only [ZU,Nat.reduceAdd,Nat.reduceMul,dI,AOpRun,aexec,D.isBot,↓eget_h,or_self,↓reduceIte,D.cells,Nat.reduceBEq,Nat.reduceLeDiff,List.drop,List.take,↓hget_h,opt1,List.all,D.leaf,splice,isSh,abin,bne_self_eq_false,Int.reduceNeg,run1,dB,q,ARun_some,AG_ft]) | subst hK))
    all_goals (refine end_q [] [] ?_ ?_ <;> repeat' (first | exact trivial | exact vr_val _ | exact vr_list _ | exact vr_at _ | apply vr_agg | apply vr_tup | apply And.intro))
theorem found_ac (W : Option (List Ps)) : AC Tryz.prog 17 [wayD W,dB W.isSome] [] [] (.tup [wayD W,dI (if W.isSome = true then 0 else 3)]) := by
  refine kengine_found.ac (n0 := 0) (by simp) ⟨by cases W <;> first | exact .val _ | exact .list _,.val _,trivial⟩ trivial rfl ?_
  unfold cengine_found
  cases W with
  | none =>
    unfold wayD
    simp only [Option.isSome_none,Bool.false_eq_true,if_false]
    (repeat' (first | (with_reducible first | refine thenQ_n ?_ | refine blockQ_n ?_ | refine thenQ_e ?_ | refine blockQ_t ?_ | refine blockQ_f (by decide) ?_) | apply aw_seq | apply aw_skip | apply aw_exit | apply aw_ret | apply aw_block | apply aw_condT rfl | apply aw_condF rfl | ((first | refine aw_hide fun K hK => aw_region ?_ | refine ago_if (by omega) ?_ | skip); simp (disch := first | exact okY | omega) only [ZU,Nat.reduceAdd,Nat.reduceMul,dB,AOpRun,aexec,Nat.reduceBEq,↓eget_h,dI]) | subst hK))
    all_goals (refine end_q [] [] ?_ ?_ <;> repeat' (first | exact trivial | exact vr_val _ | apply vr_tup | apply And.intro))
  | some l =>
    unfold wayD
    simp only [Option.isSome_some,if_true]
    (repeat' (first | (with_reducible first | refine thenQ_n ?_ | refine blockQ_n ?_ | refine thenQ_e ?_ | refine blockQ_t ?_ | refine blockQ_f (by decide) ?_) | apply aw_seq | apply aw_skip | apply aw_exit | apply aw_ret | apply aw_block | apply aw_condT rfl | apply aw_condF rfl | ((first | refine aw_hide fun K hK => aw_region ?_ | refine ago_if (by omega) ?_ | skip); simp (disch := first | exact okY | omega) only [ZU,Nat.reduceAdd,Nat.reduceMul,dB,AOpRun,aexec,Nat.reduceBEq,↓eget_h,dI]) | subst hK))
    all_goals (refine end_q [] [] ?_ ?_ <;> repeat' (first | exact trivial | exact vr_val _ | exact vr_list _ | apply vr_tup | apply And.intro))
def stopF (c : Crf) (a : Air) (f : Fld) (p : Ps) : Option (List Ps) := wayF (steOf c a f) p 8000 [(p,p)] 0
theorem wayD_in (S : Nat → Prop) (W : Option (List Ps)) : In S (wayD W) := by cases W <;> first | exact .val _ | exact .list _
theorem siteStop_ac (c : Crf) (a : Air) (f : Fld) (p : Ps) (h : CrOk c a) (hf : FldOk f) (hp : PsOk (steOf c a f) p) : AC Tryz.prog 18 [ptD c a f,.agg (psL p)] [] [] (.tup [wayD (stopF c a f p),dB (stopF c a f p).isSome]) := by
  refine kengine_site_stop.ac (n0 := 0) (by simp) ⟨.agg _ (dint_in _ rfl),.agg _ (wals_in (c := psL p) rfl),trivial⟩ trivial rfl ?_
  have c1 := way_ac (steOk_of h hf) (crX c a) f.cl f.sf (steC_of c a f) p hp
  rw [show wayF (steOf c a f) p 8000 [(p,p)] 0 = stopF c a f p from rfl] at c1
  unfold siteL at c1
  simp only [steOf] at c1
  generalize stopF c a f p = W at *
  unfold cengine_site_stop ptD at *
  generalize crX c a = X at *
  unfold psL at *
  have wi := fun S => wayD_in S W
  cases W with
  | none =>
    unfold wayD at *
    (repeat' (first | (with_reducible first | refine thenQ_n ?_ | refine blockQ_n ?_ | refine thenQ_e ?_ | refine blockQ_t ?_ | refine blockQ_f (by decide) ?_) | apply aw_seq | apply aw_skip | apply aw_exit | apply aw_ret | apply aw_block | apply aw_condT rfl | apply aw_condF rfl | ((first | refine aw_hide fun K hK => aw_region ?_ | refine acall0 (c1) ?_ | refine ago_if (by omega) ?_ | skip); simp (disch := first | exact okY | omega) only [ZU,Nat.reduceAdd,Nat.reduceMul,dI,AOpRun,aexec,D.isBot,↓eget_h,or_self,↓reduceIte,D.cells,Nat.reduceBEq,Nat.reduceLeDiff,List.drop,List.take,↓hget_h,dB,opt1]) | subst hK))
    all_goals (refine end_q [] [] ?_ ?_ <;> repeat' (first | exact trivial | exact vr_val _ | apply vr_tup | apply And.intro))
  | some l =>
    unfold wayD at *
    (repeat' (first | (with_reducible first | refine thenQ_n ?_ | refine blockQ_n ?_ | refine thenQ_e ?_ | refine blockQ_t ?_ | refine blockQ_f (by decide) ?_) | apply aw_seq | apply aw_skip | apply aw_exit | apply aw_ret | apply aw_block | apply aw_condT rfl | apply aw_condF rfl | ((first | refine aw_hide fun K hK => aw_region ?_ | refine acall0 (c1) ?_ | refine ago_if (by omega) ?_ | skip); simp (disch := first | exact okY | omega) only [ZU,Nat.reduceAdd,Nat.reduceMul,dI,AOpRun,aexec,D.isBot,↓eget_h,or_self,↓reduceIte,D.cells,Nat.reduceBEq,Nat.reduceLeDiff,List.drop,List.take,↓hget_h,dB,opt1]) | subst hK))
    all_goals (refine end_q [] [] ?_ ?_ <;> repeat' (first | exact trivial | exact vr_val _ | exact vr_list _ | apply vr_tup | apply And.intro))
theorem stop_ac (c : Crf) (a : Air) (f : Fld) (p : Ps) (h : CrOk c a) (hf : FldOk f) (hp : PsOk (steOf c a f) p) (hd : p.h = 0 → downB (steOf c a f) p = true) : AC Tryz.prog 7 [.agg (crfC c),airD a,.agg (fldC f),.agg (psL p)] [] [] (.tup [wayD (stopF c a f p),dI (if (stopF c a f p).isSome = true then 0 else 3)]) := by
  refine kengine_Stop.ac (n0 := 0) (by simp) ⟨.agg _ (wals_in (c := crfC c) rfl),in_airD _ _,.agg _ (wals_in (c := fldC f) rfl),.agg _ (wals_in (c := psL p) rfl),trivial⟩ trivial rfl ?_
  have c1 := newPose_ac c a f p h hf hp hd
  have c2 := siteStop_ac c a f p h hf hp
  have c3 := found_ac (stopF c a f p)
  generalize stopF c a f p = W at *
  unfold cengine_Stop ptD at *
  generalize crX c a = X at *
  unfold airD crfC airC fldC psL at *
  cases W with
  | none =>
    unfold wayD at *
    simp only [Option.isSome_none,Bool.false_eq_true,if_false] at c2 c3 ⊢
    (repeat' (first | (with_reducible first | refine thenQ_n ?_ | refine blockQ_n ?_ | refine thenQ_e ?_ | refine blockQ_t ?_ | refine blockQ_f (by decide) ?_) | apply aw_seq | apply aw_skip | apply aw_exit | apply aw_ret | apply aw_block | apply aw_condT rfl | apply aw_condF rfl | ((first | refine aw_hide fun K hK => aw_region ?_ | refine acall0 (c1) ?_ | refine acall0 (c2) ?_ | refine acall0 (c3) ?_ | refine ago_if (by omega) ?_ | skip); simp (disch := first | exact okY | omega) only [ZU,Nat.reduceAdd,Nat.reduceMul,dI,AOpRun,aexec,D.isBot,↓eget_h,or_self,↓reduceIte,D.cells,Nat.reduceBEq,Nat.reduceLeDiff,List.drop,List.take,↓hget_h,opt1,List.all,D.leaf,splice,isSh,abin,bne_self_eq_false,dB]) | subst hK))
    all_goals (refine end_q [] [] ?_ ?_ <;> repeat' (first | exact trivial | exact vr_val _ | apply vr_tup | apply And.intro))
  | some l =>
    unfold wayD at *
    simp only [Option.isSome_some,if_true] at c2 c3 ⊢
    (repeat' (first | (with_reducible first | refine thenQ_n ?_ | refine blockQ_n ?_ | refine thenQ_e ?_ | refine blockQ_t ?_ | refine blockQ_f (by decide) ?_) | apply aw_seq | apply aw_skip | apply aw_exit | apply aw_ret | apply aw_block | apply aw_condT rfl | apply aw_condF rfl | ((first | refine aw_hide fun K hK => aw_region ?_ | refine acall0 (c1) ?_ | refine acall0 (c2) ?_ | refine acall0 (c3) ?_ | refine ago_if (by omega) ?_ | skip); simp (disch := first | exact okY | omega) only [ZU,Nat.reduceAdd,Nat.reduceMul,dI,AOpRun,aexec,D.isBot,↓eget_h,or_self,↓reduceIte,D.cells,Nat.reduceBEq,Nat.reduceLeDiff,List.drop,List.take,↓hget_h,opt1,List.all,D.leaf,splice,isSh,abin,bne_self_eq_false,dB]) | subst hK))
    all_goals (refine end_q [] [] ?_ ?_ <;> repeat' (first | exact trivial | exact vr_val _ | exact vr_list _ | apply vr_tup | apply And.intro))
end Go.Proofs.YtbncpngjclabhaaGreat
