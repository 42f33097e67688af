/- Texts of the law TopDescends, part 10. No conditions. -/
import Derived.Test.YtbncpngjclabhaaGreatPTopDescends09
import Derived.Test.YtbncpngjclabhaaGreatRows
set_option linter.unusedSimpArgs false
set_option linter.unusedVariables false
set_option maxRecDepth 100000
set_option maxHeartbeats 16000000
/- engine: a craft's rates and wakes, one by one (views last). The code is taken from the dump. No conditions. -/
namespace Go.Proofs.YtbncpngjclabhaaGreat
open Go Go.RowKit Lift

def ncDrop : ACode :=
 (.block 6
 (.loop
 (.seq
 (.region false [oo 160 (.bin .lss (.tmp 159) (.tmp 158))] [])
 (.seq
 (.cond (.tmp 160)
 .skip
 (.exit 6))
 (.seq
 (.block 7
 (.seq
 (.region false [om 161 159,
 om 22 161] [161])
 (.seq
 (.region false [om 162 22,
 oo 163 (.fad 28 (.tmp 2)),
 oo 164 (.load1 (.tmp 163)),
 oo 165 (.bin .mul (.tmp 162) (.tmp 164)),
 om 166 22,
 oo 167 (.fad 28 (.tmp 2)),
 oo 168 (.load1 (.tmp 167)),
 oo 169 (.bin .mul (.tmp 166) (.tmp 168)),
 oo 170 (.build [(.val (.int .i64 0)),(.val (.int .i64 0))] [(0,1,(.tmp 165)),(1,1,(.tmp 169))]),
 oo 23 (.mem [(.val (.int .i64 0)),(.val (.int .i64 0))]),
 on (.store 2 (.tmp 23) (.tmp 170))] [162,163,164,165,166,167,168,169,170])
 (.seq
 (.region false [oo 24 (.mv (.const (.bool false)))] [])
 (.seq
 (.seq
 (.region true [om 171 22,
 oa 172 (.bin .gtr (.tmp 171) (kI 0)) [0],
 oa 173 (.mv (.tmp 172)) [1,0],
 og 174 173 true (.fad 1 (.tmp 16)) [2,1,0],
 og 175 173 true (.load1 (.tmp 174)) [3,2,1,0],
 og 176 173 true (.fad 15 (.tmp 9)) [2,1,0],
 og 177 173 true (.fad 0 (.tmp 176)) [5,2,1,0],
 og 178 173 true (.load1 (.tmp 177)) [6,5,2,1,0],
 og 179 173 true (.fad 15 (.tmp 9)) [2,1,0],
 og 180 173 true (.fad 0 (.tmp 179)) [8,2,1,0],
 og 181 173 true (.load1 (.tmp 180)) [9,8,2,1,0],
 og 182 173 true (.len_ (.tmp 181)) [10,9,8,2,1,0],
 og 183 173 true (.bin .sub (.tmp 182) (kI 1)) [11,10,9,8,2,1,0],
 og 184 173 true (.iadS 1 (.tmp 178) (.tmp 183)) [7,6,5,2,1,0,12,11,10,9,8],
 og 185 173 true (.load1 (.tmp 184)) [13,7,6,5,2,1,0,12,11,10,9,8],
 og 186 173 true (.bin .leq (.tmp 175) (.tmp 185)) [4,3,2,1,0,14,13,7,6,5,12,11,10,9,8],
 oa 187 (.pick (.tmp 173) (.tmp 186) (.const (.bool false))) [2,1,0,15,4,3,14,13,7,6,5,12,11,10,9,8]] [171,172,173,174,175,176,177,178,179,180,181,182,183,184,185,186])
 (.cond (.tmp 187)
 (.region false [oo 189 (.loadN 26 (.tmp 9)),
 oo 190 (.loadN 8 (.tmp 3)),
 oo 191 (.loadN 2 (.tmp 16)),
 oo 192 (.loadN 2 (.tmp 23)),
 oo 193 (.call (.func 98) [(.tmp 189),(.tmp 190),(.tmp 191),(.tmp 192)]),
 om 188 193,
 oo 194 (.ext (.tmp 188) 0),
 oo 195 (.ext (.tmp 188) 1),
 om 24 194] [189,190,191,192,193,188,194,195])
 .skip))
 (.region false [om 196 21,
 om 197 24,
 oo 198 (.buildSl 1 1 [(.val (.bool false))] [(0,1,(.tmp 197))]),
 oo 199 (.app 1 1 (.tmp 196) (.tmp 198)),
 om 21 199] [196,197,198,199]))))))
 (.region false [oo 200 (.bin .add (.tmp 159) (kI 1)),
 om 159 200] [200]))))))
def ncEng : ACode :=
 (.block 4
 (.loop
 (.seq
 (.region false [oo 129 (.bin .lss (.tmp 128) (kI 2))] [])
 (.seq
 (.cond (.tmp 129)
 .skip
 (.exit 4))
 (.seq
 (.block 5
 (.seq
 (.region false [om 130 128,
 oo 131 (.idx1 2 1 (.tmp 127) (.tmp 128)),
 om 19 130,
 om 20 131] [130,131])
 (.region true [om 132 10,
 om 133 19,
 om 134 10,
 om 135 19,
 oa 136 (.nilc (.tmp 134)) [2],
 oa 137 (.fad 33 (.tmp 136)) [4,2],
 oa 138 (.iadA 2 1 (.tmp 137) (.tmp 135)) [5,4,2,3],
 oa 139 (.load1 (.tmp 138)) [6,5,4,2,3],
 om 140 20,
 oo 141 (.fad 1 (.tmp 17)),
 oa 142 (.load1 (.tmp 141)) [9],
 oa 143 (.bin .sub (.tmp 140) (.tmp 142)) [8,10,9],
 oo 144 (.fad 24 (.tmp 9)),
 oa 145 (.load1 (.tmp 144)) [12],
 oo 146 (.fad 28 (.tmp 2)),
 oa 147 (.load1 (.tmp 146)) [14],
 oa 148 (.bin .mul (.tmp 145) (.tmp 147)) [13,12,15,14],
 oa 149 (.call (.func 97) [(.tmp 143),(.tmp 148)]) [11,8,10,9,16,13,12,15,14],
 oa 150 (.buildSl 1 1 [(.val (.int .i64 0))] [(0,1,(.tmp 149))]) [17,11,8,10,9,16,13,12,15,14],
 oa 151 (.app 1 8 (.tmp 139) (.tmp 150)) [7,6,5,4,2,3,18,17,11,8,10,9,16,13,12,15,14],
 oa 152 (.nilc (.tmp 132)) [0],
 oa 153 (.fad 33 (.tmp 152)) [20,0],
 oa 154 (.iadA 2 1 (.tmp 153) (.tmp 133)) [21,20,0,1,2,3,4,5,6,7,8,9,10,11,12,13,14,15,16,17,18,19],
 ⟨none,.store 1 (.tmp 154) (.tmp 151),none,[22,21,20,0,1,2,3,4,5,6,7,8,9,10,11,12,13,14,15,16,17,18,19]⟩] [132,133,134,135,136,137,138,139,140,141,142,143,144,145,146,147,148,149,150,151,152,153,154])))
 (.region false [oo 155 (.bin .add (.tmp 128) (kI 1)),
 om 128 155] [155]))))))
def bolC (l : List Bool) : List D := l.map fun b => .val (.bool b)
theorem bolC_len (l : List Bool) : (bolC l).length = l.length := by simp [bolC]
theorem bolC_take (l : List Bool) : (bolC l).take (l.length * 1) = bolC l := List.take_of_length_le (by rw [bolC_len]; omega)
theorem bolC_in (S : Nat → Prop) (l : List Bool) : ∀ d ∈ bolC l,In S d := by intro d hd; obtain ⟨b,_,rfl⟩ := List.mem_map.1 hd; exact .val _
theorem bolC_app (l : List Bool) (b : Bool) : bolC l ++ [.val (.bool b)] = bolC (l ++ [b]) := by simp [bolC]
theorem bolC_flat (l : List Bool) : (bls l).flatten = bolC l := by
  induction l with
  | nil => rfl
  | cons b l ih => simp [bls,bolC] at ih ⊢; exact ih
theorem bls_one (l : List Bool) : ∀ e ∈ bls l,e.length = 1 := by intro e he; obtain ⟨b,_,rfl⟩ := List.mem_map.1 he; rfl
theorem bls_len (l : List Bool) : (bls l).length = l.length := by simp [bls]
def xC (c : Crf) (p q w : D) : List D := [.list (ints c.r.a.x),.list (ints c.r.a.y),.list (rows c.r.a.v),.list (ints c.r.b.x),.list (ints c.r.b.y),.list (rows c.r.b.v),.list (ints c.r.c.x),.list (ints c.r.c.y),.list (rows c.r.c.v),.list (ints c.r.d.x),.list (ints c.r.d.y),.list (rows c.r.d.v),.list (ints c.r.e.x),.list (ints c.r.e.y),.list (rows c.r.e.v),.list (ints c.r.f.x),.list (ints c.r.f.y),.list (rows c.r.f.v),.list (ints c.r.g.x),.list (ints c.r.g.y),.list (rows c.r.g.v),.list (ints c.r.h.x),.list (ints c.r.h.y),.list (rows c.r.h.v),dI c.r.cl,dI c.r.bu,dI c.one,dI c.un,dI c.st,dI c.top,dI c.dr,dI c.tch,dI c.si,p,q,w]
def lastX (c : Crf) : Int := iat c.r.f.x (c.r.f.x.length - 1)
def wkD (c : Crf) (a : Air) (v d : Nat) : Bool := decide ((d : Int) > 0) && (decide ((v : Int) * c.un ≤ lastX c) && wkB c.r a ((v : Int) * c.un,(v : Int) * c.un) ((d : Int) * c.st,(d : Int) * c.st))
def wkRow (c : Crf) (a : Air) (v n : Nat) : List Bool := (List.range n).map fun d => wkD c a v d
theorem wkRow_len (c : Crf) (a : Air) (v n : Nat) : (wkRow c a v n).length = n := by simp [wkRow]
theorem wkRow_succ (c : Crf) (a : Air) (v n : Nat) : wkRow c a v (n + 1) = wkRow c a v n ++ [wkD c a v n] := by simp [wkRow,List.range_succ]
theorem nc_drop (c : Crf) (a : Air) (h : CrOk c a) (v : Nat) (hv : (v : Int) ≤ c.top) (G0 G1 GW : List D) (hG0 : ∀ d ∈ G0,In (fun _ => False) d) (hG1 : ∀ d ∈ G1,In (fun _ => False) d) (hGW : ∀ d ∈ GW,In (fun _ => False) d) (A B E F : Int) (n0 n1 nw : Nat) (Q : AExit → St → Prop)
    (hQ : ∀ s',Wk [] s' ⟨[(2,.ptr 0 0),(3,.ptr 8 0),(9,.ptr 16 0),(10,.ptr 24 0),(11,.ptr 32 0),(13,.ptr 40 0),(103,dI (c.top + 1)),(104,dI v),(21,.list (bls (wkRow c a v (c.dr + 1).toNat)))],[(0,crfC c),(8,airC a),(16,rotC c.r),(24,xC c (.vec 300 n0 1) (.vec 310 n1 1) (.vec 320 nw 1)),(32,[dI A,dI B]),(40,[dI E,dI F]),(300,G0),(310,G1),(320,GW)],900⟩ → Q .norm s') :
    AWb false Tryz.prog 213 [] ncDrop Q ⟨[(2,.ptr 0 0),(3,.ptr 8 0),(9,.ptr 16 0),(10,.ptr 24 0),(11,.ptr 32 0),(13,.ptr 40 0),(103,dI (c.top + 1)),(104,dI v),(15,dI v),(16,.ptr 48 0),(21,.val (.slice none 0 0)),(158,dI (c.dr + 1)),(159,dI 0)],[(0,crfC c),(8,airC a),(16,rotC c.r),(24,xC c (.vec 300 n0 1) (.vec 310 n1 1) (.vec 320 nw 1)),(32,[dI A,dI B]),(40,[dI E,dI F]),(300,G0),(310,G1),(320,GW),(48,[dI ((v : Int) * c.un),dI ((v : Int) * c.un)])],700⟩ := by
  have hi := crB_in h.b
  have hu := wI_t hi.u
  have hst := wI_t hi.s
  have htp := wI_t hi.t
  have hdr := wI_t hi.d
  have hly := h.l2
  have hw4 := h.p4
  rw [liesB_is] at hly hw4
  simp only [Bool.and_eq_true,decide_eq_true_eq] at hly hw4
  have tf : Tbl c.r.f.x c.r.f.y c.r.f.v := limB_tbl ((rotE_is h.rot).lim 5 (by omega))
  have kf : 2 ≤ c.r.f.x.length := tf.ax.two
  have lf : c.r.f.x.length ≤ 12 := tf.ax.twelve
  have u1 : 0 ≤ (v : Int) * c.un := Int.mul_nonneg (by omega) (by omega)
  have u2 : (v : Int) * c.un ≤ 6000 := by
    have := Int.mul_le_mul (show (v : Int) ≤ 6 by omega) hu.2 (by omega) (by omega)
    omega
  obtain ⟨u,hue⟩ : ∃ u,(v : Int) * c.un = u := ⟨_,rfl⟩
  have hwd : ∀ d : Nat,wkD c a v d = (decide ((d : Int) > 0) && (decide (u ≤ lastX c) && wkB c.r a (u,u) ((d : Int) * c.st,(d : Int) * c.st))) := fun d => by rw [← hue]; rfl
  rw [hue] at u1 u2 ⊢
  have hwk := fun (z : Int × Int) (hz : spVB z = true) (hul : u ≤ lastX c) => roWake_ac c.r a (u,u) z h.sm h.rot h.air ⟨spVB_t2 (by omega) (by omega),hz⟩ (by
    simp only [lyB,Bool.and_eq_true,decide_eq_true_eq]
    unfold lastX at hul
    omega)
  obtain ⟨m,hm⟩ : ∃ m : Nat,c.r.f.x.length = m + 1 := ⟨c.r.f.x.length - 1,by omega⟩
  have gm := ints_gd c.r.f.x m (by omega)
  have ga := ints_all c.r.f.x
  have gl := ints_len c.r.f.x
  have e1 : ((c.r.f.x.length : Nat) : Int) - 1 = (m : Int) := by omega
  have el : c.r.f.x[m]?.getD 0 = lastX c := by unfold lastX; rw [show c.r.f.x.length - 1 = m by omega]; rfl
  rw [el] at gm
  obtain ⟨N,hD⟩ : ∃ N : Nat,c.dr + 1 = (N : Int) := ⟨(c.dr + 1).toNat,by omega⟩
  have hDt : (c.dr + 1).toNat = N := by omega
  rw [hDt] at hQ
  rw [hD]
  unfold ncDrop
  refine aw_block (aw_loop (fun d : Nat => ⟨[(2,.ptr 0 0),(3,.ptr 8 0),(9,.ptr 16 0),(10,.ptr 24 0),(11,.ptr 32 0),(13,.ptr 40 0),(103,dI (c.top + 1)),(104,dI v),(15,dI v),(16,.ptr 48 0),(21,.vec 330 d 1),(158,dI N),(159,dI d)],[(0,crfC c),(8,airC a),(16,rotC c.r),(24,xC c (.vec 300 n0 1) (.vec 310 n1 1) (.vec 320 nw 1)),(32,[dI A,dI B]),(40,[dI E,dI F]),(300,G0),(310,G1),(320,GW),(48,[dI u,dI u]),(330,bolC (wkRow c a v d))],800⟩) (fun d => d ≤ N) (fun d => N - d) ⟨0,by omega,?_⟩ ?_)
  · simp only [Int.natCast_zero]
    have e0 : bolC (wkRow c a v 0) = [] := rfl
    rw [e0]
    unfold dI xC crfC rotC airC
    refine wk_q [] [(0,0),(8,8),(16,16),(24,24),(32,32),(40,40),(300,300),(310,310),(320,320),(48,48),(330,730)] ?_ ?_ <;> repeat' (first | exact trivial | exact vr_val _ | exact vr_list _ | exact vr_vec _ _ _ _ rfl | exact vr_ptr _ _ _ rfl | exact vr_nilv _ _ _ rfl | refine And.intro ⟨_,rfl,.inl ⟨_,rfl,by decide,?_⟩⟩ ?_ | refine And.intro ⟨_,rfl,.inr ⟨rfl,rfl,of_decide_eq_true (by kernel_rfl)⟩⟩ ?_ | apply And.intro | exact vrl_flat _ (by first | exact icells_in _ | exact rcells_in _ | exact scells_in _ | exact bcells_in _ | assumption) | fail)
  intro d hd
  have hrl := wkRow_len c a v d
  by_cases hlt : d < N
  case neg =>
    obtain rfl : d = N := by omega
    refine aw_seq (aw_hide fun K hK => aw_region ?_)
    simp (disch := first | exact okY | omega) only [ZU,Nat.reduceMul,Nat.reduceAdd,dI,AOpRun,aexec,Nat.reduceBEq,↓eget_h,isSh,↓reduceIte,abin,Int.lt_irrefl,decide_false]
    subst hK
    refine aw_seq (aw_condF rfl (aw_exit ?_))
    simp only [thenQ,blockQ,if_true,if_false,Nat.reduceEqDiff,reduceCtorEq]
    refine hQ _ ?_
    unfold dI xC crfC rotC airC
    refine wk_q [330] [(0,0),(8,8),(16,16),(24,24),(32,32),(40,40),(300,300),(310,310),(320,320)] ?_ ?_ <;> repeat' (first | exact trivial | exact vr_val _ | exact vr_list _ | exact vr_vec _ _ _ _ rfl | exact vr_ptr _ _ _ rfl | refine vr_fl _ _ _ _ _ (by decide) rfl ?_ ?_ ?_ ?_ | refine And.intro ⟨_,rfl,.inl ⟨_,rfl,by decide,?_⟩⟩ ?_ | apply And.intro | exact vrl_flat _ (by first | exact icells_in _ | exact rcells_in _ | exact scells_in _ | exact bcells_in _ | assumption) | fail)
    all_goals first | exact bls_one _ | (rw [bls_len,hrl]) | exact bolC_flat _ | exact bolC_in _ _
  have ki : (d : Int) < (N : Int) := by omega
  have bl := bolC_len (wkRow c a v d)
  have bt := bolC_take (wkRow c a v d)
  rw [hrl] at bl bt
  rw [Nat.mul_one] at bt
  have s1 : 0 ≤ (d : Int) * c.st := Int.mul_nonneg (by omega) (by omega)
  have s2 : (d : Int) * c.st ≤ 3000 := by
    have := Int.mul_le_mul (show (d : Int) ≤ 3 by omega) hst.2 (by omega) (by omega)
    omega
  have hbo := bolC_in (fun _ => False) (wkRow c a v (d + 1))
  have hsucc := wkRow_succ c a v d
  rw [hwd d] at hsucc
  generalize hsk : (d : Int) * c.st = k at *
  have fin : ∀ b : Bool,(decide ((d : Int) > 0) && (decide (u ≤ lastX c) && wkB c.r a (u,u) (k,k))) = b → bolC (wkRow c a v d) ++ [.val (.bool b)] = bolC (wkRow c a v (d + 1)) := fun b hb => by rw [hsucc,hb,bolC_app]
  refine aw_seq (aw_hide fun K hK => aw_region ?_)
  simp (disch := first | exact okY | omega) only [ZU,Nat.reduceMul,Nat.reduceAdd,dI,AOpRun,aexec,Nat.reduceBEq,↓eget_h,isSh,↓reduceIte,abin,ki]
  subst hK
  refine aw_seq (aw_condT rfl (aw_skip ?_))
  simp only [thenQ,blockQ,if_true,if_false,Nat.reduceEqDiff,reduceCtorEq]
  refine aw_seq (aw_block (aw_seq (aw_hide fun K hK => aw_region ?_)))
  simp (disch := first | exact okY | omega) only [ZU,Nat.reduceAdd,Nat.reduceMul,AOpRun,aexec,Nat.reduceBEq,↓eget_h]
  subst hK
  simp only [thenQ,blockQ,if_true,if_false,Nat.reduceEqDiff,reduceCtorEq]
  refine aw_seq (aw_hide fun K hK => aw_region ?_)
  unfold crfC
  simp (disch := first | exact okY | omega) only [ZU,Nat.reduceAdd,Nat.reduceMul,dI,AOpRun,aexec,Nat.reduceBEq,↓eget_h,run1,isSh,↓reduceIte,abin,hsk,fits,fillD,D.isBot,D.cells,ne_eq,not_true_eq_false,Nat.reduceGT,or_self,splice,List.take,List.drop,↓hget_h,Nat.reduceLeDiff,List.all,D.leaf]
  subst hK
  simp only [thenQ,blockQ,if_true,if_false,Nat.reduceEqDiff,reduceCtorEq]
  refine aw_seq (aw_hide fun K hK => aw_region ?_)
  simp (disch := first | exact okY | omega) only [ZU,Nat.reduceMul,Nat.reduceAdd,AOpRun,aexec,Nat.reduceBEq]
  subst hK
  simp only [thenQ,blockQ,if_true,if_false,Nat.reduceEqDiff,reduceCtorEq]
  cases q1 : decide ((d : Int) > 0)
  case false =>
    have hf := fin false (by rw [q1]; rfl)
    refine aw_seq (aw_seq (aw_hide fun K hK => aw_region ?_))
    simp (disch := first | exact okY | omega) only [ZU,Nat.reduceAdd,Nat.reduceMul,AOpRun,aexec,Nat.reduceBEq,↓eget_h,isSh,↓reduceIte,abin,q1,ARun_some,AG_ft]
    subst hK
    refine aw_condF rfl (aw_skip ?_)
    simp only [thenQ,blockQ,if_true,if_false,Nat.reduceEqDiff,reduceCtorEq]
    refine aw_hide fun K hK => aw_region ?_
    simp (disch := first | exact okY | omega) only [ZU,Nat.reduceAdd,Nat.reduceMul,AOpRun,aexec,Nat.reduceBEq,↓eget_h,↓reduceIte,fillD,D.isBot,D.cells,ne_eq,not_true_eq_false,Nat.reduceGT,or_self,splice,List.take,List.drop,base,↓hget_h,Nat.mul_one,bl,Nat.le_refl,bt,elems,List.all,D.leaf,and_true,ups]
    refine ago_if (by omega) ?_
    simp (disch := first | exact okY | omega) only [ZU,hf,Nat.reduceAdd,Nat.reduceBEq,hdel_c,hdel_n,AOpRun,aexec,↓eget_h]
    subst hK
    simp only [thenQ,blockQ,if_true,if_false,Nat.reduceEqDiff,reduceCtorEq]
    refine aw_hide fun K hK => aw_region ?_
    simp (disch := first | exact okY | omega) only [ZU,Nat.reduceAdd,Nat.reduceMul,AOpRun,aexec,Nat.reduceBEq,↓eget_h,isSh,↓reduceIte,abin,fits]
    subst hK
    refine ⟨d + 1,by omega,by omega,?_⟩
    unfold dI xC crfC rotC airC
    refine wk_q [] [(0,0),(8,8),(16,16),(24,24),(32,32),(40,40),(300,300),(310,310),(320,320),(48,48),(330,1080)] ?_ ?_ <;> repeat' (first | exact trivial | exact vr_val _ | exact vr_list _ | exact vr_vec _ _ _ _ rfl | exact vr_ptr _ _ _ rfl | refine And.intro ⟨_,rfl,.inl ⟨_,rfl,by decide,?_⟩⟩ ?_ | apply And.intro | exact vrl_flat _ (by first | exact icells_in _ | exact rcells_in _ | exact scells_in _ | exact bcells_in _ | assumption) | fail)
  cases q2 : decide (u ≤ lastX c)
  case false =>
    have hf := fin false (by rw [q1,q2]; rfl)
    refine aw_seq (aw_seq (aw_hide fun K hK => aw_region ?_))
    unfold rotC
    simp (disch := first | exact okY | omega) only [ZU,Nat.reduceAdd,Nat.reduceMul,dI,AOpRun,aexec,Nat.reduceBEq,↓eget_h,isSh,↓reduceIte,abin,q1,ARun_some,AG_tt,run1,↓hget_h,gl,e1,fits,ga,opt1,gm,q2]
    subst hK
    refine aw_condF rfl (aw_skip ?_)
    simp only [thenQ,blockQ,if_true,if_false,Nat.reduceEqDiff,reduceCtorEq]
    refine aw_hide fun K hK => aw_region ?_
    simp (disch := first | exact okY | omega) only [ZU,Nat.reduceAdd,Nat.reduceMul,AOpRun,aexec,Nat.reduceBEq,↓eget_h,↓reduceIte,fillD,D.isBot,D.cells,ne_eq,not_true_eq_false,Nat.reduceGT,or_self,splice,List.take,List.drop,base,↓hget_h,Nat.mul_one,bl,Nat.le_refl,bt,elems,List.all,D.leaf,and_true,ups]
    refine ago_if (by omega) ?_
    simp (disch := first | exact okY | omega) only [ZU,hf,Nat.reduceAdd,Nat.reduceBEq,hdel_c,hdel_n,AOpRun,aexec,↓eget_h]
    subst hK
    simp only [thenQ,blockQ,if_true,if_false,Nat.reduceEqDiff,reduceCtorEq]
    refine aw_hide fun K hK => aw_region ?_
    simp (disch := first | exact okY | omega) only [ZU,Nat.reduceAdd,Nat.reduceMul,AOpRun,aexec,Nat.reduceBEq,↓eget_h,isSh,↓reduceIte,abin,fits]
    subst hK
    refine ⟨d + 1,by omega,by omega,?_⟩
    unfold rotC dI
    refine wk_q [] [(0,0),(8,8),(16,16),(24,24),(32,32),(40,40),(300,300),(310,310),(320,320),(48,48),(330,1080)] ?_ ?_ <;> repeat' (first | exact trivial | exact vr_val _ | exact vr_list _ | exact vr_vec _ _ _ _ rfl | exact vr_ptr _ _ _ rfl | refine And.intro ⟨_,rfl,.inl ⟨_,rfl,by decide,?_⟩⟩ ?_ | apply And.intro | exact vrl_flat _ (by first | exact icells_in _ | exact rcells_in _ | exact scells_in _ | exact bcells_in _ | assumption) | fail)
  have cw := hwk (k,k) (spVB_t2 (by omega) (by omega)) (of_decide_eq_true q2)
  have hf := fin (wkB c.r a (u,u) (k,k)) (by rw [q1,q2]; rfl)
  generalize wkB c.r a (u,u) (k,k) = bw at *
  refine aw_seq (aw_seq (aw_hide fun K hK => aw_region ?_))
  unfold rotC
  simp (disch := first | exact okY | omega) only [ZU,Nat.reduceAdd,Nat.reduceMul,dI,AOpRun,aexec,Nat.reduceBEq,↓eget_h,isSh,↓reduceIte,abin,q1,ARun_some,AG_tt,run1,↓hget_h,gl,e1,fits,ga,opt1,gm,q2]
  subst hK
  refine aw_condT rfl ?_
  try simp only [thenQ,blockQ,if_true,if_false,Nat.reduceEqDiff,reduceCtorEq]
  unfold rotD rotC airD airC at *
  refine aw_hide fun K hK => aw_region ?_
  simp (disch := first | exact okY | omega) only [ZU,Nat.reduceAdd,Nat.reduceMul,dI,AOpRun,aexec,Nat.reduceBEq,↓eget_h,↓hget_h,Nat.reduceLeDiff,↓reduceIte,List.drop,List.take]
  refine acall0 cw ?_
  simp (disch := first | exact okY | omega) only [ZU,Nat.reduceAdd,dB,dI,Nat.reduceBEq,AOpRun,aexec,↓eget_h,opt1]
  subst hK
  simp only [thenQ,blockQ,if_true,if_false,Nat.reduceEqDiff,reduceCtorEq]
  refine aw_hide fun K hK => aw_region ?_
  simp (disch := first | exact okY | omega) only [ZU,Nat.reduceAdd,Nat.reduceMul,AOpRun,aexec,Nat.reduceBEq,↓eget_h,↓reduceIte,fillD,D.isBot,D.cells,ne_eq,not_true_eq_false,Nat.reduceGT,or_self,splice,List.take,List.drop,base,↓hget_h,Nat.mul_one,bl,Nat.le_refl,bt,elems,List.all,D.leaf,and_true,ups]
  refine ago_if (by omega) ?_
  simp (disch := first | exact okY | omega) only [ZU,hf,Nat.reduceAdd,Nat.reduceBEq,hdel_c,hdel_n,AOpRun,aexec,↓eget_h]
  subst hK
  simp only [thenQ,blockQ,if_true,if_false,Nat.reduceEqDiff,reduceCtorEq]
  refine aw_hide fun K hK => aw_region ?_
  simp (disch := first | exact okY | omega) only [ZU,Nat.reduceAdd,Nat.reduceMul,AOpRun,aexec,Nat.reduceBEq,↓eget_h,isSh,↓reduceIte,abin,fits]
  subst hK
  refine ⟨d + 1,by omega,by omega,?_⟩
  try unfold xC
  try unfold crfC
  unfold dI
  refine wk_q [] [(0,0),(8,8),(16,16),(24,24),(32,32),(40,40),(300,300),(310,310),(320,320),(48,48),(330,1152)] ?_ ?_ <;> repeat' (first | exact trivial | exact vr_val _ | exact vr_list _ | exact vr_vec _ _ _ _ rfl | exact vr_ptr _ _ _ rfl | refine And.intro ⟨_,rfl,.inl ⟨_,rfl,by decide,?_⟩⟩ ?_ | apply And.intro | exact vrl_flat _ (by first | exact icells_in _ | exact rcells_in _ | exact scells_in _ | exact bcells_in _ | assumption) | fail)
end Go.Proofs.YtbncpngjclabhaaGreat
/- engine: the rates of a speed (views last). No conditions. -/
namespace Go.Proofs.YtbncpngjclabhaaGreat
open Go Go.RowKit Lift

theorem icl_take (l : List Int) : (icells l).take l.length = icells l := List.take_of_length_le (by rw [icells_len]; exact Nat.le_refl _)
theorem icl_app (l : List Int) (x : Int) : icells l ++ [.val (.int .i64 x)] = icells (l ++ [x]) := by simp [icells]
def rtV (c : Crf) (n p : Int) : Int := flW (IntKind.i64.wrap (p - n)) (c.r.cl * c.st)
def lj0 (r0 : List Int) (x : Int) (j : Nat) : List Int := if j = 0 then r0 else r0 ++ [x]
def lj1 (r0 : List Int) (x : Int) (j : Nat) : List Int := if j = 2 then r0 ++ [x] else r0
theorem nc_eng (c : Crf) (a : Air) (h : CrOk c a) (v : Nat) (u n1 n2 : Int) (r0 r1 : List Int) (hr0 : r0.length ≤ 100) (hr1 : r1.length ≤ 100) (GW : List D) (hGW : ∀ d ∈ GW,In (fun _ => False) d) (A B E F : Int) (nw : Nat) (Q : AExit → St → Prop)
    (hQ : ∀ s',Wk [] s' ⟨[(2,.ptr 0 0),(3,.ptr 8 0),(9,.ptr 16 0),(10,.ptr 24 0),(11,.ptr 32 0),(13,.ptr 40 0),(103,dI (c.top + 1)),(104,dI v),(15,dI v),(16,.ptr 48 0)],[(0,crfC c),(8,airC a),(16,rotC c.r),(24,xC c (.vec 300 (r0 ++ [rtV c n2 A]).length 1) (.vec 310 (r1 ++ [rtV c n2 E]).length 1) (.vec 320 nw 1)),(32,[dI A,dI B]),(40,[dI E,dI F]),(300,icells (r0 ++ [rtV c n2 A])),(310,icells (r1 ++ [rtV c n2 E])),(320,GW),(48,[dI u,dI u])],900⟩ → Q .norm s') :
    AWb false Tryz.prog 213 [] ncEng Q ⟨[(2,.ptr 0 0),(3,.ptr 8 0),(9,.ptr 16 0),(10,.ptr 24 0),(11,.ptr 32 0),(13,.ptr 40 0),(103,dI (c.top + 1)),(104,dI v),(15,dI v),(16,.ptr 48 0),(17,.ptr 56 0),(127,.agg [dI A,dI E]),(128,dI 0)],[(0,crfC c),(8,airC a),(16,rotC c.r),(24,xC c (.vec 300 (r0).length 1) (.vec 310 (r1).length 1) (.vec 320 nw 1)),(32,[dI A,dI B]),(40,[dI E,dI F]),(300,icells (r0)),(310,icells (r1)),(320,GW),(48,[dI u,dI u]),(56,[dI n1,dI n2])],700⟩ := by
  have hi := crB_in h.b
  have hst := wI_t hi.s
  have hcl := wI_t (rotE_is h.rot).cl
  have d1 : 1 ≤ c.r.cl * c.st := by
    have := Int.mul_le_mul hcl.1 hst.1 (by omega) (by omega)
    omega
  have d2 : c.r.cl * c.st ≤ 1000000 := by
    have := Int.mul_le_mul hcl.2 hst.2 (by omega) (by omega)
    omega
  have f0 := engFloor_ac (IntKind.i64.wrap (A - n2)) (c.r.cl * c.st) (by omega)
  have f1 := engFloor_ac (IntKind.i64.wrap (E - n2)) (c.r.cl * c.st) (by omega)
  have e0 : flW (IntKind.i64.wrap (A - n2)) (c.r.cl * c.st) = rtV c n2 A := rfl
  have e1 : flW (IntKind.i64.wrap (E - n2)) (c.r.cl * c.st) = rtV c n2 E := rfl
  rw [e0] at f0
  rw [e1] at f1
  have t0 := icl_take r0
  have t1 := icl_take r1
  have l0 := icells_len r0
  have l1 := icells_len r1
  have a0 := icl_app r0 (rtV c n2 A)
  have a1 := icl_app r1 (rtV c n2 E)
  have g0 : (r0 ++ [rtV c n2 A]).length = r0.length + 1 := by simp
  have g1 : (r1 ++ [rtV c n2 E]).length = r1.length + 1 := by simp
  have b0 := fun l => icells_in l
  generalize rtV c n2 A = x0 at *
  generalize rtV c n2 E = x1 at *
  generalize hDD : c.r.cl * c.st = N at *
  generalize hm0 : IntKind.i64.wrap (A - n2) = m0 at *
  generalize hm1 : IntKind.i64.wrap (E - n2) = m1 at *
  unfold ncEng
  refine aw_block (aw_loop (fun j : Nat => ⟨[(2,.ptr 0 0),(3,.ptr 8 0),(9,.ptr 16 0),(10,.ptr 24 0),(11,.ptr 32 0),(13,.ptr 40 0),(103,dI (c.top + 1)),(104,dI v),(15,dI v),(16,.ptr 48 0),(17,.ptr 56 0),(127,.agg [dI A,dI E]),(128,dI j)],[(0,crfC c),(8,airC a),(16,rotC c.r),(24,xC c (.vec 300 (lj0 r0 x0 j).length 1) (.vec 310 (lj1 r1 x1 j).length 1) (.vec 320 nw 1)),(32,[dI A,dI B]),(40,[dI E,dI F]),(300,icells (lj0 r0 x0 j)),(310,icells (lj1 r1 x1 j)),(320,GW),(48,[dI u,dI u]),(56,[dI n1,dI n2])],800⟩) (fun j => j ≤ 2) (fun j => 2 - j) ⟨0,by omega,?_⟩ ?_)
  · simp only [Int.natCast_zero,lj0,lj1,if_true,Nat.reduceEqDiff,if_false]
    unfold dI xC crfC rotC airC
    refine wk_q [] [(0,0),(8,8),(16,16),(24,24),(32,32),(40,40),(300,300),(310,310),(320,320),(48,48),(56,56)] ?_ ?_ <;> repeat' (first | exact trivial | exact vr_val _ | exact vr_list _ | exact vr_vec _ _ _ _ rfl | exact vr_ptr _ _ _ rfl | apply vr_agg | refine And.intro ⟨_,rfl,.inl ⟨_,rfl,by decide,?_⟩⟩ ?_ | apply And.intro | exact vrl_flat _ (by first | exact icells_in _ | exact rcells_in _ | exact scells_in _ | exact bcells_in _ | assumption) | fail)
  intro j hj
  rcases (by omega : j = 0 ∨ j = 1 ∨ j = 2) with rfl | rfl | rfl
  · simp only [lj0,lj1,if_true,Nat.reduceEqDiff,if_false]
    have ez : ((0 : Nat) : Int) = 0 := rfl
    rw [ez]
    refine aw_seq (aw_hide fun K hK => aw_region ?_)
    simp (disch := first | exact okY | omega) only [ZU,Nat.reduceMul,Nat.reduceAdd,dI,AOpRun,aexec,Nat.reduceBEq,↓eget_h,isSh,↓reduceIte,abin,Int.reduceLT]
    subst hK
    refine aw_seq (aw_condT rfl (aw_skip ?_))
    simp only [thenQ,blockQ,if_true,if_false,Nat.reduceEqDiff,reduceCtorEq]
    refine aw_seq (aw_block (aw_seq (aw_hide fun K hK => aw_region ?_)))
    simp (disch := first | exact okY | omega) only [ZU,Nat.reduceAdd,Nat.reduceMul,AOpRun,aexec,Nat.reduceBEq,↓eget_h,D.isAgg,Int.le_refl,cast_lit,Int.reduceLT,↓reduceIte,opt1,D.cells,Int.toNat_zero]
    subst hK
    simp only [thenQ,blockQ,if_true,if_false,Nat.reduceEqDiff,reduceCtorEq]
    unfold xC crfC rotC
    refine aw_hide fun K hK => aw_region ?_
    simp (disch := first | exact okY | omega) only [ZU,Nat.reduceAdd,Nat.reduceMul,dI,AOpRun,aexec,Nat.reduceBEq,↓eget_h,Int.le_refl,cast_lit,Int.reduceLT,↓reduceIte,Int.toNat_zero,run1,↓hget_h,isSh,abin,hm0,hDD,fits]
    refine acall0 f0 ?_
    simp (disch := first | exact okY | omega) only [ZU,Nat.reduceAdd,dI,Nat.reduceBEq,AOpRun,aexec,Nat.reduceMul,↓reduceIte,fillD,D.isBot,↓eget_h,D.cells,ne_eq,not_true_eq_false,Nat.reduceGT,or_self,splice,List.take,List.drop,base,↓hget_h,Nat.mul_one,l0,Nat.le_refl,t0,elems,List.all,D.leaf,and_true,ups]
    refine ago_if (by omega) ?_
    simp (disch := first | exact okY | omega) only [ZU,a0,Nat.reduceAdd,Nat.reduceBEq,hdel_c,hdel_n,AOpRun,aexec,↓eget_h,Int.le_refl,cast_lit,Int.reduceLT,↓reduceIte,Int.toNat_zero,Nat.reduceMul,↓hget_h,D.isBot,D.cells,Nat.reduceLeDiff,List.all,D.leaf,splice,List.take,List.drop]
    subst hK
    simp only [thenQ,blockQ,if_true,if_false,Nat.reduceEqDiff,reduceCtorEq]
    refine aw_hide fun K hK => aw_region ?_
    simp (disch := first | exact okY | omega) only [ZU,Nat.reduceAdd,Nat.reduceMul,AOpRun,aexec,Nat.reduceBEq,↓eget_h,isSh,↓reduceIte,abin,Int.reduceAdd,fits]
    subst hK
    refine ⟨1,by omega,by omega,?_⟩
    have eo : ((1 : Nat) : Int) = 1 := rfl
    simp only [lj0,lj1,if_true,Nat.reduceEqDiff,if_false,eo,g0]
    have hb := b0 (r0 ++ [x0])
    unfold dI airC
    refine wk_q [] [(0,0),(8,8),(16,16),(24,24),(32,32),(40,40),(300,992),(310,310),(320,320),(48,48),(56,56)] ?_ ?_ <;> repeat' (first | exact trivial | exact vr_val _ | exact vr_list _ | exact vr_vec _ _ _ _ rfl | exact vr_ptr _ _ _ rfl | apply vr_agg | refine And.intro ⟨_,rfl,.inl ⟨_,rfl,by decide,?_⟩⟩ ?_ | apply And.intro | exact vrl_flat _ (by first | exact icells_in _ | exact rcells_in _ | exact scells_in _ | exact bcells_in _ | assumption) | fail)
  · simp only [lj0,lj1,if_true,Nat.reduceEqDiff,if_false]
    have ez : ((1 : Nat) : Int) = 1 := rfl
    rw [ez]
    refine aw_seq (aw_hide fun K hK => aw_region ?_)
    simp (disch := first | exact okY | omega) only [ZU,Nat.reduceMul,Nat.reduceAdd,dI,AOpRun,aexec,Nat.reduceBEq,↓eget_h,isSh,↓reduceIte,abin,Int.reduceLT]
    subst hK
    refine aw_seq (aw_condT rfl (aw_skip ?_))
    simp only [thenQ,blockQ,if_true,if_false,Nat.reduceEqDiff,reduceCtorEq]
    refine aw_seq (aw_block (aw_seq (aw_hide fun K hK => aw_region ?_)))
    simp (disch := first | exact okY | omega) only [ZU,Nat.reduceAdd,Nat.reduceMul,AOpRun,aexec,Nat.reduceBEq,↓eget_h,D.isAgg,Int.reduceLE,cast_lit,Int.reduceLT,↓reduceIte,opt1,D.cells,Int.reduceToNat]
    subst hK
    simp only [thenQ,blockQ,if_true,if_false,Nat.reduceEqDiff,reduceCtorEq]
    unfold xC crfC rotC
    refine aw_hide fun K hK => aw_region ?_
    simp (disch := first | exact okY | omega) only [ZU,Nat.reduceAdd,Nat.reduceMul,dI,AOpRun,aexec,Nat.reduceBEq,↓eget_h,Int.reduceLE,cast_lit,Int.reduceLT,↓reduceIte,Int.reduceToNat,run1,↓hget_h,isSh,abin,hm1,hDD,fits]
    refine acall0 f1 ?_
    simp (disch := first | exact okY | omega) only [ZU,Nat.reduceAdd,dI,Nat.reduceBEq,AOpRun,aexec,Nat.reduceMul,↓reduceIte,fillD,D.isBot,↓eget_h,D.cells,ne_eq,not_true_eq_false,Nat.reduceGT,or_self,splice,List.take,List.drop,base,↓hget_h,Nat.mul_one,l1,Nat.le_refl,t1,elems,List.all,D.leaf,and_true,ups]
    refine ago_if (by omega) ?_
    simp (disch := first | exact okY | omega) only [ZU,a1,Nat.reduceAdd,Nat.reduceBEq,hdel_c,hdel_n,AOpRun,aexec,↓eget_h,Int.reduceLE,cast_lit,Int.reduceLT,↓reduceIte,Int.reduceToNat,Nat.reduceMul,↓hget_h,D.isBot,D.cells,Nat.reduceLeDiff,List.all,D.leaf,splice,List.take,List.drop]
    subst hK
    simp only [thenQ,blockQ,if_true,if_false,Nat.reduceEqDiff,reduceCtorEq]
    refine aw_hide fun K hK => aw_region ?_
    simp (disch := first | exact okY | omega) only [ZU,Nat.reduceAdd,Nat.reduceMul,AOpRun,aexec,Nat.reduceBEq,↓eget_h,isSh,↓reduceIte,abin,Int.reduceAdd,fits]
    subst hK
    refine ⟨2,by omega,by omega,?_⟩
    have eo : ((2 : Nat) : Int) = 2 := rfl
    simp only [lj0,lj1,if_true,Nat.reduceEqDiff,if_false,eo,g1]
    have hb := b0 (r1 ++ [x1])
    have hb2 := b0 (r0 ++ [x0])
    unfold dI airC
    refine wk_q [] [(0,0),(8,8),(16,16),(24,24),(32,32),(40,40),(300,300),(310,992),(320,320),(48,48),(56,56)] ?_ ?_ <;> repeat' (first | exact trivial | exact vr_val _ | exact vr_list _ | exact vr_vec _ _ _ _ rfl | exact vr_ptr _ _ _ rfl | apply vr_agg | refine And.intro ⟨_,rfl,.inl ⟨_,rfl,by decide,?_⟩⟩ ?_ | apply And.intro | exact vrl_flat _ (by first | exact icells_in _ | exact rcells_in _ | exact scells_in _ | exact bcells_in _ | assumption) | fail)
  · simp only [lj0,lj1,if_true,Nat.reduceEqDiff,if_false]
    have ez : ((2 : Nat) : Int) = 2 := rfl
    rw [ez]
    refine aw_seq (aw_hide fun K hK => aw_region ?_)
    simp (disch := first | exact okY | omega) only [ZU,Nat.reduceMul,Nat.reduceAdd,dI,AOpRun,aexec,Nat.reduceBEq,↓eget_h,isSh,↓reduceIte,abin,Int.reduceLT,decide_false]
    subst hK
    refine aw_seq (aw_condF rfl (aw_exit ?_))
    simp only [thenQ,blockQ,if_true,if_false,Nat.reduceEqDiff,reduceCtorEq]
    refine hQ _ ?_
    have hb := b0 (r1 ++ [x1])
    have hb2 := b0 (r0 ++ [x0])
    unfold dI xC crfC rotC airC
    refine wk_q [] [(0,0),(8,8),(16,16),(24,24),(32,32),(40,40),(300,300),(310,310),(320,320),(48,48)] ?_ ?_ <;> repeat' (first | exact trivial | exact vr_val _ | exact vr_list _ | exact vr_vec _ _ _ _ rfl | exact vr_ptr _ _ _ rfl | refine And.intro ⟨_,rfl,.inl ⟨_,rfl,by decide,?_⟩⟩ ?_ | apply And.intro | exact vrl_flat _ (by first | exact icells_in _ | exact rcells_in _ | exact scells_in _ | exact bcells_in _ | assumption) | fail)
end Go.Proofs.YtbncpngjclabhaaGreat
/- engine: a craft in an air (views last). No conditions. -/
namespace Go.Proofs.YtbncpngjclabhaaGreat.Lift
open Go Go.RowKit
def inFz : D → Bool
  | .val _ | .list _ | .at_ _ | .bot | .cap0 => true
  | _ => false
theorem inFz_in {S : Nat → Prop} {d : D} (h : inFz d = true) : In S d := by
  cases d <;> first | exact .val _ | exact .list _ | exact .at_ _ | exact .bot | exact .cap0 | simp [inFz] at h
theorem vwObj {H : Heap} {V : List Nat} {g : Nat} {c l : List D} (hg : g ∈ V) (hc : H g = some c) (hl : VwL H V c l) (hin : l.all inFz = true) : Vw H V (.ptr g 0) (.at_ l) := by
  obtain ⟨h1,h2⟩ := hl.get
  refine .ptrN g 0 c l hg hc (by omega) (fun i hi hi' => ?_) fun d hd => inFz_in (List.all_eq_true.1 hin d hd)
  have := h2 i (by omega) hi
  simpa using this
end Go.Proofs.YtbncpngjclabhaaGreat.Lift
namespace Go.Proofs.YtbncpngjclabhaaGreat
open Go Go.RowKit Lift

def ndV (c : Crf) (a : Air) (v : Nat) : Int := (lvR c.r a ((v : Int) * c.un,(v : Int) * c.un)).1.2
def rts (c : Crf) (a : Air) (p : Int) (n : Nat) : List Int := (List.range n).map fun v => rtV c (ndV c a v) p
def wks (c : Crf) (a : Air) (n : Nat) : List (List Bool) := (List.range n).map fun v => wkRow c a v (c.dr + 1).toNat
def rowC (l : List (List Bool)) : List D := l.map fun r => .list (bls r)
theorem rts_len (c : Crf) (a : Air) (p : Int) (n : Nat) : (rts c a p n).length = n := by simp [rts]
theorem rts_succ (c : Crf) (a : Air) (p : Int) (n : Nat) : rts c a p (n + 1) = rts c a p n ++ [rtV c (ndV c a n) p] := by simp [rts,List.range_succ]
theorem wks_len (c : Crf) (a : Air) (n : Nat) : (wks c a n).length = n := by simp [wks]
theorem wks_succ (c : Crf) (a : Air) (n : Nat) : wks c a (n + 1) = wks c a n ++ [wkRow c a n (c.dr + 1).toNat] := by simp [wks,List.range_succ]
theorem rowC_len (l : List (List Bool)) : (rowC l).length = l.length := by simp [rowC]
theorem rowC_take (l : List (List Bool)) : (rowC l).take l.length = rowC l := List.take_of_length_le (by rw [rowC_len]; exact Nat.le_refl _)
theorem rowC_app (l : List (List Bool)) (r : List Bool) : rowC l ++ [.list (bls r)] = rowC (l ++ [r]) := by simp [rowC]
theorem rowC_in (S : Nat → Prop) (l : List (List Bool)) : ∀ d ∈ rowC l,In S d := by intro d hd; obtain ⟨b,_,rfl⟩ := List.mem_map.1 hd; exact .list _
theorem rowC_flat (l : List (List Bool)) : (blss l).flatten = rowC l := by
  induction l with
  | nil => rfl
  | cons b l ih => simp [blss,rowC] at ih ⊢; exact ih
theorem blss_one (l : List (List Bool)) : ∀ e ∈ blss l,e.length = 1 := by intro e he; obtain ⟨b,_,rfl⟩ := List.mem_map.1 he; rfl
theorem blss_len (l : List (List Bool)) : (blss l).length = l.length := by simp [blss]
def topN (c : Crf) : Nat := (c.top + 1).toNat
def halfR (c : Crf) (a : Air) : Int × Int := (partR (hasR c.r a) c.one 100).1
def crX (c : Crf) (a : Air) : List D := xC c (.list (ints (rts c a (hasR c.r a).1 (topN c)))) (.list (ints (rts c a (halfR c a).1 (topN c)))) (.list (blss (wks c a (topN c))))
def ncBody : ACode :=
 (.seq
 (.region false [om 106 104,
 om 15 106] [106])
 (.seq
 (.region false [om 107 15,
 oo 108 (.fad 27 (.tmp 2)),
 oo 109 (.load1 (.tmp 108)),
 oo 110 (.bin .mul (.tmp 107) (.tmp 109)),
 om 111 15,
 oo 112 (.fad 27 (.tmp 2)),
 oo 113 (.load1 (.tmp 112)),
 oo 114 (.bin .mul (.tmp 111) (.tmp 113)),
 oo 115 (.build [(.val (.int .i64 0)),(.val (.int .i64 0))] [(0,1,(.tmp 110)),(1,1,(.tmp 114))]),
 oo 16 (.mem [(.val (.int .i64 0)),(.val (.int .i64 0))]),
 on (.store 2 (.tmp 16) (.tmp 115))] [107,108,109,110,111,112,113,114,115])
 (.seq
 (.region false [oo 117 (.loadN 26 (.tmp 9)),
 oo 118 (.loadN 8 (.tmp 3)),
 oo 119 (.loadN 2 (.tmp 16)),
 oo 120 (.call (.func 96) [(.tmp 117),(.tmp 118),(.tmp 119)]),
 om 116 120,
 oo 121 (.ext (.tmp 116) 0),
 oo 122 (.ext (.tmp 116) 1),
 oo 17 (.mem [(.val (.int .i64 0)),(.val (.int .i64 0))]),
 on (.store 2 (.tmp 17) (.tmp 121)),
 om 18 122] [117,118,119,120,116,121,122,18])
 (.seq
 (.seq
 (.region false [oo 123 (.fad 0 (.tmp 11)),
 oo 124 (.load1 (.tmp 123)),
 oo 125 (.fad 0 (.tmp 13)),
 oo 126 (.load1 (.tmp 125)),
 oo 127 (.build [(.val (.int .i64 0)),(.val (.int .i64 0))] [(0,1,(.tmp 124)),(1,1,(.tmp 126))]),
 oo 128 (.mv (kI 0))] [123,124,125,126])
 (.block 4
 (.loop
 (.seq
 (.region false [oo 129 (.bin .lss (.tmp 128) (kI 2))] [])
 (.seq
 (.cond (.tmp 129)
 .skip
 (.exit 4))
 (.seq
 (.block 5
 (.seq
 (.region false [om 130 128,
 oo 131 (.idx1 2 1 (.tmp 127) (.tmp 128)),
 om 19 130,
 om 20 131] [130,131])
 (.region true [om 132 10,
 om 133 19,
 om 134 10,
 om 135 19,
 oa 136 (.nilc (.tmp 134)) [2],
 oa 137 (.fad 33 (.tmp 136)) [4,2],
 oa 138 (.iadA 2 1 (.tmp 137) (.tmp 135)) [5,4,2,3],
 oa 139 (.load1 (.tmp 138)) [6,5,4,2,3],
 om 140 20,
 oo 141 (.fad 1 (.tmp 17)),
 oa 142 (.load1 (.tmp 141)) [9],
 oa 143 (.bin .sub (.tmp 140) (.tmp 142)) [8,10,9],
 oo 144 (.fad 24 (.tmp 9)),
 oa 145 (.load1 (.tmp 144)) [12],
 oo 146 (.fad 28 (.tmp 2)),
 oa 147 (.load1 (.tmp 146)) [14],
 oa 148 (.bin .mul (.tmp 145) (.tmp 147)) [13,12,15,14],
 oa 149 (.call (.func 97) [(.tmp 143),(.tmp 148)]) [11,8,10,9,16,13,12,15,14],
 oa 150 (.buildSl 1 1 [(.val (.int .i64 0))] [(0,1,(.tmp 149))]) [17,11,8,10,9,16,13,12,15,14],
 oa 151 (.app 1 8 (.tmp 139) (.tmp 150)) [7,6,5,4,2,3,18,17,11,8,10,9,16,13,12,15,14],
 oa 152 (.nilc (.tmp 132)) [0],
 oa 153 (.fad 33 (.tmp 152)) [20,0],
 oa 154 (.iadA 2 1 (.tmp 153) (.tmp 133)) [21,20,0,1,2,3,4,5,6,7,8,9,10,11,12,13,14,15,16,17,18,19],
 ⟨none,.store 1 (.tmp 154) (.tmp 151),none,[22,21,20,0,1,2,3,4,5,6,7,8,9,10,11,12,13,14,15,16,17,18,19]⟩] [132,133,134,135,136,137,138,139,140,141,142,143,144,145,146,147,148,149,150,151,152,153,154])))
 (.region false [oo 155 (.bin .add (.tmp 128) (kI 1)),
 om 128 155] [155])))))))
 (.seq
 (.region false [oo 21 (.mv (.const (.slice none 0 0)))] [])
 (.seq
 (.seq
 (.region false [oo 156 (.fad 30 (.tmp 2)),
 oo 157 (.load1 (.tmp 156)),
 oo 158 (.bin .add (.tmp 157) (kI 1)),
 oo 159 (.mv (kI 0))] [156,157])
 (.block 6
 (.loop
 (.seq
 (.region false [oo 160 (.bin .lss (.tmp 159) (.tmp 158))] [])
 (.seq
 (.cond (.tmp 160)
 .skip
 (.exit 6))
 (.seq
 (.block 7
 (.seq
 (.region false [om 161 159,
 om 22 161] [161])
 (.seq
 (.region false [om 162 22,
 oo 163 (.fad 28 (.tmp 2)),
 oo 164 (.load1 (.tmp 163)),
 oo 165 (.bin .mul (.tmp 162) (.tmp 164)),
 om 166 22,
 oo 167 (.fad 28 (.tmp 2)),
 oo 168 (.load1 (.tmp 167)),
 oo 169 (.bin .mul (.tmp 166) (.tmp 168)),
 oo 170 (.build [(.val (.int .i64 0)),(.val (.int .i64 0))] [(0,1,(.tmp 165)),(1,1,(.tmp 169))]),
 oo 23 (.mem [(.val (.int .i64 0)),(.val (.int .i64 0))]),
 on (.store 2 (.tmp 23) (.tmp 170))] [162,163,164,165,166,167,168,169,170])
 (.seq
 (.region false [oo 24 (.mv (.const (.bool false)))] [])
 (.seq
 (.seq
 (.region true [om 171 22,
 oa 172 (.bin .gtr (.tmp 171) (kI 0)) [0],
 oa 173 (.mv (.tmp 172)) [1,0],
 og 174 173 true (.fad 1 (.tmp 16)) [2,1,0],
 og 175 173 true (.load1 (.tmp 174)) [3,2,1,0],
 og 176 173 true (.fad 15 (.tmp 9)) [2,1,0],
 og 177 173 true (.fad 0 (.tmp 176)) [5,2,1,0],
 og 178 173 true (.load1 (.tmp 177)) [6,5,2,1,0],
 og 179 173 true (.fad 15 (.tmp 9)) [2,1,0],
 og 180 173 true (.fad 0 (.tmp 179)) [8,2,1,0],
 og 181 173 true (.load1 (.tmp 180)) [9,8,2,1,0],
 og 182 173 true (.len_ (.tmp 181)) [10,9,8,2,1,0],
 og 183 173 true (.bin .sub (.tmp 182) (kI 1)) [11,10,9,8,2,1,0],
 og 184 173 true (.iadS 1 (.tmp 178) (.tmp 183)) [7,6,5,2,1,0,12,11,10,9,8],
 og 185 173 true (.load1 (.tmp 184)) [13,7,6,5,2,1,0,12,11,10,9,8],
 og 186 173 true (.bin .leq (.tmp 175) (.tmp 185)) [4,3,2,1,0,14,13,7,6,5,12,11,10,9,8],
 oa 187 (.pick (.tmp 173) (.tmp 186) (.const (.bool false))) [2,1,0,15,4,3,14,13,7,6,5,12,11,10,9,8]] [171,172,173,174,175,176,177,178,179,180,181,182,183,184,185,186])
 (.cond (.tmp 187)
 (.region false [oo 189 (.loadN 26 (.tmp 9)),
 oo 190 (.loadN 8 (.tmp 3)),
 oo 191 (.loadN 2 (.tmp 16)),
 oo 192 (.loadN 2 (.tmp 23)),
 oo 193 (.call (.func 98) [(.tmp 189),(.tmp 190),(.tmp 191),(.tmp 192)]),
 om 188 193,
 oo 194 (.ext (.tmp 188) 0),
 oo 195 (.ext (.tmp 188) 1),
 om 24 194] [189,190,191,192,193,188,194,195])
 .skip))
 (.region false [om 196 21,
 om 197 24,
 oo 198 (.buildSl 1 1 [(.val (.bool false))] [(0,1,(.tmp 197))]),
 oo 199 (.app 1 1 (.tmp 196) (.tmp 198)),
 om 21 199] [196,197,198,199]))))))
 (.region false [oo 200 (.bin .add (.tmp 159) (kI 1)),
 om 159 200] [200])))))))
 (.region false [om 201 10,
 om 202 10,
 oo 203 (.nilc (.tmp 202)),
 oo 204 (.fad 35 (.tmp 203)),
 oo 205 (.load1 (.tmp 204)),
 om 206 21,
 oo 207 (.buildSl 1 1 [(.val (.slice none 0 0))] [(0,1,(.tmp 206))]),
 oo 208 (.app 1 24 (.tmp 205) (.tmp 207)),
 oo 209 (.nilc (.tmp 201)),
 oo 210 (.fad 35 (.tmp 209)),
 on (.store 1 (.tmp 210) (.tmp 208))] [201,202,203,204,205,206,207,208,209,210])))))))
theorem nc_speed (c : Crf) (a : Air) (h : CrOk c a) (v : Nat) (hv : (v : Int) ≤ c.top) (A B E F : Int) (Q : AExit → St → Prop)
    (hQ : ∀ s',Wk [] s' ⟨[(2,.ptr 0 0),(3,.ptr 8 0),(9,.ptr 16 0),(10,.ptr 24 0),(11,.ptr 32 0),(13,.ptr 40 0),(103,dI (c.top + 1)),(104,dI v)],[(0,crfC c),(8,airC a),(16,rotC c.r),(24,xC c (.vec 300 (rts c a A (v + 1)).length 1) (.vec 310 (rts c a E (v + 1)).length 1) (.vec 320 (v + 1) 1)),(32,[dI A,dI B]),(40,[dI E,dI F]),(300,icells (rts c a A (v + 1))),(310,icells (rts c a E (v + 1))),(320,rowC (wks c a (v + 1)))],900⟩ → Q .norm s') :
    AWb false Tryz.prog 213 [] ncBody Q ⟨[(2,.ptr 0 0),(3,.ptr 8 0),(9,.ptr 16 0),(10,.ptr 24 0),(11,.ptr 32 0),(13,.ptr 40 0),(103,dI (c.top + 1)),(104,dI v)],[(0,crfC c),(8,airC a),(16,rotC c.r),(24,xC c (.vec 300 (rts c a A v).length 1) (.vec 310 (rts c a E v).length 1) (.vec 320 v 1)),(32,[dI A,dI B]),(40,[dI E,dI F]),(300,icells (rts c a A v)),(310,icells (rts c a E v)),(320,rowC (wks c a v))],600⟩ := by
  have hi := crB_in h.b
  have hu := wI_t hi.u
  have htp := wI_t hi.t
  have hdr := wI_t hi.d
  have u1 : 0 ≤ (v : Int) * c.un := Int.mul_nonneg (by omega) (by omega)
  have u2 : (v : Int) * c.un ≤ 6000 := by
    have := Int.mul_le_mul (show (v : Int) ≤ 6 by omega) hu.2 (by omega) (by omega)
    omega
  have cl := roLevel_ac c.r a ((v : Int) * c.un,(v : Int) * c.un) h.sm h.rot h.air
  have hnd : (lvR c.r a ((v : Int) * c.un,(v : Int) * c.un)).1.2 = ndV c a v := rfl
  rw [hnd] at cl
  have r0 := rts_succ c a A v
  have r1 := rts_succ c a E v
  have w0 := wks_succ c a v
  have l0 := rts_len c a A v
  have l1 := rts_len c a E v
  have lw := wks_len c a v
  have tw := rowC_take (wks c a v)
  rw [lw] at tw
  have gw := rowC_len (wks c a v)
  rw [lw] at gw
  have ra := rowC_app (wks c a v) (wkRow c a v (c.dr + 1).toNat)
  rw [← w0] at ra
  have he := fun u n1 Q hq => nc_eng c a h v u n1 (ndV c a v) (rts c a A v) (rts c a E v) (by omega) (by omega) (rowC (wks c a v)) (rowC_in _ _) A B E F v Q hq
  rw [← r0,← r1] at he
  have hd := fun Q hq => nc_drop c a h v hv (icells (rts c a A (v + 1))) (icells (rts c a E (v + 1))) (rowC (wks c a v)) (icells_in _) (icells_in _) (rowC_in _ _) A B E F (rts c a A (v + 1)).length (rts c a E (v + 1)).length v Q hq
  have i0 := icells_in (rts c a A v)
  have i1 := icells_in (rts c a E v)
  have i2 := icells_in (rts c a A (v + 1))
  have i3 := icells_in (rts c a E (v + 1))
  have iw := rowC_in (fun _ => False) (wks c a v)
  have iw2 := rowC_in (fun _ => False) (wks c a (v + 1))
  obtain ⟨u,hue⟩ : ∃ u,(v : Int) * c.un = u := ⟨_,rfl⟩
  rw [hue] at cl u1 u2 hd
  generalize (lvR c.r a (u,u)).1.1 = n1 at *
  generalize (lvR c.r a (u,u)).2 = ee at *
  generalize ndV c a v = n2 at *
  generalize (wkRow c a v (c.dr + 1).toNat) = row at *
  generalize wks c a (v + 1) = W1 at *
  generalize wks c a v = W0 at *
  unfold ncBody
  refine aw_seq (aw_hide fun K hK => aw_region ?_)
  simp (disch := first | exact okY | omega) only [ZU,Nat.reduceAdd,Nat.reduceMul,dI,AOpRun,aexec,Nat.reduceBEq,↓eget_h]
  subst hK
  simp only [thenQ,blockQ,if_true,if_false,Nat.reduceEqDiff,reduceCtorEq]
  refine aw_seq (aw_hide fun K hK => aw_region ?_)
  unfold crfC
  simp (disch := first | exact okY | omega) only [ZU,Nat.reduceAdd,Nat.reduceMul,dI,AOpRun,aexec,Nat.reduceBEq,↓eget_h,run1,isSh,↓reduceIte,abin,hue,fits,fillD,D.isBot,D.cells,ne_eq,not_true_eq_false,Nat.reduceGT,or_self,splice,List.take,List.drop,↓hget_h,Nat.reduceLeDiff,List.all,D.leaf]
  subst hK
  simp only [thenQ,blockQ,if_true,if_false,Nat.reduceEqDiff,reduceCtorEq]
  unfold rotD rotC airD airC at *
  refine aw_seq (aw_hide fun K hK => aw_region ?_)
  simp (disch := first | exact okY | omega) only [ZU,Nat.reduceAdd,Nat.reduceMul,dI,AOpRun,aexec,Nat.reduceBEq,↓eget_h,↓hget_h,Nat.reduceLeDiff,↓reduceIte,List.drop,List.take]
  refine acall0 cl ?_
  simp (disch := first | exact okY | omega) only [ZU,Nat.reduceAdd,dI,Nat.reduceBEq,AOpRun,aexec,↓eget_h,opt1,Nat.reduceMul,↓reduceIte,↓hget_h,D.isBot,D.cells,Nat.reduceLeDiff,List.all,D.leaf,splice,List.take,List.drop]
  subst hK
  simp only [thenQ,blockQ,if_true,if_false,Nat.reduceEqDiff,reduceCtorEq]
  clear cl
  refine aw_seq (aw_seq (aw_hide fun K hK => aw_region ?_))
  simp (disch := first | exact okY | omega) only [ZU,Nat.reduceAdd,Nat.reduceMul,AOpRun,aexec,Nat.reduceBEq,↓eget_h,run1,↓hget_h,fillD,D.isBot,D.cells,ne_eq,not_true_eq_false,Nat.reduceGT,or_self,↓reduceIte,splice,List.take,List.drop]
  subst hK
  simp only [thenQ,blockQ,if_true,if_false,Nat.reduceEqDiff,reduceCtorEq]
  refine aw_wk (s' := ⟨[(2,.ptr 0 0),(3,.ptr 8 0),(9,.ptr 16 0),(10,.ptr 24 0),(11,.ptr 32 0),(13,.ptr 40 0),(103,dI (c.top + 1)),(104,dI v),(15,dI v),(16,.ptr 48 0),(17,.ptr 56 0),(127,.agg [dI A,dI E]),(128,dI 0)],[(0,crfC c),(8,airC a),(16,rotC c.r),(24,xC c (.vec 300 (rts c a A v).length 1) (.vec 310 (rts c a E v).length 1) (.vec 320 v 1)),(32,[dI A,dI B]),(40,[dI E,dI F]),(300,icells (rts c a A v)),(310,icells (rts c a E v)),(320,rowC W0),(48,[dI u,dI u]),(56,[dI n1,dI n2])],700⟩) ?_ (he u n1 _ ?_)
  · unfold dI crfC xC rotC airC
    refine wk_q [] [(0,0),(8,8),(16,16),(24,24),(32,32),(40,40),(300,300),(310,310),(320,320),(48,688),(56,760)] ?_ ?_ <;> repeat' (first | exact trivial | exact vr_val _ | exact vr_list _ | exact vr_vec _ _ _ _ rfl | exact vr_ptr _ _ _ rfl | apply vr_agg | refine And.intro ⟨_,rfl,.inl ⟨_,rfl,by decide,?_⟩⟩ ?_ | apply And.intro | exact vrl_flat _ (by first | exact icells_in _ | exact rcells_in _ | exact scells_in _ | exact bcells_in _ | assumption) | fail)
  intro s' hw
  clear he
  simp only [thenQ,blockQ,if_true,if_false,Nat.reduceEqDiff,reduceCtorEq]
  refine aw_wk hw ?_
  clear hw
  refine aw_seq (aw_hide fun K hK => aw_region ?_)
  simp (disch := first | exact okY | omega) only [ZU,Nat.reduceMul,Nat.reduceAdd,dI,AOpRun,aexec,Nat.reduceBEq]
  subst hK
  simp only [thenQ,blockQ,if_true,if_false,Nat.reduceEqDiff,reduceCtorEq]
  refine aw_seq (aw_seq (aw_hide fun K hK => aw_region ?_))
  unfold crfC
  simp (disch := first | exact okY | omega) only [ZU,Nat.reduceAdd,Nat.reduceMul,dI,AOpRun,aexec,↓eget_h,Nat.reduceBEq,run1,isSh,↓reduceIte,abin,fits]
  subst hK
  simp only [thenQ,blockQ,if_true,if_false,Nat.reduceEqDiff,reduceCtorEq]
  refine aw_wk (s' := ⟨[(2,.ptr 0 0),(3,.ptr 8 0),(9,.ptr 16 0),(10,.ptr 24 0),(11,.ptr 32 0),(13,.ptr 40 0),(103,dI (c.top + 1)),(104,dI v),(15,dI v),(16,.ptr 48 0),(21,.val (.slice none 0 0)),(158,dI (c.dr + 1)),(159,dI 0)],[(0,crfC c),(8,airC a),(16,rotC c.r),(24,xC c (.vec 300 (rts c a A (v + 1)).length 1) (.vec 310 (rts c a E (v + 1)).length 1) (.vec 320 v 1)),(32,[dI A,dI B]),(40,[dI E,dI F]),(300,icells (rts c a A (v + 1))),(310,icells (rts c a E (v + 1))),(320,rowC W0),(48,[dI u,dI u])],700⟩) ?_ (hd _ ?_)
  · unfold dI crfC xC rotC airC
    refine wk_q [] [(0,0),(8,8),(16,16),(24,24),(32,32),(40,40),(300,300),(310,310),(320,320),(48,48)] ?_ ?_ <;> repeat' (first | exact trivial | exact vr_val _ | exact vr_list _ | exact vr_vec _ _ _ _ rfl | exact vr_ptr _ _ _ rfl | refine And.intro ⟨_,rfl,.inl ⟨_,rfl,by decide,?_⟩⟩ ?_ | apply And.intro | exact vrl_flat _ (by first | exact icells_in _ | exact rcells_in _ | exact scells_in _ | exact bcells_in _ | assumption) | fail)
  intro s' hw
  clear hd
  simp only [thenQ,blockQ,if_true,if_false,Nat.reduceEqDiff,reduceCtorEq]
  refine aw_wk hw ?_
  clear hw
  unfold xC
  refine aw_hide fun K hK => aw_region ?_
  simp (disch := first | exact okY | omega) only [ZU,Nat.reduceAdd,Nat.reduceMul,dI,AOpRun,aexec,Nat.reduceBEq,↓eget_h,run1,↓hget_h,↓reduceIte,fillD,D.isBot,D.cells,ne_eq,not_true_eq_false,Nat.reduceGT,or_self,splice,List.take,List.drop,base,Nat.mul_one,gw,Nat.le_refl,tw,elems,List.all,D.leaf,and_true,ups]
  refine ago_if (by omega) ?_
  simp (disch := first | exact okY | omega) only [ZU,ra,Nat.reduceAdd,Nat.reduceBEq,hdel_c,hdel_n,AOpRun,aexec,↓eget_h,↓hget_h,D.isBot,D.cells,Nat.reduceLeDiff,List.all,D.leaf,↓reduceIte,splice,List.take,List.drop]
  subst hK
  try simp only [thenQ,blockQ,if_true,if_false,Nat.reduceEqDiff,reduceCtorEq]
  refine hQ _ ?_
  try unfold xC
  try unfold crfC
  try unfold rotC
  try unfold airC
  unfold dI
  refine wk_q [] [(0,0),(8,8),(16,16),(24,24),(32,32),(40,40),(300,300),(310,310),(320,956)] ?_ ?_ <;> repeat' (first | exact trivial | exact vr_val _ | exact vr_list _ | exact vr_vec _ _ _ _ rfl | exact vr_ptr _ _ _ rfl | refine And.intro ⟨_,rfl,.inl ⟨_,rfl,by decide,?_⟩⟩ ?_ | apply And.intro | exact vrl_flat _ (by first | exact icells_in _ | exact rcells_in _ | exact scells_in _ | exact bcells_in _ | assumption) | fail)
end Go.Proofs.YtbncpngjclabhaaGreat
/- engine: newCraft, where its checks pass (views last). No conditions. -/
namespace Go.Proofs.YtbncpngjclabhaaGreat
open Go Go.RowKit Lift

theorem ly_of {t : Tb} {x y : Int × Int} (h1 : liesB t.x x = true) (h2 : liesB t.y y = true) : lyB t x y = true := by
  rw [liesB_is] at h1 h2
  simp only [Bool.and_eq_true,decide_eq_true_eq] at h1 h2
  simp only [lyB,Bool.and_eq_true,decide_eq_true_eq]
  omega
theorem lim_len {t : Tb} {lo hi : Int} (h : limB t lo hi = true) : 2 ≤ t.x.length ∧ t.x.length ≤ 12 ∧ 2 ≤ t.y.length ∧ t.y.length ≤ 12 := by
  have := limB_tbl h
  exact ⟨this.ax.two,this.ax.twelve,this.ay.two,this.ay.twelve⟩
theorem newCraft_ac (c : Crf) (a : Air) (h : CrOk c a) : AC Tryz.prog 66 [.agg (crfC c),airD a] [] [] (.tup [.at_ (crX c a),dI 0]) := by
  refine kengine_newCraft.ac (n0 := 0) (by simp) ⟨.agg _ (wals_in (c := crfC c) rfl),in_airD _ _,trivial⟩ trivial rfl ?_
  have hi := crB_in h.b
  have htp := wI_t hi.t
  have c1 := engCheckCraft_ac c a h
  have c2 := fun k hk => airL_gd a h.air k hk
  have al : (sps (airL a)).length = 4 := rfl
  have ha2 : (airL a).length = 4 := rfl
  have aa := sps_all (airL a)
  have ag := fun k hk => sps_gd2 (airL a) k hk
  have t3 := lim_len ((rotE_is h.rot).lim 3 (by omega))
  have t2 := lim_len ((rotE_is h.rot).lim 2 (by omega))
  have t5 := lim_len ((rotE_is h.rot).lim 5 (by omega))
  have v0 := spVB_t (c2 0 (by omega))
  have v1 := spVB_t (c2 1 (by omega))
  have v2 := spVB_t (c2 2 (by omega))
  have p1 := engLies_ac c.r.d.x a.t (Nat.le_trans (by omega) t3.1) (Nat.le_trans t3.2.1 (by omega)) h.p1 v1.2.1
  have p2 := engLies_ac c.r.d.y a.h (Nat.le_trans (by omega) t3.2.2.1) (Nat.le_trans t3.2.2.2 (by omega)) h.p2 v2.2.1
  have p3 := engLies_ac c.r.c.y a.w (Nat.le_trans (by omega) t2.2.2.1) (Nat.le_trans t2.2.2.2 (by omega)) h.p3 v0.2.1
  have p4 := engLies_ac c.r.f.y a.w (Nat.le_trans (by omega) t5.2.2.1) (Nat.le_trans t5.2.2.2 (by omega)) h.p4 v0.2.1
  have ch := roHas_ac c.r a h.sm h.rot h.air (ly_of h.p1 h.p2)
  have cp := partS_ac (hasR c.r a) c.one 100
  have hX : crX c a = xC c (.list (ints (rts c a (hasR c.r a).1 (topN c)))) (.list (ints (rts c a (partR (hasR c.r a) c.one 100).1.1 (topN c)))) (.list (blss (wks c a (topN c)))) := rfl
  rw [hX]
  have sp := nc_speed c a h
  obtain ⟨N,hN⟩ : ∃ N : Nat,c.top + 1 = (N : Int) := ⟨(c.top + 1).toNat,by omega⟩
  have hNt : topN c = N := by unfold topN; omega
  rw [hNt]
  clear hX t2 t3 t5 v0 v1 v2
  unfold spD at cp
  generalize hasR c.r a = hs at *
  obtain ⟨A,B⟩ := hs
  generalize partR (A,B) c.one 100 = pp at *
  obtain ⟨⟨E,F⟩,G⟩ := pp
  simp only at *
  unfold cengine_newCraft
  unfold rotD rotC airD at *
  unfold airC at *
  refine aw_seq (aw_hide fun K hK => aw_region ?_)
  simp (disch := first | exact okY | omega) only [ZU,Nat.reduceAdd,Nat.reduceMul,dI,AOpRun,aexec,D.isBot,↓eget_h,or_self,↓reduceIte,D.cells,Nat.reduceBEq]
  subst hK
  simp only [thenQ,blockQ,if_true,if_false,Nat.reduceEqDiff,reduceCtorEq]
  unfold crfC at c1
  unfold crfC
  refine aw_seq (aw_seq (aw_hide fun K hK => aw_region ?_))
  simp (disch := first | exact okY | omega) only [ZU,Nat.reduceAdd,Nat.reduceMul,dI,AOpRun,aexec,Nat.reduceBEq,↓eget_h,Nat.reduceLeDiff,↓reduceIte,List.drop,List.take]
  refine acall0 c1 ?_
  simp (disch := first | exact okY | omega) only [ZU,Nat.reduceAdd,dI,Nat.reduceBEq,AOpRun,aexec,↓eget_h]
  subst hK
  simp only [thenQ,blockQ,if_true,if_false,Nat.reduceEqDiff,reduceCtorEq]
  refine aw_seq (aw_hide fun K hK => aw_region ?_)
  simp (disch := first | exact okY | omega) only [ZU,Nat.reduceAdd,Nat.reduceMul,AOpRun,aexec,Nat.reduceBEq,↓eget_h,isSh,↓reduceIte,abin,bne_self_eq_false]
  subst hK
  refine aw_condF rfl (aw_skip ?_)
  simp only [thenQ,blockQ,if_true,if_false,Nat.reduceEqDiff,reduceCtorEq]
  clear c1
  refine aw_seq (aw_seq (aw_hide fun K hK => aw_region ?_))
  simp (disch := first | exact okY | omega) only [ZU,Nat.reduceAdd,Nat.reduceMul,AOpRun,aexec,Nat.reduceBEq,↓eget_h,↓hget_h,Nat.reduceLeDiff,↓reduceIte,List.drop,List.take,fillD,D.isBot,D.cells,ne_eq,not_true_eq_false,Nat.reduceGT,or_self,splice,cast_lit]
  subst hK
  simp only [thenQ,blockQ,if_true,if_false,Nat.reduceEqDiff,reduceCtorEq]
  refine aw_wk (s' := ⟨[(2,.ptr 0 0),(3,.ptr 8 0),(38,.list (sps (airL a))),(39,dI (4 : Nat)),(40,dI (0 : Nat))],[(0,crfC c),(8,airC a)],600⟩) ?_ ?_
  · unfold dI crfC airC
    refine wk_q [136] [(0,0),(8,8)] ?_ ?_ <;> repeat' (first | exact trivial | exact vr_val _ | exact vr_list _ | exact vr_ptr _ _ _ rfl | refine vr_fl _ _ _ _ _ (by decide) rfl ?_ ?_ ?_ ?_ | refine And.intro ⟨_,rfl,.inl ⟨_,rfl,by decide,?_⟩⟩ ?_ | apply And.intro)
    all_goals first | exact sps_two _ | rfl | (refine wals_in ?_; rfl)
  refine aw_block (aw_loop (fun k : Nat => ⟨[(2,.ptr 0 0),(3,.ptr 8 0),(38,.list (sps (airL a))),(39,dI (4 : Nat)),(40,dI k)],[(0,crfC c),(8,airC a)],600⟩) (fun k => k ≤ 4) (fun k => 4 - k) ⟨0,by omega,?_⟩ ?_)
  · unfold dI crfC airC
    refine wk_q [] [(0,0),(8,8)] ?_ ?_ <;> repeat' (first | exact trivial | exact vr_val _ | exact vr_list _ | exact vr_ptr _ _ _ rfl | refine And.intro ⟨_,rfl,.inl ⟨_,rfl,by decide,?_⟩⟩ ?_ | apply And.intro)
  intro k hk
  unfold crfC airC
  by_cases hk2 : k < 4
  case pos =>
    have g1 := ag k (by omega)
    have hs := scheck_ac ((airL a)[k]?.getD (0,0))
    rw [c2 k hk2,if_pos rfl] at hs
    have ki : (k : Int) < ((4 : Nat) : Int) := by omega
    have ki4 : (k : Int) < 4 := by omega
    clear c2 ag p1 p2 p3 p4 ch cp sp
    generalize (airL a)[k]?.getD (0,0) = x at *
    clear ha2
    generalize airL a = L at *
    refine aw_seq (aw_hide fun K hK => aw_region ?_)
    simp (disch := first | exact okY | omega) only [ZU,Nat.reduceMul,Nat.reduceAdd,dI,cast_lit,AOpRun,aexec,Nat.reduceBEq,↓eget_h,isSh,↓reduceIte,abin,ki4]
    subst hK
    refine aw_seq (aw_condT rfl (aw_skip ?_))
    simp only [thenQ,blockQ,if_true,if_false,Nat.reduceEqDiff,reduceCtorEq]
    refine aw_seq (aw_block (aw_seq (aw_hide fun K hK => aw_region ?_)))
    simp (disch := first | exact okY | omega) only [ZU,Nat.reduceAdd,Nat.reduceMul,AOpRun,aexec,Nat.reduceBEq,↓eget_h,aa,↓reduceIte,opt1,g1,dI,Nat.reduceLeDiff,List.take,↓hget_h,D.isBot,D.cells,List.all,D.leaf,splice,List.drop]
    subst hK
    simp only [thenQ,blockQ,if_true,if_false,Nat.reduceEqDiff,reduceCtorEq]
    refine aw_seq (aw_hide fun K hK => aw_region ?_)
    simp (disch := first | exact okY | omega) only [ZU,Nat.reduceAdd,Nat.reduceMul,AOpRun,aexec,Nat.reduceBEq,↓eget_h,↓hget_h,Nat.reduceLeDiff,↓reduceIte,List.drop,List.take,fillD,D.isBot,D.cells,ne_eq,not_true_eq_false,Nat.reduceGT,or_self,splice]
    refine acall hs [648] ⟨.vec 648 1 2 (scells [x]) (sps [x]) (by simp) rfl (Nat.le_of_ble_eq_true rfl) (sps_two _) rfl rfl (scells_in _),trivial⟩ (.inr (.val _)) (by intro g hg; simp at hg; subst hg; exact ⟨_,rfl⟩) (by kernel_rfl) ?_
    simp (disch := first | exact okY | omega) only [ZU,Nat.reduceAdd,dI,Nat.reduceBEq,AOpRun,aexec,↓eget_h,isSh,↓reduceIte,abin,bne_self_eq_false]
    subst hK
    refine aw_condF rfl (aw_skip ?_)
    simp only [thenQ,blockQ,if_true,if_false,Nat.reduceEqDiff,reduceCtorEq]
    refine aw_hide fun K hK => aw_region ?_
    simp (disch := first | exact okY | omega) only [ZU,Nat.reduceAdd,Nat.reduceMul,AOpRun,aexec,Nat.reduceBEq,↓eget_h,isSh,↓reduceIte,abin,fits]
    subst hK
    refine ⟨k + 1,by omega,by omega,?_⟩
    try unfold crfC
    try unfold airC
    refine wk_q [] [(0,0),(8,8)] ?_ ?_ <;> repeat' (first | exact trivial | exact vr_val _ | exact vr_list _ | exact vr_ptr _ _ _ rfl | refine And.intro ⟨_,rfl,.inl ⟨_,rfl,by decide,?_⟩⟩ ?_ | apply And.intro)
  obtain rfl : k = 4 := by omega
  clear c2 ag al aa
  refine aw_seq (aw_hide fun K hK => aw_region ?_)
  simp (disch := first | exact okY | omega) only [ZU,Nat.reduceMul,Nat.reduceAdd,dI,cast_lit,AOpRun,aexec,Nat.reduceBEq,↓eget_h,isSh,↓reduceIte,abin,Int.lt_irrefl,decide_false]
  subst hK
  refine aw_seq (aw_condF rfl (aw_exit ?_))
  simp only [thenQ,blockQ,if_true,if_false,Nat.reduceEqDiff,reduceCtorEq]
  refine aw_seq (aw_hide fun K hK => aw_region ?_)
  simp (disch := first | exact okY | omega) only [ZU,Nat.reduceAdd,Nat.reduceMul,AOpRun,aexec,↓eget_h,Nat.reduceBEq,Nat.reduceLeDiff,↓reduceIte,List.drop,List.take,↓hget_h,D.isBot,D.cells,List.all,D.leaf,splice]
  subst hK
  simp only [thenQ,blockQ,if_true,if_false,Nat.reduceEqDiff,reduceCtorEq]
  refine aw_seq (aw_seq (aw_hide fun K hK => aw_region ?_))
  simp (disch := first | exact okY | omega) only [ZU,Nat.reduceAdd,Nat.reduceMul,AOpRun,aexec,Nat.reduceBEq,↓eget_h,run1,↓hget_h,Nat.reduceLeDiff,↓reduceIte,List.drop,List.take]
  refine acall0 p1 ?_
  simp (disch := first | exact okY | omega) only [ZU,Nat.reduceAdd,dB,Nat.reduceBEq,AOpRun,aexec,↓eget_h,ARun_some,AG_ff,run1,↓hget_h,Nat.reduceLeDiff,↓reduceIte,List.drop,List.take]
  refine acall0 p2 ?_
  simp (disch := first | exact okY | omega) only [ZU,Nat.reduceAdd,dB,Nat.reduceBEq,ARun_some,↓eget_h,AG_ff,AOpRun,aexec,↓reduceIte,run1,↓hget_h,Nat.reduceLeDiff,List.drop,List.take]
  refine acall0 p3 ?_
  simp (disch := first | exact okY | omega) only [ZU,Nat.reduceAdd,dB,Nat.reduceBEq,ARun_some,↓eget_h,AG_ff,AOpRun,aexec,↓reduceIte,run1,↓hget_h,Nat.reduceLeDiff,List.drop,List.take]
  refine acall0 p4 ?_
  simp (disch := first | exact okY | omega) only [ZU,Nat.reduceAdd,dB,Nat.reduceBEq,ARun_some,↓eget_h,AG_ff,AOpRun,aexec,↓reduceIte]
  subst hK
  refine aw_condF rfl (aw_skip ?_)
  simp only [thenQ,blockQ,if_true,if_false,Nat.reduceEqDiff,reduceCtorEq]
  clear p1 p2 p3 p4
  refine aw_seq (aw_hide fun K hK => aw_region ?_)
  simp (disch := first | exact okY | omega) only [ZU,Nat.reduceAdd,Nat.reduceMul,AOpRun,aexec,↓eget_h,Nat.reduceBEq,Nat.reduceLeDiff,↓reduceIte,List.drop,List.take,fillD,D.isBot,D.cells,ne_eq,not_true_eq_false,Nat.reduceGT,or_self,splice]
  subst hK
  simp only [thenQ,blockQ,if_true,if_false,Nat.reduceEqDiff,reduceCtorEq]
  refine aw_seq (aw_hide fun K hK => aw_region ?_)
  simp (disch := first | exact okY | omega) only [ZU,Nat.reduceAdd,Nat.reduceMul,AOpRun,aexec,Nat.reduceBEq,↓eget_h,↓hget_h,Nat.reduceLeDiff,↓reduceIte,List.drop,List.take]
  refine acall0 ch ?_
  simp (disch := first | exact okY | omega) only [ZU,Nat.reduceAdd,dI,Nat.reduceBEq,AOpRun,aexec,↓eget_h,opt1,Nat.reduceMul,↓reduceIte,↓hget_h,D.isBot,D.cells,Nat.reduceLeDiff,List.all,D.leaf,splice,List.take,List.drop]
  subst hK
  simp only [thenQ,blockQ,if_true,if_false,Nat.reduceEqDiff,reduceCtorEq]
  clear ch
  refine aw_seq (aw_hide fun K hK => aw_region ?_)
  simp (disch := first | exact okY | omega) only [ZU,Nat.reduceAdd,Nat.reduceMul,AOpRun,aexec,Nat.reduceBEq,↓eget_h,↓hget_h,Nat.reduceLeDiff,↓reduceIte,List.drop,List.take,run1]
  refine acall0 cp ?_
  simp (disch := first | exact okY | omega) only [ZU,Nat.reduceAdd,dI,Nat.reduceBEq,AOpRun,aexec,↓eget_h,opt1,Nat.reduceMul,↓reduceIte,↓hget_h,D.isBot,D.cells,Nat.reduceLeDiff,List.all,D.leaf,splice,List.take,List.drop]
  subst hK
  simp only [thenQ,blockQ,if_true,if_false,Nat.reduceEqDiff,reduceCtorEq]
  clear cp
  refine aw_seq (aw_seq (aw_hide fun K hK => aw_region ?_))
  simp (disch := first | exact okY | omega) only [ZU,Nat.reduceAdd,Nat.reduceMul,AOpRun,aexec,↓eget_h,Nat.reduceBEq,run1,isSh,↓reduceIte,abin,fits]
  subst hK
  simp only [thenQ,blockQ,if_true,if_false,Nat.reduceEqDiff,reduceCtorEq]
  have hbl := fun k => icells_in (rts c a A k)
  have hbl2 := fun k => icells_in (rts c a E k)
  have hbl3 := fun k => rowC_in (fun _ => False) (wks c a k)
  refine aw_block (aw_loop (fun k : Nat => ⟨[(2,.ptr 0 0),(3,.ptr 8 0),(9,.ptr 16 0),(10,.ptr 24 0),(11,.ptr 32 0),(13,.ptr 40 0),(103,dI (c.top + 1)),(104,dI k)],[(0,crfC c),(8,airC a),(16,rotC c.r),(24,xC c (.vec 300 (rts c a A k).length 1) (.vec 310 (rts c a E k).length 1) (.vec 320 k 1)),(32,[dI A,dI B]),(40,[dI E,dI F]),(300,icells (rts c a A k)),(310,icells (rts c a E k)),(320,rowC (wks c a k))],600⟩) (fun k => k ≤ N) (fun k => N - k) ⟨0,by omega,?_⟩ ?_)
  · have e1 : rts c a A 0 = [] := rfl
    have e2 : rts c a E 0 = [] := rfl
    have e3 : wks c a 0 = [] := rfl
    have e4 : icells [] = [] := rfl
    have e5 : rowC [] = [] := rfl
    have e6 : ([] : List Int).length = 0 := rfl
    rw [e1,e2,e3,e4,e5,e6]
    simp only [Int.natCast_zero]
    unfold xC crfC rotC airC dI
    refine wk_q [] [(0,0),(8,8),(16,624),(24,928),(32,992),(40,1072),(300,1200),(310,1210),(320,1220)] ?_ ?_ <;> repeat' (first | exact trivial | exact vr_val _ | exact vr_list _ | exact vr_ptr _ _ _ rfl | exact vr_nilv _ _ _ rfl | refine And.intro ⟨_,rfl,.inl ⟨_,rfl,by decide,?_⟩⟩ ?_ | refine And.intro ⟨_,rfl,.inr ⟨rfl,rfl,of_decide_eq_true (by kernel_rfl)⟩⟩ ?_ | apply And.intro)
  intro k hk
  have h1 := hbl k
  have h2 := hbl2 k
  have h3 := hbl3 k
  by_cases hlt : k < N
  case neg =>
    obtain rfl : k = N := by omega
    clear sp
    rw [hN]
    unfold crfC xC rotC airC
    refine aw_seq (aw_hide fun K hK => aw_region ?_)
    simp (disch := first | exact okY | omega) only [ZU,Nat.reduceMul,Nat.reduceAdd,dI,AOpRun,aexec,Nat.reduceBEq,↓eget_h,isSh,↓reduceIte,abin,Int.lt_irrefl,decide_false]
    subst hK
    refine aw_seq (aw_condF rfl (aw_exit ?_))
    simp only [thenQ,blockQ,if_true,if_false,Nat.reduceEqDiff,reduceCtorEq]
    refine aw_seq (aw_hide fun K hK => aw_region ?_)
    simp (disch := first | exact okY | omega) only [ZU,Nat.reduceAdd,Nat.reduceMul,AOpRun,aexec,Nat.reduceBEq,↓eget_h]
    subst hK
    simp only [thenQ,blockQ,if_true,if_false,Nat.reduceEqDiff,reduceCtorEq]
    refine aw_ret ?_
    have lA := rts_len c a A k
    have lE := rts_len c a E k
    have lW := wks_len c a k
    have tW := rowC_take (wks c a k)
    rw [lW] at tW
    try unfold xC
    try unfold dI
    (refine end_q [24,300,310,320] [] ?_ ?_ <;> repeat' (first | exact trivial | exact vr_val _ | apply vr_tup | apply And.intro))
    refine ⟨_,vwObj (by simp) rfl ?_ rfl,.at_ _⟩
    repeat' (first | exact trivial | exact Vw.refl _ | exact Vw.vec 300 _ 1 _ _ (by simp) rfl (by rw [icells_len]; omega) (ints_one _) (ints_len _) (by rw [ints_flat,Nat.mul_one,icl_take]) (icells_in _) | exact Vw.vec 310 _ 1 _ _ (by simp) rfl (by rw [icells_len]; omega) (ints_one _) (ints_len _) (by rw [ints_flat,Nat.mul_one,icl_take]) (icells_in _) | exact Vw.vec 320 _ 1 _ _ (by simp) rfl (by rw [rowC_len,lW]; omega) (blss_one _) (by rw [blss_len]; exact lW) (by rw [rowC_flat,Nat.mul_one,tW]) (rowC_in _ _) | refine And.intro ?_ ?_)
  have kN : (k : Int) < (N : Int) := by omega
  refine aw_seq (aw_hide fun K hK => aw_region ?_)
  rw [hN]
  simp (disch := first | exact okY | omega) only [ZU,Nat.reduceMul,Nat.reduceAdd,dI,AOpRun,aexec,Nat.reduceBEq,↓eget_h,isSh,↓reduceIte,abin,kN]
  subst hK
  refine aw_seq (aw_condT rfl (aw_skip ?_))
  simp only [thenQ,blockQ,if_true,if_false,Nat.reduceEqDiff,reduceCtorEq]
  refine aw_seq (aw_block (aw_wk (s' := ⟨[(2,.ptr 0 0),(3,.ptr 8 0),(9,.ptr 16 0),(10,.ptr 24 0),(11,.ptr 32 0),(13,.ptr 40 0),(103,dI (c.top + 1)),(104,dI k)],[(0,crfC c),(8,airC a),(16,rotC c.r),(24,xC c (.vec 300 (rts c a A k).length 1) (.vec 310 (rts c a E k).length 1) (.vec 320 k 1)),(32,[dI A,dI B]),(40,[dI E,dI F]),(300,icells (rts c a A k)),(310,icells (rts c a E k)),(320,rowC (wks c a k))],600⟩) ?_ (sp k (by omega) A B E F _ ?_)))
  · rw [hN]
    unfold xC crfC rotC airC dI
    refine wk_q [] [(0,0),(8,8),(16,16),(24,24),(32,32),(40,40),(300,300),(310,310),(320,320)] ?_ ?_ <;> repeat' (first | exact trivial | exact vr_val _ | exact vr_list _ | exact vr_vec _ _ _ _ rfl | exact vr_ptr _ _ _ rfl | refine And.intro ⟨_,rfl,.inl ⟨_,rfl,by decide,?_⟩⟩ ?_ | apply And.intro | exact vrl_flat _ (by first | exact icells_in _ | exact rcells_in _ | exact scells_in _ | exact bcells_in _ | assumption) | fail)
  intro s' hw
  simp only [thenQ,blockQ,if_true,if_false,Nat.reduceEqDiff,reduceCtorEq]
  refine aw_wk hw ?_
  clear hw sp
  refine aw_hide fun K hK => aw_region ?_
  simp (disch := first | exact okY | omega) only [ZU,Nat.reduceAdd,Nat.reduceMul,dI,AOpRun,aexec,Nat.reduceBEq,↓eget_h,isSh,↓reduceIte,abin,fits]
  subst hK
  refine ⟨k + 1,by omega,by omega,?_⟩
  have l1 := rts_len c a A (k + 1)
  have l2 := rts_len c a E (k + 1)
  have h1 := hbl (k + 1)
  have h2 := hbl2 (k + 1)
  have h3 := hbl3 (k + 1)
  unfold xC crfC rotC airC dI
  refine wk_q [] [(0,0),(8,8),(16,16),(24,24),(32,32),(40,40),(300,300),(310,310),(320,320)] ?_ ?_ <;> repeat' (first | exact trivial | exact vr_val _ | exact vr_list _ | exact vr_vec _ _ _ _ rfl | exact vr_ptr _ _ _ rfl | refine And.intro ⟨_,rfl,.inl ⟨_,rfl,by decide,?_⟩⟩ ?_ | apply And.intro | exact vrl_flat _ (by first | exact icells_in _ | exact rcells_in _ | exact scells_in _ | exact bcells_in _ | assumption) | fail)
end Go.Proofs.YtbncpngjclabhaaGreat
/- slices.Reverse over poses; the steps of a site as a function (with maps). No conditions. -/
namespace Go.Proofs.YtbncpngjclabhaaGreat
open Go Go.RowKit Lift

def psZ : Ps := ⟨0,0,0⟩
def rvN (l : List Ps) : Nat → List Ps
  | 0 => l
  | i + 1 => ((rvN l i).set i ((rvN l i)[l.length - 1 - i]?.getD psZ)).set (l.length - 1 - i) ((rvN l i)[i]?.getD psZ)
theorem rvN_len (l : List Ps) : ∀ i,(rvN l i).length = l.length
  | 0 => rfl
  | i + 1 => by simp [rvN,rvN_len l i]
theorem rvN_get (l : List Ps) : ∀ i,2 * i ≤ l.length → ∀ m,m < l.length → (rvN l i)[m]? = if m < i ∨ l.length - 1 - i < m then l[l.length - 1 - m]? else l[m]?
  | 0,_,m,hm => by rw [if_neg (by omega)]; rfl
  | i + 1,hi,m,hm => by
    have ih := rvN_get l i (by omega)
    have hl := rvN_len l i
    simp only [rvN]
    rw [List.getElem?_set,List.getElem?_set]
    by_cases h1 : l.length - 1 - i = m
    · rw [if_pos h1,if_pos (by simp [hl]; omega),if_pos (by omega)]
      have h2 := ih i (by omega)
      rw [if_neg (by omega)] at h2
      rw [h2,← h1,show l.length - 1 - (l.length - 1 - i) = i by omega]
      simp [show i < l.length by omega]
    · rw [if_neg h1]
      by_cases h3 : i = m
      · subst h3
        rw [if_pos rfl,if_pos (by omega),if_pos (by omega)]
        have h2 := ih (l.length - 1 - i) (by omega)
        rw [if_neg (by omega)] at h2
        rw [h2]
        simp [show l.length - 1 - i < l.length by omega]
      · rw [if_neg h3,ih m hm]
        by_cases h4 : m < i ∨ l.length - 1 - i < m
        · rw [if_pos h4,if_pos (by omega)]
        · rw [if_neg h4,if_neg (by omega)]
theorem rvN_end (l : List Ps) (i : Nat) (h1 : 2 * i ≤ l.length) (h2 : l.length ≤ 2 * i + 1) : rvN l i = l.reverse := by
  refine List.ext_getElem? fun m => ?_
  by_cases hm : m < l.length
  · rw [rvN_get l i h1 m hm,List.getElem?_reverse hm]
    by_cases h3 : m < i ∨ l.length - 1 - i < m
    · rw [if_pos h3]
    · rw [if_neg h3,show l.length - 1 - m = m by omega]
  · rw [List.getElem?_eq_none (by rw [rvN_len]; omega),List.getElem?_eq_none (by simp; omega)]
theorem pcl_at : ∀ (l : List Ps) (k : Nat),k < l.length → (((pcl l).drop (k * 3)).take 3) = [.val (.int .i64 (l[k]?.getD psZ).x),.val (.int .i64 (l[k]?.getD psZ).v),.val (.int .i64 (l[k]?.getD psZ).h)]
  | [],k,h => by simp at h
  | p :: l,0,_ => rfl
  | p :: l,k + 1,h => by
    have := pcl_at l k (by simpa using h)
    rw [show (k + 1) * 3 = k * 3 + 3 by omega]
    simpa [pcl] using this
theorem pcl_set : ∀ (l : List Ps) (k : Nat) (q : Ps),k < l.length → (pcl l).take (k * 3) ++ [.val (.int .i64 q.x),.val (.int .i64 q.v),.val (.int .i64 q.h)] ++ (pcl l).drop (k * 3 + 3) = pcl (l.set k q)
  | [],k,q,h => by simp at h
  | p :: l,0,q,_ => rfl
  | p :: l,k + 1,q,h => by
    have := pcl_set l k q (by simpa using h)
    rw [show (k + 1) * 3 = k * 3 + 3 by omega]
    simp only [pcl,List.set_cons_succ]
    rw [← this]
    simp
theorem rev_ac (l : List Ps) (h0 : 0 < l.length) (hl : l.length ≤ 1000000) : AC Tryz.prog 68 [.vec 128 l.length 3] [(128,pcl l)] [(128,some (pcl l.reverse))] (.tup []) := by
  refine kslices_Reverse_L_L_Japi_Pose_Kapi_Pose_J.ac (n0 := 200) (by simp) ⟨.vec _ _ _ (by omega),trivial⟩ ⟨⟨by omega,pcl_in _ l⟩,trivial⟩ (by cases l with | nil => simp at h0 | cons p l => rfl) ?_
  unfold cslices_Reverse_L_L_Japi_Pose_Kapi_Pose_J
  (repeat' (first | (with_reducible first | refine thenQ_n ?_ | refine blockQ_n ?_ | refine thenQ_e ?_ | refine blockQ_t ?_ | refine blockQ_f (by decide) ?_) | apply aw_seq | apply aw_skip | apply aw_exit | apply aw_ret | apply aw_block | apply aw_condT rfl | apply aw_condF rfl | ((first | refine aw_hide fun K hK => aw_region ?_ | refine ago_if (by omega) ?_ | skip); simp (disch := first | exact okY | omega) only [ZU,Nat.reduceAdd,Nat.reduceMul,AOpRun,aexec,↓eget_h,Nat.reduceBEq,isSh,↓reduceIte,abin,fits]) | subst hK))
  refine aw_loop (fun i : Nat => ⟨[(0,.vec 128 l.length 3),(2,dI i),(3,dI ((l.length : Int) - 1 - i))],[(128,pcl (rvN l i))],400⟩) (fun i => 2 * i ≤ l.length) (fun i => l.length - i) ⟨0,by omega,?_⟩ ?_
  · unfold dI
    simp only [Int.natCast_zero,Int.sub_zero]
    refine wk_q [] [(128,128)] ?_ ?_ <;> repeat' (first | exact trivial | exact vr_val _ | exact vr_vec _ _ _ _ rfl | refine And.intro ⟨_,rfl,.inl ⟨_,rfl,by decide,?_⟩⟩ ?_ | apply And.intro | exact vrl_flat _ (by first | exact pcl_in _ _ | exact icells_in _ | exact rcells_in _ | exact scells_in _ | exact bcells_in _ | assumption))
  intro i hi
  have hll := rvN_len l i
  have hcl := pcl_len (rvN l i)
  rw [hll] at hcl
  by_cases hc : i < l.length - 1 - i
  · obtain ⟨j,hj⟩ : ∃ j : Nat,l.length - 1 - i = j := ⟨_,rfl⟩
    have ej : (l.length : Int) - 1 - i = (j : Int) := by omega
    have q1 : decide ((i : Int) < (j : Int)) = true := decide_eq_true (by omega)
    have g1 := pcl_at (rvN l i) i (by omega)
    have g2 := pcl_at (rvN l i) j (by omega)
    have s1 := pcl_set (rvN l i) i ((rvN l i)[j]?.getD psZ) (by omega)
    have s2 := pcl_set ((rvN l i).set i ((rvN l i)[j]?.getD psZ)) j ((rvN l i)[i]?.getD psZ) (by simp; omega)
    have er : ((rvN l i).set i ((rvN l i)[j]?.getD psZ)).set j ((rvN l i)[i]?.getD psZ) = rvN l (i + 1) := by subst hj; rfl
    have hc2 := pcl_len ((rvN l i).set i ((rvN l i)[j]?.getD psZ))
    rw [List.length_set,hll] at hc2
    rw [er] at s2
    have ki : (i : Int) < (l.length : Int) := by omega
    have kj : (j : Int) < (l.length : Int) := by omega
    have b1 : i * 3 + 3 ≤ (pcl (rvN l i)).length := by omega
    have b2 : j * 3 + 3 ≤ (pcl (rvN l i)).length := by omega
    have b3 : j * 3 + 3 ≤ (pcl ((rvN l i).set i ((rvN l i)[j]?.getD psZ))).length := by omega
    simp only [ej]
    generalize (rvN l i)[j]?.getD psZ = x at *
    generalize (rvN l i)[i]?.getD psZ = y at *
    (repeat' (first | (with_reducible first | refine thenQ_n ?_ | refine blockQ_n ?_ | refine thenQ_e ?_ | refine blockQ_t ?_ | refine blockQ_f (by decide) ?_) | apply aw_seq | apply aw_skip | apply aw_exit | apply aw_ret | apply aw_block | apply aw_condT rfl | apply aw_condF rfl | ((first | refine aw_hide fun K hK => aw_region ?_ | refine ago_if (by omega) ?_ | skip); simp (disch := first | exact okY | omega) only [ZU,Nat.reduceAdd,Nat.reduceMul,dI,AOpRun,aexec,Nat.reduceBEq,↓eget_h,isSh,↓reduceIte,abin,q1,kj,b2,g2,ki,b1,g1,D.isBot,D.cells,List.all,D.leaf,splice,s1,b3,s2,fits]) | subst hK))
    refine ⟨i + 1,by omega,by omega,?_⟩
    have e1 : (l.length : Int) - 1 - (i + 1 : Nat) = (j : Int) - 1 := by omega
    simp only [e1]
    refine wk_q [] [(128,128)] ?_ ?_ <;> repeat' (first | exact trivial | exact vr_val _ | exact vr_vec _ _ _ _ rfl | refine And.intro ⟨_,rfl,.inl ⟨_,rfl,by decide,?_⟩⟩ ?_ | apply And.intro | exact vrl_flat _ (by first | exact pcl_in _ _ | exact icells_in _ | exact rcells_in _ | exact scells_in _ | exact bcells_in _ | assumption))
  · have q1 : decide ((i : Int) < (l.length : Int) - 1 - i) = false := decide_eq_false (by omega)
    have e := rvN_end l i hi (by omega)
    rw [e]
    (repeat' (first | (with_reducible first | refine thenQ_n ?_ | refine blockQ_n ?_ | refine thenQ_e ?_ | refine blockQ_t ?_ | refine blockQ_f (by decide) ?_) | apply aw_seq | apply aw_skip | apply aw_exit | apply aw_ret | apply aw_block | apply aw_condT rfl | apply aw_condF rfl | ((first | refine aw_hide fun K hK => aw_region ?_ | refine ago_if (by omega) ?_ | skip); simp (disch := first | exact okY | omega) only [ZU,Nat.reduceAdd,Nat.reduceMul,dI,AOpRun,aexec,Nat.reduceBEq,↓eget_h,isSh,↓reduceIte,abin,q1]) | subst hK))
    all_goals (refine end_q [] [(128,128)] ?_ ?_ <;> repeat' (first | exact trivial | apply vr_tup | refine And.intro ⟨_,rfl,_,rfl,by decide,?_⟩ ?_ | exact vrl_flat _ (by first | exact pcl_in _ _ | exact icells_in _ | exact rcells_in _ | exact scells_in _ | exact bcells_in _ | assumption)))
theorem rev0_ac : AC Tryz.prog 68 [.list []] [] [] (.tup []) := by
  refine kslices_Reverse_L_L_Japi_Pose_Kapi_Pose_J.ac (n0 := 200) (by simp) ⟨.list _,trivial⟩ trivial rfl ?_
  unfold cslices_Reverse_L_L_Japi_Pose_Kapi_Pose_J
  have e0 : (([] : List (List D)).length : Int) = 0 := rfl
  (repeat' (first | (with_reducible first | refine thenQ_n ?_ | refine blockQ_n ?_ | refine thenQ_e ?_ | refine blockQ_t ?_ | refine blockQ_f (by decide) ?_) | apply aw_seq | apply aw_skip | apply aw_exit | apply aw_ret | apply aw_block | apply aw_condT rfl | apply aw_condF rfl | ((first | refine aw_hide fun K hK => aw_region ?_ | refine ago_if (by omega) ?_ | skip); simp (disch := first | exact okY | omega) only [ZU,Nat.reduceAdd,Nat.reduceMul,AOpRun,aexec,↓eget_h,Nat.reduceBEq,cast_lit,isSh,↓reduceIte,abin,Int.reduceSub,fits,Int.reduceNeg]) | subst hK))
  refine aw_loop (fun _ : Unit => ⟨[(0,.list []),(2,dI 0),(3,dI (-1))],[],400⟩) (fun _ => True) (fun _ => 0) ⟨(),trivial,?_⟩ ?_
  · unfold dI
    refine wk_q [] [] ?_ ?_ <;> repeat' (first | exact trivial | exact vr_val _ | exact vr_list _ | apply And.intro)
  rintro _ _
  have q1 : decide ((0 : Int) < -1) = false := rfl
  (repeat' (first | (with_reducible first | refine thenQ_n ?_ | refine blockQ_n ?_ | refine thenQ_e ?_ | refine blockQ_t ?_ | refine blockQ_f (by decide) ?_) | apply aw_seq | apply aw_skip | apply aw_exit | apply aw_ret | apply aw_block | apply aw_condT rfl | apply aw_condF rfl | ((first | refine aw_hide fun K hK => aw_region ?_ | refine ago_if (by omega) ?_ | skip); simp (disch := first | exact okY | omega) only [ZU,Nat.reduceAdd,Nat.reduceMul,dI,Int.reduceNeg,AOpRun,aexec,Nat.reduceBEq,↓eget_h,isSh,↓reduceIte,abin,Int.reduceLT,decide_false]) | subst hK))
  all_goals (refine end_q [] [] ?_ ?_ <;> repeat' (first | exact trivial | apply vr_tup))
theorem steps_ac (SL : List D) (p : Ps) (hs : SL.length = 5) (hin : ∀ S : Nat → Prop, ∀ d ∈ SL,In S d) (hb : SL.all D.leaf = true) : AC Tryz.prog 69 [.agg SL,.agg (psL p),dI 1] [] [(524,some SL),(525,some (psL p)),(526,some [dI 1])] (.fn 101 [] [.ptr 525 0,.ptr 524 0,.ptr 526 0]) := by
  refine kengine_site_steps.ac (n0 := 0) (by simp) ⟨.agg _ (hin _),.agg _ (dint_in _ rfl),.val _,trivial⟩ trivial rfl ?_
  unfold cengine_site_steps psL
  have hi0 := hin fun _ => False
  (repeat' (first | (with_reducible first | refine thenQ_n ?_ | refine blockQ_n ?_ | refine thenQ_e ?_ | refine blockQ_t ?_ | refine blockQ_f (by decide) ?_) | apply aw_seq | apply aw_skip | apply aw_exit | apply aw_ret | apply aw_block | apply aw_condT rfl | apply aw_condF rfl | ((first | refine aw_hide fun K hK => aw_region ?_ | refine ago_if (by omega) ?_ | skip); simp (disch := first | exact okY | omega) only [ZU,Nat.reduceAdd,Nat.reduceMul,dI,AOpRun,aexec,D.isBot,↓eget_h,or_self,↓reduceIte,D.cells,Nat.reduceBEq]) | subst hK))
  refine end_q [] [(524,0),(525,8),(526,16)] ?_ ?_ <;> repeat' (first | exact trivial | exact vr_val _ | exact vr_ptr _ _ _ rfl | apply vr_fn | refine And.intro ⟨_,rfl,_,rfl,by decide,?_⟩ ?_ | apply And.intro | exact vrl_flat _ (by first | exact pcl_in _ _ | exact icells_in _ | exact rcells_in _ | exact scells_in _ | exact bcells_in _ | assumption))
end Go.Proofs.YtbncpngjclabhaaGreat
/- The functions' bodies, translated. Written by a program; no conditions. -/
namespace Go.Proofs.YtbncpngjclabhaaGreat
open Go.RowKit Lift

def cengine_site_way_B100053 : ACode :=
 (.region false [oo 16 (.mem [(.val (.int .i64 0)),(.val (.int .i64 0)),(.val (.int .i64 0))]),
 on (.store 3 (.tmp 16) (.tmp 53))] [])
def cengine_site_way_B53 : ACode :=
 (.block 5
 (.seq
 (.region false [oo 55 (.load1 (.tmp 12)),
 oo 56 (.loadN 3 (.tmp 16)),
 oo 57 (.look [false,false,false] (.agg [(.val (.int .i64 0)),(.val (.int .i64 0)),(.val (.int .i64 0))]) true (.tmp 55) (.tmp 56)),
 om 54 57,
 oo 58 (.ext (.tmp 54) 0),
 oo 59 (.ext (.tmp 54) 1),
 oo 17 (.mem [(.val (.int .i64 0)),(.val (.int .i64 0)),(.val (.int .i64 0))]),
 on (.store 3 (.tmp 17) (.tmp 58)),
 om 18 59] [55,56,57,54,58,59,17])
 (.seq
 (.region false [om 60 18,
 oo 61 (.un .not (.tmp 60)),
 om 62 61,
 og 63 62 true (.load1 (.tmp 9)) [],
 og 64 62 true (.loadN 3 (.tmp 16)) [],
 og 65 62 true (.call (.tmp 63) [(.tmp 64)]) [],
 oo 66 (.pick (.tmp 62) (.tmp 65) (.const (.bool false)))] [60,61,62,63,64,65])
 (.cond (.tmp 66)
 (.seq
 (.region false [oo 67 (.load1 (.tmp 12)),
 oo 68 (.loadN 3 (.tmp 16)),
 oo 69 (.loadN 3 (.tmp 14)),
 on (.mset [false,false,false] (.tmp 67) (.tmp 68) (.tmp 69))] [67,68,69])
 (.region false [oo 70 (.load1 (.tmp 13)),
 oo 71 (.loadN 3 (.tmp 16)),
 oo 72 (.buildSl 3 1 [(.val (.int .i64 0)),(.val (.int .i64 0)),(.val (.int .i64 0))] [(0,3,(.tmp 71))]),
 oo 73 (.app 3 24 (.tmp 70) (.tmp 72)),
 on (.store 1 (.tmp 13) (.tmp 73))] [70,71,72,73]))
 .skip))))
def cengine_site_way : ACode :=
 (.seq
 (.region false [oo 5 (.box (.tmp 0)),
 oo 6 (.box (.tmp 1)),
 oo 9 (.box (.tmp 4)),
 oo 10 (.mv (.const (.slice none 0 0))),
 oo 11 (.mv (.const (.bool false)))] [])
 (.seq
 (.region false [oo 19 (.mkmap none),
 oo 20 (.loadN 3 (.tmp 6)),
 oo 21 (.loadN 3 (.tmp 6)),
 on (.mset [false,false,false] (.tmp 19) (.tmp 20) (.tmp 21)),
 om 22 19,
 oo 12 (.mem [(.val (.map none))]),
 on (.store 1 (.tmp 12) (.tmp 22))] [19,20,21,22])
 (.seq
 (.seq
 (.region false [oo 23 (.loadN 3 (.tmp 6)),
 oo 24 (.buildSl 3 1 [(.val (.int .i64 0)),(.val (.int .i64 0)),(.val (.int .i64 0))] [(0,3,(.tmp 23))]),
 oo 13 (.mem [(.val (.slice none 0 0))]),
 on (.store 1 (.tmp 13) (.tmp 24))] [23,24])
 (.block 0
 (.loop
 (.seq
 (.seq
 (.region false [oo 25 (.load1 (.tmp 13)),
 oo 26 (.len_ (.tmp 25)),
 oo 27 (.bin .gtr (.tmp 26) (kI 0))] [25,26])
 (.cond (.tmp 27)
 .skip
 (.exit 0)))
 (.seq
 (.block 1
 (.seq
 (.region false [oo 30 (.load1 (.tmp 13)),
 oo 31 (.iadS 3 (.tmp 30) (kI 0)),
 oo 32 (.loadN 3 (.tmp 31)),
 oo 14 (.mem [(.val (.int .i64 0)),(.val (.int .i64 0)),(.val (.int .i64 0))]),
 on (.store 3 (.tmp 14) (.tmp 32))] [30,31,32])
 (.seq
 (.seq
 (.region false [om 33 3,
 oo 34 (.loadN 3 (.tmp 14)),
 oo 35 (.call (.tmp 33) [(.tmp 34)])] [33,34])
 (.cond (.tmp 35)
 (.seq
 (.region false [oo 15 (.mv (.const (.slice none 0 0)))] [])
 (.seq
 (.block 2
 (.loop
 (.seq
 (.seq
 (.region false [oo 36 (.loadN 3 (.tmp 14)),
 oo 37 (.loadN 3 (.tmp 6)),
 oo 38 (.eqa true [false,false,false] (.tmp 36) (.tmp 37))] [36,37])
 (.cond (.tmp 38)
 .skip
 (.exit 2)))
 (.seq
 (.block 3
 (.region false [om 42 15,
 oo 43 (.loadN 3 (.tmp 14)),
 oo 44 (.buildSl 3 1 [(.val (.int .i64 0)),(.val (.int .i64 0)),(.val (.int .i64 0))] [(0,3,(.tmp 43))]),
 oo 45 (.app 3 24 (.tmp 42) (.tmp 44)),
 om 15 45] [42,43,44,45]))
 (.region false [oo 39 (.load1 (.tmp 12)),
 oo 40 (.loadN 3 (.tmp 14)),
 oo 41 (.look [false,false,false] (.agg [(.val (.int .i64 0)),(.val (.int .i64 0)),(.val (.int .i64 0))]) false (.tmp 39) (.tmp 40)),
 on (.store 3 (.tmp 14) (.tmp 41))] [39,40,41])))))
 (.seq
 (.region false [om 46 15,
 oo 47 (.call (.func 68) [(.tmp 46)])] [46,47])
 (.seq
 (.region false [om 48 15,
 om 10 48,
 oo 11 (.mv (.const (.bool true)))] [48])
 .ret))))
 .skip))
 (.seq
 (.region false [oo 49 (.loadN 5 (.tmp 5)),
 oo 50 (.loadN 3 (.tmp 14)),
 om 51 2,
 oo 52 (.call (.func 69) [(.tmp 49),(.tmp 50),(.tmp 51)])] [49,50,51])
 (.block 4
 (.rangeFuncA (.tmp 52) [53] cengine_site_way_B100053 cengine_site_way_B53))))))
 (.seq
 (.seq
 (.region false [oo 74 (.load1 (.tmp 13))] [])
 (.region false [oo 13 (.mem [(.val (.slice none 0 0))]),
 on (.store 1 (.tmp 13) (.tmp 74))] []))
 (.region false [oo 28 (.load1 (.tmp 13)),
 oo 29 (.slS 3 (.tmp 28) (some (kI 1)) none),
 on (.store 1 (.tmp 13) (.tmp 29))] [28,29])))))))
 (.seq
 (.region false [oo 10 (.mv (.const (.slice none 0 0))),
 oo 11 (.mv (.const (.bool false)))] [])
 .ret))))
theorem kengine_site_way : IsCode Tryz.prog 41 75 cengine_site_way [.tmp 10, .tmp 11] :=
 ⟨Tryz.f41,_,[66,53,52,38,35,27,0,1,4,6,13,3,14,15,12,5,2,16,18,9,74,10,11],Tryz.func41,rfl,by decide,rfl,by kernel_rfl,by kernel_rfl⟩
def cengine_site_stop : ACode :=
 (.seq
 (.region false [oo 2 (.box (.tmp 0)),
 oo 3 (.box (.tmp 1)),
 oo 4 (.mv (.const (.slice none 0 0))),
 oo 5 (.mv (.const (.bool false)))] [])
 (.seq
 (.region false [oo 6 (.loadN 5 (.tmp 2)),
 oo 7 (.loadN 3 (.tmp 3)),
 oo 8 (.loadN 5 (.tmp 2)),
 oo 9 (.mkfn 40 [(.tmp 8)] []),
 oo 10 (.call (.func 41) [(.tmp 6),(.tmp 7),(kI 1),(.tmp 9),(.func 42)]),
 oo 11 (.ext (.tmp 10) 0),
 oo 12 (.ext (.tmp 10) 1),
 om 4 11,
 om 5 12] [6,7,8,9,10,11,12])
 .ret))
theorem kengine_site_stop : IsCode Tryz.prog 18 13 cengine_site_stop [.tmp 4, .tmp 5] :=
 ⟨Tryz.f18,_,[0,1,2,3,4,5],Tryz.func18,rfl,by decide,rfl,by kernel_rfl,by kernel_rfl⟩
def cengine_found : ACode :=
 (.seq
 (.region false [oo 4 (.mv (.const (.slice none 0 0))),
 oo 5 (.mv (kI 0))] [])
 (.seq
 (.seq
 (.region false [om 6 1,
 oo 7 (.un .not (.tmp 6))] [6])
 (.cond (.tmp 7)
 (.seq
 (.region false [oo 4 (.mv (.const (.slice none 0 0))),
 oo 5 (.mv (kI 3))] [])
 .ret)
 .skip))
 (.seq
 (.region false [om 8 0,
 om 4 8,
 oo 5 (.mv (kI 0))] [8])
 .ret)))
theorem kengine_found : IsCode Tryz.prog 17 9 cengine_found [.tmp 4, .tmp 5] :=
 ⟨Tryz.f17,_,[7,1,0,4,5],Tryz.func17,rfl,by decide,rfl,by kernel_rfl,by kernel_rfl⟩
def cengine_Stop : ACode :=
 (.seq
 (.region false [oo 4 (.box (.tmp 0)),
 oo 5 (.box (.tmp 1)),
 oo 6 (.box (.tmp 2)),
 oo 7 (.box (.tmp 3)),
 oo 8 (.mv (.const (.slice none 0 0))),
 oo 9 (.mv (kI 0))] [])
 (.seq
 (.region false [oo 13 (.loadN 33 (.tmp 4)),
 oo 14 (.loadN 8 (.tmp 5)),
 oo 15 (.loadN 4 (.tmp 6)),
 oo 16 (.loadN 3 (.tmp 7)),
 oo 17 (.call (.func 16) [(.tmp 13),(.tmp 14),(.tmp 15),(.tmp 16)]),
 om 12 17,
 oo 18 (.ext (.tmp 12) 0),
 oo 19 (.ext (.tmp 12) 1),
 oo 10 (.mem [(.val (.pointer none)),(.val (.int .i64 0)),(.val (.int .i64 0)),(.val (.int .i64 0)),(.val (.slice none 0 0))]),
 on (.store 5 (.tmp 10) (.tmp 18)),
 om 11 19] [13,14,15,16,17,12,18,19])
 (.seq
 (.seq
 (.region false [om 20 11,
 oo 21 (.bin .neq (.tmp 20) (kI 0))] [20])
 (.cond (.tmp 21)
 (.seq
 (.region false [om 22 11,
 oo 8 (.mv (.const (.slice none 0 0))),
 om 9 22] [22])
 .ret)
 .skip))
 (.seq
 (.region false [oo 23 (.loadN 5 (.tmp 10)),
 oo 24 (.loadN 3 (.tmp 7)),
 oo 25 (.call (.func 18) [(.tmp 23),(.tmp 24)]),
 oo 26 (.ext (.tmp 25) 0),
 oo 27 (.ext (.tmp 25) 1),
 oo 28 (.call (.func 17) [(.tmp 26),(.tmp 27)]),
 oo 29 (.ext (.tmp 28) 0),
 oo 30 (.ext (.tmp 28) 1),
 om 8 29,
 om 9 30] [23,24,25,26,27,28,29,30])
 .ret))))
theorem kengine_Stop : IsCode Tryz.prog 7 31 cengine_Stop [.tmp 8, .tmp 9] :=
 ⟨Tryz.f7,_,[21,0,1,2,3,4,5,6,7,11,10,8,9],Tryz.func7,rfl,by decide,rfl,by kernel_rfl,by kernel_rfl⟩
end Go.Proofs.YtbncpngjclabhaaGreat
/- engine: a step is entered into what is known (with maps). No conditions. -/
namespace Go.Proofs.YtbncpngjclabhaaGreat
open Go Go.RowKit Lift

def hw (SL : List D) (f p : Ps) (L : List (Ps × Ps)) (r q : List Ps) : Hp := [(0,SL),(8,[dI f.x,dI f.v,dI f.h]),(16,[.fn 42 [] []]),(80,[.mp 40]),(40,[.val (mpV (enV L))]),(120,[.own 128 (r.length * 3) q.length 3]),(128,pcl (r ++ q)),(136,[dI p.x,dI p.v,dI p.h]),(524,SL),(525,[dI p.x,dI p.v,dI p.h]),(526,[dI 1])]
theorem asgPost {P : Program} {nb : Nat} {pin : List Nat} {cb : ACode} {Q Q' : AExit → St → Prop} (hq : ∀ e s,Q e s → ∃ s',Wk pin s s' ∧ Q' e s') : ∀ e s,AsgQ P nb pin cb Q e s → ∃ s',Wk pin s s' ∧ AsgQ P nb pin cb Q' e s' := fun _ s h => ⟨s,Wk.refl s,h.1,h.2.1,h.2.2.1,aw_post h.2.2.2 hq⟩
theorem pcl_mid (r q : List Ps) : ((pcl (r ++ q)).drop (r.length * 3)).take (q.length * 3) = pcl q := by
  rw [pcl_app,List.drop_left' (pcl_len r),List.take_of_length_le (by rw [pcl_len]; exact Nat.le_refl _)]
theorem pcl_head (r q : List Ps) : (pcl (r ++ q)).take (r.length * 3) = pcl r := by
  rw [pcl_app,List.take_left' (pcl_len r)]
theorem way_body (SL : List D) (hin : ∀ d ∈ SL,In (fun _ => False) d) (hy : SL.all (noY 9) = true) (f p x : Ps) (L : List (Ps × Ps)) (r q : List Ps) (hq : 0 < q.length) (hql : q.length ≤ 1000000) :
    AWb true Tryz.prog 75 [1000,0,8,16,80,120,136,525,524,526] cengine_site_way_B100053 (AsgQ Tryz.prog 75 [1000,0,8,16,80,120,136,525,524,526] cengine_site_way_B53 (fun e s => e = .norm ∧ ∃ r',Wk [1000,0,8,16,80,120,136,525,524,526] s ⟨[],hw SL f p (addQ p L x) r' (if pre L x = none then q ++ [x] else q),3000⟩))
      ⟨parE (envOf 0 [.bot,.bot,.bot,.bot,.bot,.bot,.bot,.bot,.bot,.ptr 16 0,.bot,.bot,.ptr 80 0,.ptr 120 0,.ptr 136 0]) [53] [.agg [dI x.x,dI x.v,dI x.h]],hw SL f p L r q,2000⟩ := by
  unfold cengine_site_way_B100053
  have hyp := pcl_noY (r ++ q)
  unfold hw
  refine aw_region ?_
  simp (disch := first | exact okY | omega) only [ZU,dI,Nat.reduceAdd,Nat.reduceMul,parE,Nat.reduceBEq,AOpRun,aexec,↓reduceIte,↓eget_h,↓hget_h,D.isBot,D.cells,Nat.reduceLeDiff,List.all,D.leaf,splice,List.take,List.drop]
  refine asgQ (by simp [hpY,noY,hy,hyp]) (by simp [noY]) ?_
  unfold cengine_site_way_B53
  refine aw_wk (s' := ⟨[(9,.ptr 16 0),(12,.ptr 80 0),(13,.ptr 120 0),(14,.ptr 136 0),(16,.ptr 3000 0)],[(0,SL),(8,[dI f.x,dI f.v,dI f.h]),(16,[.fn 42 [] []]),(80,[.mp 40]),(40,[.val (mpV (enV L))]),(120,[.own 128 (r.length * 3) q.length 3]),(128,pcl (r ++ q)),(136,[dI p.x,dI p.v,dI p.h]),(524,SL),(525,[dI p.x,dI p.v,dI p.h]),(526,[dI 1]),(3000,[dI x.x,dI x.v,dI x.h])],4000⟩) ?_ ?_
  · unfold dI
    refine wk_q [] [(1000,1000),(0,0),(8,8),(16,16),(80,80),(40,40),(120,120),(128,128),(136,136),(524,524),(525,525),(526,526),(3000,2000)] ?_ ?_ <;> repeat' (first | exact trivial | exact vr_val _ | exact vr_own _ _ _ _ _ rfl | exact vr_ptr _ _ _ rfl | apply vr_fn | refine And.intro ⟨_,rfl,.inl ⟨_,rfl,by decide,?_⟩⟩ ?_ | apply And.intro | exact vr_mp _ _ rfl | exact vrl_flat _ (by first | exact pcl_in _ _ | exact icells_in _ | exact rcells_in _ | exact scells_in _ | exact bcells_in _ | assumption) | fail)
  have hm := mf_pre x L
  have ca := anywhere_ac x
  unfold psL at ca
  unfold addQ
  cases hp : pre L x with
  | some y =>
    rw [hp] at hm
    simp only [reduceCtorEq,if_false]
    refine aw_block (aw_seq (aw_region ?_))
    simp (disch := first | exact okY | omega) only [ZU,Nat.reduceAdd,Nat.reduceMul,dI,AOpRun,aexec,run1,Nat.reduceBEq,↓eget_h,↓hget_h,Nat.reduceLeDiff,↓reduceIte,List.drop,List.take,entsH,entsC,unV_mp,D.isAgg,D.cells,isB,hm,psV,lookD,liftV,opt1,D.isBot,List.all,D.leaf,splice]
    refine aw_seq (aw_region ?_)
    simp (disch := first | exact okY | omega) only [ZU,Nat.reduceAdd,Nat.reduceMul,AOpRun,aexec,Nat.reduceBEq,↓eget_h,ARun_some,AG_ft,↓reduceIte]
    refine aw_condF rfl (aw_skip ?_)
    simp only [thenQ,blockQ,if_true,if_false,Nat.reduceEqDiff,reduceCtorEq]
    refine ⟨trivial,r,?_⟩
    refine wk_q [] [(1000,1000),(0,0),(8,8),(16,16),(80,80),(40,40),(120,120),(128,128),(136,136),(524,524),(525,525),(526,526)] ?_ ?_ <;> repeat' (first | exact trivial | exact vr_val _ | exact vr_own _ _ _ _ _ rfl | apply vr_fn | refine And.intro ⟨_,rfl,.inl ⟨_,rfl,by decide,?_⟩⟩ ?_ | apply And.intro | exact vr_mp _ _ rfl | exact vrl_flat _ (by first | exact pcl_in _ _ | exact icells_in _ | exact rcells_in _ | exact scells_in _ | exact bcells_in _ | assumption) | fail)
  | none =>
    rw [hp] at hm
    simp only [if_true]
    refine aw_block (aw_seq (aw_region ?_))
    simp (disch := first | exact okY | omega) only [ZU,Nat.reduceAdd,Nat.reduceMul,dI,AOpRun,aexec,run1,Nat.reduceBEq,↓eget_h,↓hget_h,Nat.reduceLeDiff,↓reduceIte,List.drop,List.take,entsH,entsC,unV_mp,D.isAgg,D.cells,isB,hm,lookD,opt1,D.isBot,List.all,D.leaf,splice]
    refine aw_seq (aw_region ?_)
    simp (disch := first | exact okY | omega) only [ZU,Nat.reduceAdd,Nat.reduceMul,AOpRun,aexec,Nat.reduceBEq,↓eget_h,ARun_some,AG_tt,run1,↓hget_h,Nat.reduceLeDiff,↓reduceIte,List.drop,List.take]
    refine acall0 ca ?_
    simp (disch := first | exact okY | omega) only [ZU,Nat.reduceAdd,dB,Nat.reduceBEq,AOpRun,aexec,↓eget_h,↓reduceIte]
    refine aw_condT rfl ?_
    refine aw_seq (aw_region ?_)
    have ev := enV_app L x p
    simp (disch := first | exact okY | omega) only [ZU,Nat.reduceAdd,Nat.reduceMul,AOpRun,aexec,run1,Nat.reduceBEq,↓eget_h,↓hget_h,Nat.reduceLeDiff,↓reduceIte,List.drop,List.take,entsH,entsC,unV_mp,valV,valC,D.isAgg,D.cells,isB,isNew,hm,ev]
    refine aw_region_sp [⟨some 70,.load1 (.tmp 13),none,[]⟩,
        ⟨some 71,.loadN 3 (.tmp 16),none,[]⟩,
        ⟨some 72,.buildSl 3 1 [(.val (.int .i64 0)),(.val (.int .i64 0)),(.val (.int .i64 0))] [(0,3,(.tmp 71))],none,[]⟩] [⟨none,.store 1 (.tmp 13) (.tmp 73),none,[]⟩] ?_
    simp (disch := first | exact okY | omega) only [ZU,Nat.reduceAdd,AOpRun,aexec,run1,Nat.reduceBEq,↓eget_h,↓hget_h,Nat.reduceLeDiff,↓reduceIte,List.drop,List.take,Nat.reduceMul,fillD,D.isBot,D.cells,ne_eq,not_true_eq_false,Nat.reduceGT,or_self,splice]
    have hcl := pcl_len (r ++ q)
    rw [List.length_append,Nat.add_mul] at hcl
    refine spApp (g := 128) (off := r.length * 3) (n := q.length) (m := 1) (cg := pcl (r ++ q)) (c' := [.val (.int .i64 x.x),.val (.int .i64 x.v),.val (.int .i64 x.h)]) rfl rfl (by omega) rfl (by omega) (by omega) (by omega) rfl rfl ?_
    rw [pcl_mid,pcl_head]
    rintro c hc
    obtain ⟨r',rfl⟩ : ∃ r',c = pcl r' := by rcases hc with rfl | rfl; exact ⟨[],rfl⟩; exact ⟨r,rfl⟩
    have e1 : pcl r' ++ (pcl q ++ [.val (.int .i64 x.x),.val (.int .i64 x.v),.val (.int .i64 x.h)]) = pcl (r' ++ (q ++ [x])) := by rw [pcl_app,pcl_app]; rfl
    have e2 := pcl_len r'
    have e3 : q.length + 1 = (q ++ [x]).length := by simp
    rw [e1,e2,e3]
    simp (disch := first | exact okY | omega) only [ZU,blockQ,Nat.reduceAdd,Nat.reduceMul,true_and,Nat.reduceBEq,ups,hdel_c,hdel_n,AOpRun,aexec,↓eget_h,↓hget_h,D.isBot,D.cells,Nat.reduceLeDiff,List.all,D.leaf,↓reduceIte,splice,List.take,List.drop]
    refine ⟨r',?_⟩
    refine wk_q [] [(1000,1000),(0,0),(8,8),(16,16),(80,80),(40,40),(120,120),(128,4184),(136,136),(524,524),(525,525),(526,526)] ?_ ?_ <;> repeat' (first | exact trivial | exact vr_val _ | exact vr_own _ _ _ _ _ rfl | apply vr_fn | refine And.intro ⟨_,rfl,.inl ⟨_,rfl,by decide,?_⟩⟩ ?_ | apply And.intro | exact vr_mp _ _ rfl | exact vrl_flat _ (by first | exact pcl_in _ _ | exact icells_in _ | exact rcells_in _ | exact scells_in _ | exact bcells_in _ | assumption) | fail)
end Go.Proofs.YtbncpngjclabhaaGreat
