/- Texts of the law TopDescends, part 9. No conditions. -/
import Derived.Test.YtbncpngjclabhaaGreatPTopDescends08
import Derived.Test.YtbncpngjclabhaaGreatRows
set_option linter.unusedSimpArgs false
set_option linter.unusedVariables false
set_option maxRecDepth 100000
set_option maxHeartbeats 16000000
/- Poses, steps and a search, in numbers. No conditions. -/
namespace Go.Proofs.YtbncpngjclabhaaGreat
open Go Go.RowKit Lift

structure Ps where
  x : Int
  v : Int
  h : Int
  deriving DecidableEq
def psL (p : Ps) : List D := [dI p.x,dI p.v,dI p.h]
def psV (p : Ps) : Value := .agg #[.int .i64 p.x,.int .i64 p.v,.int .i64 p.h]
def pss (l : List Ps) : List (List D) := l.map psL
def pcl : List Ps → List D
  | [] => []
  | p :: l => dI p.x :: dI p.v :: dI p.h :: pcl l
theorem pcl_flat : ∀ l : List Ps,(pss l).flatten = pcl l
  | [] => rfl
  | p :: l => by simp only [pss,List.map_cons,List.flatten_cons,pcl,psL]; rw [← pcl_flat l]; rfl
theorem pcl_app : ∀ a b : List Ps,pcl (a ++ b) = pcl a ++ pcl b
  | [],_ => rfl
  | p :: a,b => by simp only [List.cons_append,pcl,pcl_app a b]
theorem pcl_len : ∀ l : List Ps,(pcl l).length = l.length * 3
  | [] => rfl
  | p :: l => by simp only [pcl,List.length_cons,pcl_len l]; omega
theorem pcl_in (S : Nat → Prop) : ∀ l : List Ps, ∀ d ∈ pcl l,In S d
  | [],d,h => by cases h
  | p :: l,d,h => by
    simp only [pcl,List.mem_cons] at h
    rcases h with rfl | rfl | rfl | h
    · exact .val _
    · exact .val _
    · exact .val _
    · exact pcl_in S l d h
theorem pcl_noY : ∀ l : List Ps,(pcl l).all (noY 9) = true
  | [] => rfl
  | p :: l => by simp only [pcl,List.all_cons,pcl_noY l]; rfl
theorem pss_three (l : List Ps) : ∀ e ∈ pss l,e.length = 3 := by
  intro e he; obtain ⟨p,_,rfl⟩ := List.mem_map.1 he; rfl
theorem pss_len (l : List Ps) : (pss l).length = l.length := by simp [pss]
theorem pss_all (l : List Ps) : (pss l).all (fun x => x.length == 3) = true := by simp [pss,psL]
def enV (L : List (Ps × Ps)) : List (Value × Value) := L.map fun e => (psV e.1,psV e.2)
theorem enV_app (L : List (Ps × Ps)) (q p : Ps) : enV L ++ [(.agg #[.int .i64 q.x,.int .i64 q.v,.int .i64 q.h],.agg #[.int .i64 p.x,.int .i64 p.v,.int .i64 p.h])] = enV (L ++ [(q,p)]) := by simp [enV,psV]
def pre (L : List (Ps × Ps)) (q : Ps) : Option Ps := (L.find? fun e => decide (e.1 = q)).map (·.2)
theorem mf_pre (q : Ps) : ∀ L : List (Ps × Ps),mfind (enV L) [.val (.int .i64 q.x),.val (.int .i64 q.v),.val (.int .i64 q.h)] = some ((pre L q).map psV)
  | [] => rfl
  | e :: L => by
    have ih := mf_pre q L
    simp only [enV,List.map_cons,mfind,psV,pre,List.find?_cons] at ih ⊢
    have he : eqCells [.val (.int .i64 q.x),.val (.int .i64 q.v),.val (.int .i64 q.h)] [.val (.int .i64 e.1.x),.val (.int .i64 e.1.v),.val (.int .i64 e.1.h)] = some (decide (e.1 = q)) := by
      obtain ⟨x,v,h⟩ := q
      obtain ⟨⟨x',v',h'⟩,p⟩ := e
      simp only [eqCells,scalarEq,if_true,Ps.mk.injEq,Option.some.injEq,Bool.and_true]
      rw [Bool.eq_iff_iff]
      simp only [Bool.and_eq_true,beq_iff_eq,decide_eq_true_eq]
      omega
    simp only [List.map_cons,List.map_nil,he]
    by_cases hq : e.1 = q
    · simp [hq]; rfl
    · simp only [hq,decide_false]
      exact ih
structure Ste where
  top : Int
  drop : Int
  touch : Int
  sink : Int
  len : Int
  R : List Int
  W : List (List Bool)
  hind : List (Int × Int)
def bls (l : List Bool) : List (List D) := l.map fun b => [.val (.bool b)]
def blss (W : List (List Bool)) : List (List D) := W.map fun r => [.list (bls r)]
theorem bls_all (l : List Bool) : (bls l).all (fun x => x.length == 1) = true := by simp [bls]
theorem blss_all (l : List (List Bool)) : (blss l).all (fun x => x.length == 1) = true := by simp [blss]
theorem bls_gd (l : List Bool) (k : Nat) (h : k < l.length) : (bls l)[k]? = some [.val (.bool (l[k]?.getD false))] := by simp [bls,h]
theorem blss_gd (W : List (List Bool)) (k : Nat) (h : k < W.length) : (blss W)[k]? = some [.list (bls (W[k]?.getD []))] := by simp [blss,h]
def wat (W : List (List Bool)) (v d : Int) : Bool := (W[v.toNat]?.getD [])[d.toNat]?.getD false
def rat (R : List Int) (v : Int) : Int := R[v.toNat]?.getD 0
structure SteOk (s : Ste) : Prop where
  t1 : 1 ≤ s.top
  t2 : s.top ≤ 6
  d1 : 1 ≤ s.drop
  d2 : s.drop ≤ 3
  k1 : 0 ≤ s.sink
  k2 : s.sink ≤ 3
  r : s.R.length = (s.top + 1).toNat
  w : s.W.length = (s.top + 1).toNat
  wr : ∀ k : Nat,k < s.W.length → (s.W[k]?.getD []).length = (s.drop + 1).toNat
  h : s.hind.length ≤ 6
structure PsOk (s : Ste) (p : Ps) : Prop where
  x1 : -40 ≤ p.x
  x2 : p.x ≤ 40
  v1 : 0 ≤ p.v
  v2 : p.v ≤ s.top
  h1 : 0 ≤ p.h
  h2 : p.h ≤ 12
def downB (s : Ste) (p : Ps) : Bool := decide (p.h = 0) && (decide (p.v ≤ s.touch) && wI p.x 0 s.len)
def hitB (p q : Ps) (h : Int × Int) : Bool := wI h.1 p.x q.x && decide (mn2 p.h q.h < h.2)
def clearB (s : Ste) (p q : Ps) : Bool := !(s.hind.any (hitB p q))
def endsB (s : Ste) (p q : Ps) : Bool := decide (q.h = 0) && (decide (p.h = 0) || (decide (p.h > s.sink) || !downB s q))
def sinksB (s : Ste) (p q : Ps) : Bool := decide (q.h > 0) && (decide (q.h < p.h) && wat s.W q.v (p.h - q.h))
def okB (s : Ste) (p q : Ps) : Bool := decide (q.x ≤ 40) && (!endsB s p q && (!sinksB s p q && clearB s p q))
def loV (p : Ps) : Int := mx2 0 (p.v - 1)
def hiV (s : Ste) (p : Ps) : Int := mn2 s.top (p.v + 1)
def loH (s : Ste) (p : Ps) : Int := mx2 0 (p.h - s.drop)
def hiH (s : Ste) (p : Ps) (v : Int) : Int := mn2 12 (IntKind.i64.wrap (p.h + rat s.R v))
def stH (s : Ste) (p : Ps) (v : Int) : Nat → List Ps
  | 0 => []
  | n + 1 => stH s p v n ++ (if okB s p ⟨p.x + v,v,loH s p + n⟩ = true then [⟨p.x + v,v,loH s p + n⟩] else [])
def nH (s : Ste) (p : Ps) (v : Int) : Nat := (hiH s p v + 1 - loH s p).toNat
def stV (s : Ste) (p : Ps) : Nat → List Ps
  | 0 => []
  | m + 1 => stV s p m ++ stH s p (loV p + m) (nH s p (loV p + m))
def nV (s : Ste) (p : Ps) : Nat := (hiV s p + 1 - loV p).toNat
def stepsL (s : Ste) (p : Ps) : List Ps := stV s p (nV s p)
def addQ (p : Ps) (L : List (Ps × Ps)) (q : Ps) : List (Ps × Ps) := if pre L q = none then L ++ [(q,p)] else L
def addL (p : Ps) (L : List (Ps × Ps)) (l : List Ps) : List (Ps × Ps) := l.foldl (addQ p) L
def chain (L : List (Ps × Ps)) (f : Ps) : Nat → Ps → List Ps
  | 0,_ => []
  | n + 1,p => if p = f then [] else p :: chain L f n ((pre L p).getD f)
def wayF (s : Ste) (f : Ps) : Nat → List (Ps × Ps) → Nat → Option (List Ps)
  | 0,_,_ => none
  | n + 1,L,k => match L[k]? with
    | none => none
    | some e => if downB s e.1 = true then some (chain L f L.length e.1).reverse else wayF s f n (addL e.1 L (stepsL s e.1)) (k + 1)
end Go.Proofs.YtbncpngjclabhaaGreat
/- The functions' bodies, translated. Written by a program; no conditions. -/
namespace Go.Proofs.YtbncpngjclabhaaGreat
open Go.RowKit Lift

def cengine_within : ACode :=
 (.seq
 (.region false [oo 6 (.mv (.const (.bool false)))] [])
 (.seq
 (.region false [om 7 0,
 om 8 1,
 oo 9 (.bin .geq (.tmp 7) (.tmp 8)),
 om 10 9,
 og 11 10 true (.mv (.tmp 0)) [],
 og 12 10 true (.mv (.tmp 2)) [],
 og 13 10 true (.bin .leq (.tmp 11) (.tmp 12)) [],
 oo 14 (.pick (.tmp 10) (.tmp 13) (.const (.bool false))),
 om 6 14] [7,8,9,10,11,12,13,14])
 .ret))
theorem kengine_within : IsCode Tryz.prog 39 15 cengine_within [.tmp 6] :=
 ⟨Tryz.f39,_,[0,1,2,6],Tryz.func39,rfl,by decide,rfl,by kernel_rfl,by kernel_rfl⟩
def cengine_anywhere : ACode :=
 (.seq
 (.region false [oo 1 (.box (.tmp 0)),
 oo 2 (.mv (.const (.bool false)))] [1])
 (.seq
 (.region false [oo 2 (.mv (.const (.bool true)))] [])
 .ret))
theorem kengine_anywhere : IsCode Tryz.prog 42 3 cengine_anywhere [.tmp 2] :=
 ⟨Tryz.f42,_,[0,2],Tryz.func42,rfl,by decide,rfl,by kernel_rfl,by kernel_rfl⟩
def cengine_site_down : ACode :=
 (.seq
 (.region false [oo 2 (.box (.tmp 0)),
 oo 3 (.box (.tmp 1)),
 oo 4 (.mv (.const (.bool false)))] [])
 (.seq
 (.region true [oo 5 (.fad 2 (.tmp 3)),
 oa 6 (.load1 (.tmp 5)) [0],
 oa 7 (.bin .eql (.tmp 6) (kI 0)) [1,0],
 oa 8 (.mv (.tmp 7)) [2,1,0],
 og 9 8 true (.fad 1 (.tmp 3)) [3,2,1,0],
 og 10 8 true (.load1 (.tmp 9)) [4,3,2,1,0],
 og 11 8 true (.fad 0 (.tmp 2)) [3,2,1,0],
 og 12 8 true (.load1 (.tmp 11)) [6,3,2,1,0],
 og 13 8 true (.nilc (.tmp 12)) [7,6,3,2,1,0],
 og 14 8 true (.fad 0 (.tmp 13)) [8,7,6,3,2,1,0],
 og 15 8 true (.fad 31 (.tmp 14)) [9,8,7,6,3,2,1,0],
 og 16 8 true (.load1 (.tmp 15)) [10,9,8,7,6,3,2,1,0],
 og 17 8 true (.bin .leq (.tmp 10) (.tmp 16)) [5,4,3,2,1,0,11,10,9,8,7,6],
 oa 18 (.pick (.tmp 8) (.tmp 17) (.const (.bool false))) [3,2,1,0,12,5,4,11,10,9,8,7,6],
 oa 19 (.mv (.tmp 18)) [13,3,2,1,0,12,5,4,11,10,9,8,7,6],
 og 20 19 true (.fad 0 (.tmp 3)) [14,13,3,2,1,0,12,5,4,11,10,9,8,7,6],
 og 21 19 true (.load1 (.tmp 20)) [15,14,13,3,2,1,0,12,5,4,11,10,9,8,7,6],
 og 22 19 true (.fad 1 (.tmp 2)) [14,13,3,2,1,0,12,5,4,11,10,9,8,7,6],
 og 23 19 true (.fad 0 (.tmp 22)) [17,14,13,3,2,1,0,12,5,4,11,10,9,8,7,6],
 og 24 19 true (.load1 (.tmp 23)) [18,17,14,13,3,2,1,0,12,5,4,11,10,9,8,7,6],
 og 25 19 true (.call (.func 39) [(.tmp 21),(kI 0),(.tmp 24)]) [16,15,14,13,3,2,1,0,12,5,4,11,10,9,8,7,6,19,18,17],
 oa 26 (.pick (.tmp 19) (.tmp 25) (.const (.bool false))) [14,13,3,2,1,0,12,5,4,11,10,9,8,7,6,20,16,15,19,18,17],
 oa 4 (.mv (.tmp 26)) [21,14,13,3,2,1,0,12,5,4,11,10,9,8,7,6,20,16,15,19,18,17]] [5,6,7,8,9,10,11,12,13,14,15,16,17,18,19,20,21,22,23,24,25,26])
 .ret))
theorem kengine_site_down : IsCode Tryz.prog 40 27 cengine_site_down [.tmp 4] :=
 ⟨Tryz.f40,_,[0,1,3,2,4],Tryz.func40,rfl,by decide,rfl,by kernel_rfl,by kernel_rfl⟩
def cengine_site_clear : ACode :=
 (.seq
 (.region false [oo 3 (.box (.tmp 0)),
 oo 4 (.box (.tmp 1)),
 oo 5 (.box (.tmp 2)),
 oo 6 (.mv (.const (.bool false)))] [])
 (.seq
 (.region false [oo 7 (.fad 1 (.tmp 3)),
 oo 8 (.fad 3 (.tmp 7)),
 oo 9 (.load1 (.tmp 8)),
 oo 10 (.mkfn 120 [] [(.tmp 4),(.tmp 5)]),
 oo 11 (.call (.func 99) [(.tmp 9),(.tmp 10)]),
 oo 12 (.un .not (.tmp 11)),
 om 6 12] [7,8,9,10,11,12])
 .ret))
theorem kengine_site_clear : IsCode Tryz.prog 102 13 cengine_site_clear [.tmp 6] :=
 ⟨Tryz.f102,_,[0,1,2,3,4,5,6],Tryz.func102,rfl,by decide,rfl,by kernel_rfl,by kernel_rfl⟩
def cengine_site_clear_S1 : ACode :=
 (.seq
 (.region false [oo 3 (.box (.tmp 0)),
 oo 4 (.mv (.const (.bool false)))] [])
 (.seq
 (.region false [oo 5 (.fad 0 (.tmp 3)),
 oo 6 (.load1 (.tmp 5)),
 oo 7 (.fad 0 (.tmp 1)),
 oo 8 (.load1 (.tmp 7)),
 oo 9 (.fad 0 (.tmp 2)),
 oo 10 (.load1 (.tmp 9)),
 oo 11 (.call (.func 39) [(.tmp 6),(.tmp 8),(.tmp 10)]),
 om 12 11,
 og 13 12 true (.fad 2 (.tmp 1)) [],
 og 14 12 true (.load1 (.tmp 13)) [],
 og 15 12 true (.fad 2 (.tmp 2)) [],
 og 16 12 true (.load1 (.tmp 15)) [],
 og 17 12 true (.mnx false [(.tmp 14),(.tmp 16)]) [],
 og 18 12 true (.fad 1 (.tmp 3)) [],
 og 19 12 true (.load1 (.tmp 18)) [],
 og 20 12 true (.bin .lss (.tmp 17) (.tmp 19)) [],
 oo 21 (.pick (.tmp 12) (.tmp 20) (.const (.bool false))),
 om 4 21] [5,6,7,8,9,10,11,12,13,14,15,16,17,18,19,20,21])
 .ret))
theorem kengine_site_clear_S1 : IsCode Tryz.prog 120 22 cengine_site_clear_S1 [.tmp 4] :=
 ⟨Tryz.f120,_,[0,3,1,2,4],Tryz.func120,rfl,by decide,rfl,by kernel_rfl,by kernel_rfl⟩
def cslices_ContainsFunc_L_L_Japi_Hindrance_Kapi_Hindrance_J : ACode :=
 (.seq
 (.region false [oo 4 (.mv (.const (.bool false)))] [])
 (.seq
 (.region false [om 5 0,
 om 6 1,
 oo 7 (.call (.func 119) [(.tmp 5),(.tmp 6)]),
 oo 8 (.bin .geq (.tmp 7) (kI 0)),
 om 4 8] [5,6,7,8])
 .ret))
theorem kslices_ContainsFunc_L_L_Japi_Hindrance_Kapi_Hindrance_J : IsCode Tryz.prog 99 9 cslices_ContainsFunc_L_L_Japi_Hindrance_Kapi_Hindrance_J [.tmp 4] :=
 ⟨Tryz.f99,_,[0,1,4],Tryz.func99,rfl,by decide,rfl,by kernel_rfl,by kernel_rfl⟩
def cslices_IndexFunc_L_L_Japi_Hindrance_Kapi_Hindrance_J : ACode :=
 (.seq
 (.region false [oo 4 (.mv (kI 0))] [])
 (.seq
 (.seq
 (.region false [om 6 0,
 oo 7 (.len_ (.tmp 6)),
 oo 8 (.mv (kI 0))] [6])
 (.block 0
 (.loop
 (.seq
 (.region false [oo 9 (.bin .lss (.tmp 8) (.tmp 7))] [])
 (.seq
 (.cond (.tmp 9)
 .skip
 (.exit 0))
 (.seq
 (.block 1
 (.seq
 (.region false [om 10 8,
 om 5 10] [10])
 (.seq
 (.region false [om 11 1,
 om 12 0,
 om 13 5,
 oo 14 (.iadS 2 (.tmp 12) (.tmp 13)),
 oo 15 (.loadN 2 (.tmp 14)),
 oo 16 (.call (.tmp 11) [(.tmp 15)])] [11,12,13,14,15])
 (.cond (.tmp 16)
 (.seq
 (.region false [om 17 5,
 om 4 17] [17])
 .ret)
 .skip))))
 (.region false [oo 18 (.bin .add (.tmp 8) (kI 1)),
 om 8 18] [18])))))))
 (.seq
 (.region false [oo 4 (.mv (kI (-1)))] [])
 .ret)))
theorem kslices_IndexFunc_L_L_Japi_Hindrance_Kapi_Hindrance_J : IsCode Tryz.prog 119 19 cslices_IndexFunc_L_L_Japi_Hindrance_Kapi_Hindrance_J [.tmp 4] :=
 ⟨Tryz.f119,_,[16,9,0,8,7,1,5,4],Tryz.func119,rfl,by decide,rfl,by kernel_rfl,by kernel_rfl⟩
def cslices_Reverse_L_L_Japi_Pose_Kapi_Pose_J : ACode :=
 (.seq
 (.region false [om 4 0,
 oo 5 (.len_ (.tmp 4)),
 oo 6 (.bin .sub (.tmp 5) (kI 1)),
 oo 2 (.mv (kI 0)),
 om 3 6] [4,5,6])
 (.block 0
 (.loop
 (.seq
 (.seq
 (.region false [om 7 2,
 om 8 3,
 oo 9 (.bin .lss (.tmp 7) (.tmp 8))] [7,8])
 (.cond (.tmp 9)
 .skip
 (.exit 0)))
 (.seq
 (.block 1
 (.region true [om 14 0,
 om 15 2,
 om 16 0,
 om 17 3,
 om 18 0,
 om 19 3,
 oa 20 (.iadS 3 (.tmp 18) (.tmp 19)) [4,5],
 oa 21 (.loadN 3 (.tmp 20)) [6,4,5],
 om 22 0,
 om 23 2,
 oa 24 (.iadS 3 (.tmp 22) (.tmp 23)) [8,9],
 oa 25 (.loadN 3 (.tmp 24)) [10,8,9],
 oa 26 (.iadS 3 (.tmp 14) (.tmp 15)) [0,1,4,5,6,7,11,10,8,9],
 ⟨none,.store 3 (.tmp 26) (.tmp 21),none,[12,0,1,4,5,6,7,11,10,8,9]⟩,
 oa 27 (.iadS 3 (.tmp 16) (.tmp 17)) [2,3,0,1,4,5,6,7,8,9,10,11,12,13],
 ⟨none,.store 3 (.tmp 27) (.tmp 25),none,[14,2,3,0,1,4,5,6,7,8,9,10,11,12,13]⟩] [14,15,16,17,18,19,20,21,22,23,24,25,26,27]))
 (.region false [om 10 2,
 oo 11 (.bin .add (.tmp 10) (kI 1)),
 om 12 3,
 oo 13 (.bin .sub (.tmp 12) (kI 1)),
 om 2 11,
 om 3 13] [10,11,12,13]))))))
theorem kslices_Reverse_L_L_Japi_Pose_Kapi_Pose_J : IsCode Tryz.prog 68 28 cslices_Reverse_L_L_Japi_Pose_Kapi_Pose_J [] :=
 ⟨Tryz.f68,_,[9,0,2,3],Tryz.func68,rfl,by decide,rfl,by kernel_rfl,by kernel_rfl⟩
def cengine_site_steps : ACode :=
 (.seq
 (.region false [oo 3 (.box (.tmp 0)),
 oo 4 (.box (.tmp 1)),
 oo 5 (.box (.tmp 2)),
 oo 6 (.mv (.const (.nilFunc)))] [])
 (.seq
 (.region false [oo 7 (.mkfn 101 [] [(.tmp 4),(.tmp 3),(.tmp 5)]),
 om 6 7] [7])
 .ret))
theorem kengine_site_steps : IsCode Tryz.prog 69 8 cengine_site_steps [.tmp 6] :=
 ⟨Tryz.f69,_,[0,1,2,4,3,5,6],Tryz.func69,rfl,by decide,rfl,by kernel_rfl,by kernel_rfl⟩
def cengine_site_steps_S1 : ACode :=
 (.seq
 (.region false [oo 10 (.fad 1 (.tmp 1)),
 oo 11 (.load1 (.tmp 10)),
 oo 12 (.bin .sub (.tmp 11) (kI 1)),
 oo 13 (.mnx true [(kI 0),(.tmp 12)]),
 om 5 13] [10,11,12,13])
 (.block 0
 (.loop
 (.seq
 (.seq
 (.region true [om 14 5,
 oo 15 (.fad 0 (.tmp 2)),
 oa 16 (.load1 (.tmp 15)) [1],
 oa 17 (.nilc (.tmp 16)) [2,1],
 oa 18 (.fad 0 (.tmp 17)) [3,2,1],
 oa 19 (.fad 29 (.tmp 18)) [4,3,2,1],
 oa 20 (.load1 (.tmp 19)) [5,4,3,2,1],
 oo 21 (.fad 1 (.tmp 1)),
 oa 22 (.load1 (.tmp 21)) [7],
 oa 23 (.bin .add (.tmp 22) (kI 1)) [8,7],
 oa 24 (.mnx false [(.tmp 20),(.tmp 23)]) [6,5,4,3,2,1,9,8,7],
 oa 25 (.bin .leq (.tmp 14) (.tmp 24)) [0,10,6,5,4,3,2,1,9,8,7]] [14,15,16,17,18,19,20,21,22,23,24])
 (.cond (.tmp 25)
 .skip
 (.exit 0)))
 (.seq
 (.block 1
 (.seq
 (.region true [oo 28 (.fad 2 (.tmp 1)),
 oa 29 (.load1 (.tmp 28)) [0],
 oo 30 (.fad 0 (.tmp 2)),
 oa 31 (.load1 (.tmp 30)) [2],
 oa 32 (.nilc (.tmp 31)) [3,2],
 oa 33 (.fad 0 (.tmp 32)) [4,3,2],
 oa 34 (.fad 30 (.tmp 33)) [5,4,3,2],
 oa 35 (.load1 (.tmp 34)) [6,5,4,3,2],
 oa 36 (.bin .sub (.tmp 29) (.tmp 35)) [1,0,7,6,5,4,3,2],
 oa 37 (.mnx true [(kI 0),(.tmp 36)]) [8,1,0,7,6,5,4,3,2],
 oa 6 (.mv (.tmp 37)) [9,8,1,0,7,6,5,4,3,2]] [28,29,30,31,32,33,34,35,36,37])
 (.block 2
 (.loop
 (.seq
 (.seq
 (.region true [om 38 6,
 oo 39 (.fad 2 (.tmp 1)),
 oa 40 (.load1 (.tmp 39)) [1],
 oo 41 (.fad 0 (.tmp 2)),
 oa 42 (.load1 (.tmp 41)) [3],
 oo 43 (.load1 (.tmp 3)),
 oa 44 (.nilc (.tmp 42)) [4,3],
 oa 45 (.fad 33 (.tmp 44)) [6,4,3],
 oa 46 (.iadA 2 1 (.tmp 45) (.tmp 43)) [7,6,4,3,5],
 oa 47 (.load1 (.tmp 46)) [8,7,6,4,3,5],
 om 48 5,
 oa 49 (.iadS 1 (.tmp 47) (.tmp 48)) [9,8,7,6,4,3,5,10],
 oa 50 (.load1 (.tmp 49)) [11,9,8,7,6,4,3,5,10],
 oa 51 (.bin .add (.tmp 40) (.tmp 50)) [2,1,12,11,9,8,7,6,4,3,5,10],
 oa 52 (.mnx false [(kI 12),(.tmp 51)]) [13,2,1,12,11,9,8,7,6,4,3,5,10],
 oa 53 (.bin .leq (.tmp 38) (.tmp 52)) [0,14,13,2,1,12,11,9,8,7,6,4,3,5,10]] [38,39,40,41,42,43,44,45,46,47,48,49,50,51,52])
 (.cond (.tmp 53)
 .skip
 (.exit 2)))
 (.seq
 (.block 3
 (.seq
 (.region false [oo 56 (.fad 0 (.tmp 1)),
 oo 57 (.load1 (.tmp 56)),
 om 58 5,
 oo 59 (.bin .add (.tmp 57) (.tmp 58)),
 om 60 5,
 om 61 6,
 oo 62 (.build [(.val (.int .i64 0)),(.val (.int .i64 0)),(.val (.int .i64 0))] [(0,1,(.tmp 59)),(1,1,(.tmp 60)),(2,1,(.tmp 61))]),
 oo 7 (.mem [(.val (.int .i64 0)),(.val (.int .i64 0)),(.val (.int .i64 0))]),
 on (.store 3 (.tmp 7) (.tmp 62))] [56,57,58,59,60,61,62])
 (.seq
 (.region true [om 63 6,
 oa 64 (.bin .eql (.tmp 63) (kI 0)) [0],
 oa 65 (.mv (.tmp 64)) [1,0],
 og 66 65 true (.fad 2 (.tmp 1)) [2,1,0],
 og 67 65 true (.load1 (.tmp 66)) [3,2,1,0],
 og 68 65 true (.bin .eql (.tmp 67) (kI 0)) [4,3,2,1,0],
 og 69 65 true (.mv (.tmp 68)) [5,4,3,2,1,0],
 og 70 69 false (.fad 2 (.tmp 1)) [6,5,4,3,2,1,0],
 og 71 69 false (.load1 (.tmp 70)) [7,6,5,4,3,2,1,0],
 og 72 69 false (.fad 0 (.tmp 2)) [6,5,4,3,2,1,0],
 og 73 69 false (.load1 (.tmp 72)) [9,6,5,4,3,2,1,0],
 og 74 69 false (.nilc (.tmp 73)) [10,9,6,5,4,3,2,1,0],
 og 75 69 false (.fad 0 (.tmp 74)) [11,10,9,6,5,4,3,2,1,0],
 og 76 69 false (.fad 32 (.tmp 75)) [12,11,10,9,6,5,4,3,2,1,0],
 og 77 69 false (.load1 (.tmp 76)) [13,12,11,10,9,6,5,4,3,2,1,0],
 og 78 69 false (.bin .gtr (.tmp 71) (.tmp 77)) [8,7,6,5,4,3,2,1,0,14,13,12,11,10,9],
 og 79 65 true (.pick (.tmp 69) (.const (.bool true)) (.tmp 78)) [6,5,4,3,2,1,0,15,8,7,14,13,12,11,10,9],
 og 80 65 true (.mv (.tmp 79)) [16,6,5,4,3,2,1,0,15,8,7,14,13,12,11,10,9],
 og 81 80 false (.loadN 5 (.tmp 2)) [17,16,6,5,4,3,2,1,0,15,8,7,14,13,12,11,10,9],
 og 82 80 false (.loadN 3 (.tmp 7)) [17,16,6,5,4,3,2,1,0,15,8,7,14,13,12,11,10,9],
 og 83 80 false (.call (.func 40) [(.tmp 81),(.tmp 82)]) [18,17,16,6,5,4,3,2,1,0,15,8,7,14,13,12,11,10,9,19],
 og 84 80 false (.un .not (.tmp 83)) [20,18,17,16,6,5,4,3,2,1,0,15,8,7,14,13,12,11,10,9,19],
 og 85 65 true (.pick (.tmp 80) (.const (.bool true)) (.tmp 84)) [17,16,6,5,4,3,2,1,0,15,8,7,14,13,12,11,10,9,21,20,18,19],
 oa 86 (.pick (.tmp 65) (.tmp 85) (.const (.bool false))) [2,1,0,22,17,16,6,5,4,3,15,8,7,14,13,12,11,10,9,21,20,18,19],
 oa 8 (.mv (.tmp 86)) [23,2,1,0,22,17,16,6,5,4,3,15,8,7,14,13,12,11,10,9,21,20,18,19]] [63,64,65,66,67,68,69,70,71,72,73,74,75,76,77,78,79,80,81,82,83,84,85,86])
 (.seq
 (.region true [om 87 6,
 oa 88 (.bin .gtr (.tmp 87) (kI 0)) [0],
 oa 89 (.mv (.tmp 88)) [1,0],
 og 90 89 true (.mv (.tmp 6)) [2,1,0],
 og 91 89 true (.fad 2 (.tmp 1)) [2,1,0],
 og 92 89 true (.load1 (.tmp 91)) [4,2,1,0],
 og 93 89 true (.bin .lss (.tmp 90) (.tmp 92)) [3,2,1,0,5,4],
 oa 94 (.pick (.tmp 89) (.tmp 93) (.const (.bool false))) [2,1,0,6,3,5,4],
 oa 95 (.mv (.tmp 94)) [7,2,1,0,6,3,5,4],
 og 96 95 true (.fad 0 (.tmp 2)) [8,7,2,1,0,6,3,5,4],
 og 97 95 true (.load1 (.tmp 96)) [9,8,7,2,1,0,6,3,5,4],
 og 98 95 true (.nilc (.tmp 97)) [10,9,8,7,2,1,0,6,3,5,4],
 og 99 95 true (.fad 35 (.tmp 98)) [11,10,9,8,7,2,1,0,6,3,5,4],
 og 100 95 true (.load1 (.tmp 99)) [12,11,10,9,8,7,2,1,0,6,3,5,4],
 og 101 95 true (.mv (.tmp 5)) [8,7,2,1,0,6,3,5,4],
 og 102 95 true (.iadS 1 (.tmp 100) (.tmp 101)) [13,12,11,10,9,8,7,2,1,0,6,3,5,4,14],
 og 103 95 true (.load1 (.tmp 102)) [15,13,12,11,10,9,8,7,2,1,0,6,3,5,4,14],
 og 104 95 true (.fad 2 (.tmp 1)) [8,7,2,1,0,6,3,5,4],
 og 105 95 true (.load1 (.tmp 104)) [17,8,7,2,1,0,6,3,5,4],
 og 106 95 true (.mv (.tmp 6)) [8,7,2,1,0,6,3,5,4],
 og 107 95 true (.bin .sub (.tmp 105) (.tmp 106)) [18,17,8,7,2,1,0,6,3,5,4,19],
 og 108 95 true (.iadS 1 (.tmp 103) (.tmp 107)) [16,15,13,12,11,10,9,8,7,2,1,0,6,3,5,4,14,20,18,17,19],
 og 109 95 true (.load1 (.tmp 108)) [21,16,15,13,12,11,10,9,8,7,2,1,0,6,3,5,4,14,20,18,17,19],
 oa 110 (.pick (.tmp 95) (.tmp 109) (.const (.bool false))) [8,7,2,1,0,6,3,5,4,22,21,16,15,13,12,11,10,9,14,20,18,17,19],
 oa 9 (.mv (.tmp 110)) [23,8,7,2,1,0,6,3,5,4,22,21,16,15,13,12,11,10,9,14,20,18,17,19]] [87,88,89,90,91,92,93,94,95,96,97,98,99,100,101,102,103,104,105,106,107,108,109,110])
 (.seq
 (.region false [oo 111 (.fad 0 (.tmp 7)),
 oo 112 (.load1 (.tmp 111)),
 oo 113 (.bin .leq (.tmp 112) (kI 40)),
 om 114 113,
 og 115 114 true (.mv (.tmp 8)) [],
 og 116 114 true (.un .not (.tmp 115)) [],
 oo 117 (.pick (.tmp 114) (.tmp 116) (.const (.bool false))),
 om 118 117,
 og 119 118 true (.mv (.tmp 9)) [],
 og 120 118 true (.un .not (.tmp 119)) [],
 oo 121 (.pick (.tmp 118) (.tmp 120) (.const (.bool false))),
 om 122 121,
 og 123 122 true (.loadN 5 (.tmp 2)) [],
 og 124 122 true (.loadN 3 (.tmp 1)) [],
 og 125 122 true (.loadN 3 (.tmp 7)) [],
 og 126 122 true (.call (.func 102) [(.tmp 123),(.tmp 124),(.tmp 125)]) [],
 oo 127 (.pick (.tmp 122) (.tmp 126) (.const (.bool false))),
 om 128 127,
 og 129 128 true (.mv (.tmp 0)) [],
 og 130 128 true (.loadN 3 (.tmp 7)) [],
 og 131 128 true (.call (.tmp 129) [(.tmp 130)]) [],
 og 132 128 true (.un .not (.tmp 131)) [],
 oo 133 (.pick (.tmp 128) (.tmp 132) (.const (.bool false)))] [111,112,113,114,115,116,117,118,119,120,121,122,123,124,125,126,127,128,129,130,131,132])
 (.cond (.tmp 133)
 .ret
 .skip))))))
 (.region false [om 54 6,
 oo 55 (.bin .add (.tmp 54) (kI 1)),
 om 6 55] [54,55])))))))
 (.region false [om 26 5,
 oo 27 (.bin .add (.tmp 26) (kI 1)),
 om 5 27] [26,27]))))))
theorem kengine_site_steps_S1 : IsCode Tryz.prog 101 134 cengine_site_steps_S1 [] :=
 ⟨Tryz.f101,_,[133,53,25,1,5,2,6,3,7,8,9,0],Tryz.func101,rfl,by decide,rfl,by kernel_rfl,by kernel_rfl⟩
end Go.Proofs.YtbncpngjclabhaaGreat
/- The functions' bodies, translated. Written by a program; no conditions. -/
namespace Go.Proofs.YtbncpngjclabhaaGreat
open Go.RowKit Lift

def cengine_checkField : ACode :=
 (.seq
 (.region false [oo 1 (.box (.tmp 0)),
 oo 2 (.mv (kI 0))] [])
 (.seq
 (.seq
 (.region false [oo 3 (.fad 0 (.tmp 1)),
 oo 4 (.load1 (.tmp 3)),
 oo 5 (.call (.func 39) [(.tmp 4),(kI 0),(kI 40)]),
 oo 6 (.un .not (.tmp 5)),
 om 7 6,
 og 8 7 false (.fad 1 (.tmp 1)) [],
 og 9 7 false (.load1 (.tmp 8)) [],
 og 10 7 false (.call (.func 39) [(.tmp 9),(kI 1),(kI 12)]) [],
 og 11 7 false (.un .not (.tmp 10)) [],
 oo 12 (.pick (.tmp 7) (.const (.bool true)) (.tmp 11)),
 om 13 12,
 og 14 13 false (.fad 2 (.tmp 1)) [],
 og 15 13 false (.load1 (.tmp 14)) [],
 og 16 13 false (.call (.func 39) [(.tmp 15),(kI 0),(kI 6)]) [],
 og 17 13 false (.un .not (.tmp 16)) [],
 oo 18 (.pick (.tmp 13) (.const (.bool true)) (.tmp 17)),
 om 19 18,
 og 20 19 false (.fad 3 (.tmp 1)) [],
 og 21 19 false (.load1 (.tmp 20)) [],
 og 22 19 false (.len_ (.tmp 21)) [],
 og 23 19 false (.bin .gtr (.tmp 22) (kI 6)) [],
 oo 24 (.pick (.tmp 19) (.const (.bool true)) (.tmp 23)),
 om 25 24,
 og 26 25 false (.fad 3 (.tmp 1)) [],
 og 27 25 false (.load1 (.tmp 26)) [],
 og 28 25 false (.call (.func 99) [(.tmp 27),(.func 100)]) [],
 oo 29 (.pick (.tmp 25) (.const (.bool true)) (.tmp 28))] [3,4,5,6,7,8,9,10,11,12,13,14,15,16,17,18,19,20,21,22,23,24,25,26,27,28])
 (.cond (.tmp 29)
 (.seq
 (.region false [oo 2 (.mv (kI 31))] [])
 .ret)
 .skip))
 (.seq
 (.region false [oo 2 (.mv (kI 0))] [])
 .ret)))
theorem kengine_checkField : IsCode Tryz.prog 67 30 cengine_checkField [.tmp 2] :=
 ⟨Tryz.f67,_,[29,0,1,2],Tryz.func67,rfl,by decide,rfl,by kernel_rfl,by kernel_rfl⟩
def cengine_checkField_S1 : ACode :=
 (.seq
 (.region false [oo 1 (.box (.tmp 0)),
 oo 2 (.mv (.const (.bool false)))] [])
 (.seq
 (.region false [oo 3 (.fad 0 (.tmp 1)),
 oo 4 (.load1 (.tmp 3)),
 oo 5 (.call (.func 39) [(.tmp 4),(kI (-40)),(kI 40)]),
 oo 6 (.un .not (.tmp 5)),
 om 7 6,
 og 8 7 false (.fad 1 (.tmp 1)) [],
 og 9 7 false (.load1 (.tmp 8)) [],
 og 10 7 false (.call (.func 39) [(.tmp 9),(kI 1),(kI 12)]) [],
 og 11 7 false (.un .not (.tmp 10)) [],
 oo 12 (.pick (.tmp 7) (.const (.bool true)) (.tmp 11)),
 om 2 12] [3,4,5,6,7,8,9,10,11,12])
 .ret))
theorem kengine_checkField_S1 : IsCode Tryz.prog 100 13 cengine_checkField_S1 [.tmp 2] :=
 ⟨Tryz.f100,_,[0,1,2],Tryz.func100,rfl,by decide,rfl,by kernel_rfl,by kernel_rfl⟩
end Go.Proofs.YtbncpngjclabhaaGreat
/- engine: small functions of a site. No conditions. -/
namespace Go.Proofs.YtbncpngjclabhaaGreat
open Go Go.RowKit Lift

theorem dint_in (S : Nat → Prop) {c : List D} (h : c.all (fun d => match d with | .val _ => true | .list _ => true | .at_ _ => true | _ => false) = true) : ∀ d ∈ c,In S d := fun d hd => by
  have := List.all_eq_true.1 h d hd
  cases d <;> first | exact .val _ | exact .list _ | exact .at_ _ | simp at this
theorem engWithin_ac (n a b : Int) : AC Tryz.prog 39 [dI n,dI a,dI b] [] [] (dB (wI n a b)) := by
  refine kengine_within.ac (n0 := 0) (by simp) ⟨.val _,.val _,.val _,trivial⟩ trivial rfl ?_
  unfold cengine_within wI
  cases q1 : decide (a ≤ n) <;> cases q2 : decide (n ≤ b)
  all_goals
    (repeat' (first | apply aw_seq | ((first | apply aw_skip | apply aw_exit); try simp only [thenQ,blockQ,if_true,if_false,Nat.reduceEqDiff,reduceCtorEq]) | apply aw_ret | apply aw_block | apply aw_condT rfl | apply aw_condF rfl | ((first | refine aw_region ?_ | refine ago_if (by omega) ?_ | skip); simp (disch := first | exact okY | omega) only [ZU,dB,Bool.and_false,Nat.reduceMul,dI,Nat.reduceAdd,AOpRun,aexec,Nat.reduceBEq,↓eget_h,isSh,↓reduceIte,abin,ge_iff_le,q1,ARun_some,AG_ft,AG_tt,q2])))
    all_goals (refine end_q [] [] ?_ ?_ <;> repeat' (first | exact trivial | exact vr_val _))
theorem anywhere_ac (p : Ps) : AC Tryz.prog 42 [.agg (psL p)] [] [] (dB true) := by
  refine kengine_anywhere.ac (n0 := 0) (by simp) ⟨.agg _ (dint_in _ rfl),trivial⟩ trivial rfl ?_
  unfold cengine_anywhere psL
  (repeat' (first | apply aw_seq | ((first | apply aw_skip | apply aw_exit); try simp only [thenQ,blockQ,if_true,if_false,Nat.reduceEqDiff,reduceCtorEq]) | apply aw_ret | apply aw_block | apply aw_condT rfl | apply aw_condF rfl | ((first | refine aw_region ?_ | refine ago_if (by omega) ?_ | skip); simp (disch := first | exact okY | omega) only [ZU,dB,Nat.reduceAdd,Nat.reduceMul,dI,AOpRun,aexec,D.isBot,↓eget_h,or_self,↓reduceIte,D.cells,Nat.reduceBEq])))
  all_goals (refine end_q [] [] ?_ ?_ <;> repeat' (first | exact trivial | exact vr_val _))
structure SteC (s : Ste) (C : List D) : Prop where
  top : (C.drop 29)[0]? = some (.val (.int .i64 s.top))
  drop : (C.drop 30)[0]? = some (.val (.int .i64 s.drop))
  touch : (C.drop 31)[0]? = some (.val (.int .i64 s.touch))
  sink : (C.drop 32)[0]? = some (.val (.int .i64 s.sink))
  r : ((C.drop 33).drop 1)[0]? = some (.list (ints s.R))
  w : (C.drop 35)[0]? = some (.list (blss s.W))
def siteL (s : Ste) (C : List D) (cl sf : Int) : List D := [.at_ C,dI s.len,dI cl,dI sf,.list (sps s.hind)]
theorem down_ac (s : Ste) (C : List D) (cl sf : Int) (p : Ps) (hC : SteC s C) : AC Tryz.prog 40 [.agg (siteL s C cl sf),.agg (psL p)] [] [] (dB (downB s p)) := by
  refine kengine_site_down.ac (n0 := 0) (by simp) ⟨.agg _ (dint_in _ rfl),.agg _ (dint_in _ rfl),trivial⟩ trivial rfl ?_
  have c1 := hC.touch
  have w1 := engWithin_ac p.x 0 s.len
  unfold cengine_site_down downB siteL psL
  unfold dI at *
  cases q1 : decide (p.h = 0)
  · have k1 : (p.h == 0) = false := by simpa using q1
    (repeat' (first | apply aw_seq | ((first | apply aw_skip | apply aw_exit); try simp only [thenQ,blockQ,if_true,if_false,Nat.reduceEqDiff,reduceCtorEq]) | apply aw_ret | apply aw_block | apply aw_condT rfl | apply aw_condF rfl | ((first | refine aw_region ?_ | refine ago_if (by omega) ?_ | skip); simp (disch := first | exact okY | omega) only [ZU,dB,Bool.false_and,Nat.reduceAdd,Nat.reduceMul,AOpRun,aexec,D.isBot,↓eget_h,or_self,↓reduceIte,D.cells,Nat.reduceBEq,run1,↓hget_h,isSh,abin,k1,ARun_some,AG_ft])))
    all_goals (refine end_q [] [] ?_ ?_ <;> repeat' (first | exact trivial | exact vr_val _))
  have k1 : (p.h == 0) = true := by simpa using q1
  cases q2 : decide (p.v ≤ s.touch)
  · (repeat' (first | apply aw_seq | ((first | apply aw_skip | apply aw_exit); try simp only [thenQ,blockQ,if_true,if_false,Nat.reduceEqDiff,reduceCtorEq]) | apply aw_ret | apply aw_block | apply aw_condT rfl | apply aw_condF rfl | ((first | refine aw_region ?_ | refine ago_if (by omega) ?_ | skip); simp (disch := first | exact okY | omega) only [ZU,dB,Bool.false_and,Bool.and_false,Nat.reduceAdd,Nat.reduceMul,AOpRun,aexec,D.isBot,↓eget_h,or_self,↓reduceIte,D.cells,Nat.reduceBEq,run1,↓hget_h,isSh,abin,k1,ARun_some,AG_tt,List.drop,c1,q2,AG_ft])))
    all_goals (refine end_q [] [] ?_ ?_ <;> repeat' (first | exact trivial | exact vr_val _))
  cases q3 : wI p.x 0 s.len <;> rw [q3] at w1
  all_goals
    (repeat' (first | apply aw_seq | ((first | apply aw_skip | apply aw_exit); try simp only [thenQ,blockQ,if_true,if_false,Nat.reduceEqDiff,reduceCtorEq]) | apply aw_ret | apply aw_block | apply aw_condT rfl | apply aw_condF rfl | ((first | refine aw_region ?_ | refine acall0 (w1) ?_ | refine ago_if (by omega) ?_ | skip); simp (disch := first | exact okY | omega) only [ZU,dB,Bool.and_false,Nat.reduceAdd,Nat.reduceMul,AOpRun,aexec,D.isBot,↓eget_h,or_self,↓reduceIte,D.cells,Nat.reduceBEq,run1,↓hget_h,isSh,abin,k1,ARun_some,AG_tt,List.drop,c1,q2])))
    all_goals (refine end_q [] [] ?_ ?_ <;> repeat' (first | exact trivial | exact vr_val _))
theorem clear1_ac (p q : Ps) (h : Int × Int) : AC Tryz.prog 120 [.agg [dI h.1,dI h.2],.ptr 8 0,.ptr 16 0] [(8,psL p),(16,psL q)] [(8,some (psL p)),(16,some (psL q))] (dB (hitB p q h)) := by
  refine kengine_site_clear_S1.ac (n0 := 200) (by simp) ⟨.agg _ (dint_in _ rfl),.ptr _ _ (by omega),.ptr _ _ (by omega),trivial⟩ ⟨⟨by omega,dint_in _ rfl⟩,⟨by omega,dint_in _ rfl⟩,trivial⟩ rfl ?_
  have w1 := engWithin_ac h.1 p.x q.x
  unfold cengine_site_clear_S1 hitB psL mn2
  unfold dI at *
  cases q3 : wI h.1 p.x q.x <;> rw [q3] at w1
  · (repeat' (first | apply aw_seq | ((first | apply aw_skip | apply aw_exit); try simp only [thenQ,blockQ,if_true,if_false,Nat.reduceEqDiff,reduceCtorEq]) | apply aw_ret | apply aw_block | apply aw_condT rfl | apply aw_condF rfl | ((first | refine aw_region ?_ | refine acall0 (w1) ?_ | refine ago_if (by omega) ?_ | skip); simp (disch := first | exact okY | omega) only [ZU,dB,Bool.false_and,Nat.reduceAdd,Nat.reduceMul,AOpRun,aexec,D.isBot,↓eget_h,Nat.reduceBEq,or_self,↓reduceIte,D.cells,run1,↓hget_h,ARun_some,AG_ft])))
    all_goals (refine end_q [] [(8,8),(16,16)] ?_ ?_ <;> repeat' (first | exact trivial | exact vr_val _ | refine And.intro ⟨_,rfl,_,rfl,by decide,?_⟩ ?_ | apply And.intro))
  by_cases h1 : q.h < p.h
  · cases q2 : decide (q.h < h.2)
    all_goals
      (repeat' (first | apply aw_seq | ((first | apply aw_skip | apply aw_exit); try simp only [thenQ,blockQ,if_true,if_false,Nat.reduceEqDiff,reduceCtorEq]) | apply aw_ret | apply aw_block | apply aw_condT rfl | apply aw_condF rfl | ((first | refine aw_region ?_ | refine acall0 (w1) ?_ | refine ago_if (by omega) ?_ | skip); simp (disch := first | exact okY | omega) only [ZU,dB,h1,↓reduceIte,q2,Bool.and_false,Nat.reduceAdd,Nat.reduceMul,AOpRun,aexec,D.isBot,↓eget_h,Nat.reduceBEq,or_self,D.cells,run1,↓hget_h,ARun_some,AG_tt,foldI,mn2,isSh,abin])))
      all_goals (refine end_q [] [(8,8),(16,16)] ?_ ?_ <;> repeat' (first | exact trivial | exact vr_val _ | refine And.intro ⟨_,rfl,_,rfl,by decide,?_⟩ ?_ | apply And.intro))
  · cases q2 : decide (p.h < h.2)
    all_goals
      (repeat' (first | apply aw_seq | ((first | apply aw_skip | apply aw_exit); try simp only [thenQ,blockQ,if_true,if_false,Nat.reduceEqDiff,reduceCtorEq]) | apply aw_ret | apply aw_block | apply aw_condT rfl | apply aw_condF rfl | ((first | refine aw_region ?_ | refine acall0 (w1) ?_ | refine ago_if (by omega) ?_ | skip); simp (disch := first | exact okY | omega) only [ZU,dB,h1,↓reduceIte,q2,Bool.and_false,Nat.reduceAdd,Nat.reduceMul,AOpRun,aexec,D.isBot,↓eget_h,Nat.reduceBEq,or_self,D.cells,run1,↓hget_h,ARun_some,AG_tt,foldI,mn2,isSh,abin])))
      all_goals (refine end_q [] [(8,8),(16,16)] ?_ ?_ <;> repeat' (first | exact trivial | exact vr_val _ | refine And.intro ⟨_,rfl,_,rfl,by decide,?_⟩ ?_ | apply And.intro))
def badH (h : Int × Int) : Bool := !(wI h.1 (-40) 40) || !(wI h.2 1 12)
theorem checkField1_ac (h : Int × Int) : AC Tryz.prog 100 [.agg [dI h.1,dI h.2]] [] [] (dB (badH h)) := by
  refine kengine_checkField_S1.ac (n0 := 0) (by simp) ⟨.agg _ (dint_in _ rfl),trivial⟩ trivial rfl ?_
  have w1 := engWithin_ac h.1 (-40) 40
  have w2 := engWithin_ac h.2 1 12
  unfold cengine_checkField_S1 badH
  unfold dI at *
  cases q1 : wI h.1 (-40) 40 <;> cases q2 : wI h.2 1 12 <;> rw [q1] at w1 <;> rw [q2] at w2
  all_goals
    (repeat' (first | apply aw_seq | ((first | apply aw_skip | apply aw_exit); try simp only [thenQ,blockQ,if_true,if_false,Nat.reduceEqDiff,reduceCtorEq]) | apply aw_ret | apply aw_block | apply aw_condT rfl | apply aw_condF rfl | ((first | refine aw_region ?_ | refine acall0 (w1) ?_ | refine acall0 (w2) ?_ | refine ago_if (by omega) ?_ | skip); simp (disch := first | exact okY | omega) only [ZU,Int.reduceNeg,dB,Bool.or_true,Nat.reduceAdd,Nat.reduceMul,AOpRun,aexec,D.isBot,↓eget_h,or_self,↓reduceIte,D.cells,Nat.reduceBEq,run1,ARun_some,AG_tf,Bool.or_false,AG_ff])))
    all_goals (refine end_q [] [] ?_ ?_ <;> repeat' (first | exact trivial | exact vr_val _))
theorem spz_gd2 (b : List (Int × Int)) (k : Nat) (h : k < b.length) : (sps b)[k]? = some [.val (.int .i64 (b[k]?.getD (0,0)).1),.val (.int .i64 (b[k]?.getD (0,0)).2)] := by simp [sps,h]
theorem idxHC_ac (p q : Ps) (l : List (Int × Int)) (hl : l.length ≤ 1000000) : AC Tryz.prog 119 [.list (sps l),.fn 120 [] [.ptr 8 0,.ptr 16 0]] [(8,psL p),(16,psL q)] [(8,some (psL p)),(16,some (psL q))] (dI (match l.findIdx? (hitB p q) with
    | some k => (k : Int)
    | none => -1)) := by
  refine kslices_IndexFunc_L_L_Japi_Hindrance_Kapi_Hindrance_J.ac (n0 := 200) (by simp) ⟨.list _,.fn _ _ _ (by simp) (by intro d hd; simp at hd; rcases hd with rfl | rfl <;> exact .ptr _ _ (by omega)),trivial⟩ ⟨⟨by omega,dint_in _ rfl⟩,⟨by omega,dint_in _ rfl⟩,trivial⟩ rfl ?_
  have r1 := fun x => clear1_ac p q x
  have sl := sps_len l
  have sa := sps_all l
  have sg := fun k => spz_gd2 l k
  unfold cslices_IndexFunc_L_L_Japi_Hindrance_Kapi_Hindrance_J
  unfold psL dI at *
  (repeat' (first | (with_reducible first | refine thenQ_n ?_ | refine blockQ_n ?_ | refine thenQ_e ?_ | refine blockQ_t ?_ | refine blockQ_f (by decide) ?_) | apply aw_seq | apply aw_skip | apply aw_exit | apply aw_ret | apply aw_block | apply aw_condT rfl | apply aw_condF rfl | ((first | refine aw_hide fun K hK => aw_region ?_ | refine ago_if (by omega) ?_ | skip); simp (disch := first | exact okY | omega) only [ZU,Nat.reduceMul,Nat.reduceAdd,AOpRun,aexec,Nat.reduceBEq,↓eget_h,sl,Int.reduceNeg]) | subst hK))
  refine aw_loop (fun k : Nat => ⟨[(0,.list (sps l)),(1,.fn 120 [] [.ptr 8 0,.ptr 16 0]),(7,dI l.length),(8,dI k)],[(8,[dI p.x,dI p.v,dI p.h]),(16,[dI q.x,dI q.v,dI q.h])],400⟩) (fun k => k ≤ l.length ∧ ∀ j,j < k → (hitB p q) (l[j]?.getD (0,0)) = false) (fun k => l.length - k) ⟨0,⟨by omega,fun j hj => by omega⟩,?_⟩ ?_
  · unfold dI
    refine wk_q [] [(8,8),(16,16)] ?_ ?_ <;> repeat' (first | exact trivial | exact vr_val _ | exact vr_list _ | exact vr_ptr _ _ _ rfl | apply vr_fn | refine And.intro ⟨_,rfl,.inl ⟨_,rfl,by decide,?_⟩⟩ ?_ | apply And.intro)
  rintro k ⟨hk,hin⟩
  unfold dI
  by_cases hk2 : k < l.length
  · have g1 := sg k hk2
    cases he : (hitB p q) (l[k]?.getD (0,0)) with
    | true =>
      have q : l.findIdx? (hitB p q) = some k := by
        rw [List.findIdx?_eq_some_iff_getElem]
        refine ⟨hk2,by have := he; simp [hk2] at this; simp [this],fun j hj => ?_⟩
        have := hin j hj
        simpa [show j < l.length by omega] using this
      rw [q]
      (have hg : (987654321 : Nat) - 987654321 = 0 := rfl; have hr := hg; repeat' (first | (with_reducible first | refine thenQ_n ?_ | refine blockQ_n ?_ | refine thenQ_e ?_ | refine blockQ_t ?_ | refine blockQ_f (by decide) ?_) | apply aw_seq | apply aw_skip | apply aw_exit | apply aw_ret | apply aw_block | apply aw_condT rfl | apply aw_condF rfl | (refine aw_cond rfl (fun hg => ?_) (fun hg => ?_) <;> (try (have hq := hg; simp only [Bool.not_eq_true',Bool.not_eq_false',Bool.and_eq_true,Bool.and_eq_false_iff,Bool.or_eq_true,Bool.or_eq_false_iff,decide_eq_true_eq,decide_eq_false_iff_not,bne_iff_ne,beq_iff_eq,beq_eq_false_iff_ne,bne_eq_false_iff_eq,ne_eq,Int.not_lt,Int.not_le,Decidable.not_not] at hq)) <;> (try (have hr := hg; simp only [decide_eq_true_eq,decide_eq_false_iff_not] at hr)) <;> (try (exfalso; omega))) | ((first | refine aw_hide fun K hK => aw_region ?_ | refine acallB (r1 _) (by repeat' (first | exact trivial | exact rfl | refine And.intro ?_ ?_)) (by kernel_rfl) (by kernel_rfl) (by kernel_rfl) ?_ | refine ago_if (by omega) ?_ | skip); simp (disch := first | exact okY | omega) only [ZU,Nat.reduceMul,Nat.reduceAdd,AOpRun,aexec,Nat.reduceBEq,↓eget_h,isSh,↓reduceIte,abin,hr,sa,opt1,g1,Nat.reduceLeDiff,List.take,dB,he,blockQ]) | subst hK))
      all_goals (refine end_q [] [(8,8),(16,16)] ?_ ?_ <;> repeat' (first | exact trivial | exact vr_val _ | refine And.intro ⟨_,rfl,_,rfl,by decide,?_⟩ ?_ | apply And.intro))
    | false =>
      (have hg : (987654321 : Nat) - 987654321 = 0 := rfl; have hr := hg; repeat' (first | (with_reducible first | refine thenQ_n ?_ | refine blockQ_n ?_ | refine thenQ_e ?_ | refine blockQ_t ?_ | refine blockQ_f (by decide) ?_) | apply aw_seq | apply aw_skip | apply aw_exit | apply aw_ret | apply aw_block | apply aw_condT rfl | apply aw_condF rfl | (refine aw_cond rfl (fun hg => ?_) (fun hg => ?_) <;> (try (have hq := hg; simp only [Bool.not_eq_true',Bool.not_eq_false',Bool.and_eq_true,Bool.and_eq_false_iff,Bool.or_eq_true,Bool.or_eq_false_iff,decide_eq_true_eq,decide_eq_false_iff_not,bne_iff_ne,beq_iff_eq,beq_eq_false_iff_ne,bne_eq_false_iff_eq,ne_eq,Int.not_lt,Int.not_le,Decidable.not_not] at hq)) <;> (try (have hr := hg; simp only [decide_eq_true_eq,decide_eq_false_iff_not] at hr)) <;> (try (exfalso; omega))) | ((first | refine aw_hide fun K hK => aw_region ?_ | refine acallB (r1 _) (by repeat' (first | exact trivial | exact rfl | refine And.intro ?_ ?_)) (by kernel_rfl) (by kernel_rfl) (by kernel_rfl) ?_ | refine ago_if (by omega) ?_ | skip); simp (disch := first | exact okY | omega) only [ZU,Nat.reduceMul,Nat.reduceAdd,AOpRun,aexec,Nat.reduceBEq,↓eget_h,isSh,↓reduceIte,abin,hr,sa,opt1,g1,Nat.reduceLeDiff,List.take,dB,he,fits]) | subst hK))
      refine ⟨k + 1,⟨by omega,fun j hj => ?_⟩,by omega,?_⟩
      · rcases (by omega : j < k ∨ j = k) with h | rfl
        · exact hin j h
        · exact he
      · refine wk_q [] [(8,8),(16,16)] ?_ ?_ <;> repeat' (first | exact trivial | exact vr_val _ | exact vr_list _ | exact vr_ptr _ _ _ rfl | apply vr_fn | refine And.intro ⟨_,rfl,.inl ⟨_,rfl,by decide,?_⟩⟩ ?_ | apply And.intro)
  · obtain rfl : k = l.length := by omega
    have q : l.findIdx? (hitB p q) = none := by
      rw [List.findIdx?_eq_none_iff]
      intro y hy
      obtain ⟨j,hj,rfl⟩ := List.getElem_of_mem hy
      have := hin j hj
      simpa [hj] using this
    rw [q]
    (have hg : (987654321 : Nat) - 987654321 = 0 := rfl; have hr := hg; repeat' (first | (with_reducible first | refine thenQ_n ?_ | refine blockQ_n ?_ | refine thenQ_e ?_ | refine blockQ_t ?_ | refine blockQ_f (by decide) ?_) | apply aw_seq | apply aw_skip | apply aw_exit | apply aw_ret | apply aw_block | apply aw_condT rfl | apply aw_condF rfl | (refine aw_cond rfl (fun hg => ?_) (fun hg => ?_) <;> (try (have hq := hg; simp only [Bool.not_eq_true',Bool.not_eq_false',Bool.and_eq_true,Bool.and_eq_false_iff,Bool.or_eq_true,Bool.or_eq_false_iff,decide_eq_true_eq,decide_eq_false_iff_not,bne_iff_ne,beq_iff_eq,beq_eq_false_iff_ne,bne_eq_false_iff_eq,ne_eq,Int.not_lt,Int.not_le,Decidable.not_not] at hq)) <;> (try (have hr := hg; simp only [decide_eq_true_eq,decide_eq_false_iff_not] at hr)) <;> (try (exfalso; omega))) | ((first | refine aw_hide fun K hK => aw_region ?_ | refine ago_if (by omega) ?_ | skip); simp (disch := first | exact okY | omega) only [ZU,Nat.reduceMul,Nat.reduceAdd,AOpRun,aexec,Nat.reduceBEq,↓eget_h,isSh,↓reduceIte,abin,Int.reduceNeg,hr,decide_false]) | subst hK))
    all_goals (refine end_q [] [(8,8),(16,16)] ?_ ?_ <;> repeat' (first | exact trivial | exact vr_val _ | refine And.intro ⟨_,rfl,_,rfl,by decide,?_⟩ ?_ | apply And.intro))
theorem contHC_ac (p q : Ps) (l : List (Int × Int)) (hl : l.length ≤ 1000000) : AC Tryz.prog 99 [.list (sps l),.fn 120 [] [.ptr 8 0,.ptr 16 0]] [(8,psL p),(16,psL q)] [(8,some (psL p)),(16,some (psL q))] (dB (l.any (hitB p q))) := by
  refine kslices_ContainsFunc_L_L_Japi_Hindrance_Kapi_Hindrance_J.ac (n0 := 200) (by simp) ⟨.list _,.fn _ _ _ (by simp) (by intro d hd; simp at hd; rcases hd with rfl | rfl <;> exact .ptr _ _ (by omega)),trivial⟩ ⟨⟨by omega,dint_in _ rfl⟩,⟨by omega,dint_in _ rfl⟩,trivial⟩ rfl ?_
  unfold cslices_ContainsFunc_L_L_Japi_Hindrance_Kapi_Hindrance_J
  have hf := idxHC_ac p q l hl
  unfold psL dI at *
  cases h : l.findIdx? (hitB p q) with
  | none =>
    have ha : l.any (hitB p q) = false := by
      rw [List.findIdx?_eq_none_iff] at h
      rw [List.any_eq_false]
      intro x hx
      simp [h x hx]
    rw [h] at hf
    rw [ha]
    (repeat' (first | (with_reducible first | refine thenQ_n ?_ | refine blockQ_n ?_ | refine thenQ_e ?_ | refine blockQ_t ?_ | refine blockQ_f (by decide) ?_) | apply aw_seq | apply aw_skip | apply aw_exit | apply aw_ret | apply aw_block | apply aw_condT rfl | apply aw_condF rfl | ((first | refine aw_hide fun K hK => aw_region ?_ | refine acallB (hf) (by repeat' (first | exact trivial | exact rfl | refine And.intro ?_ ?_)) (by kernel_rfl) (by kernel_rfl) (by kernel_rfl) ?_ | refine ago_if (by omega) ?_ | skip); simp (disch := first | exact okY | omega) only [ZU,Nat.reduceMul,Nat.reduceAdd,AOpRun,aexec,Nat.reduceBEq,↓eget_h,Int.reduceNeg,isSh,↓reduceIte,abin,dB]) | subst hK))
    all_goals (refine end_q [] [(8,8),(16,16)] ?_ ?_ <;> repeat' (first | exact trivial | exact vr_val _ | refine And.intro ⟨_,rfl,_,rfl,by decide,?_⟩ ?_ | apply And.intro))
  | some k =>
    have ha : l.any (hitB p q) = true := by
      rw [List.findIdx?_eq_some_iff_getElem] at h
      obtain ⟨hk,he,_⟩ := h
      exact List.any_eq_true.2 ⟨l[k],List.getElem_mem hk,he⟩
    rw [h] at hf
    rw [ha]
    have q : decide ((k : Int) ≥ 0) = true := decide_eq_true (by omega)
    (repeat' (first | (with_reducible first | refine thenQ_n ?_ | refine blockQ_n ?_ | refine thenQ_e ?_ | refine blockQ_t ?_ | refine blockQ_f (by decide) ?_) | apply aw_seq | apply aw_skip | apply aw_exit | apply aw_ret | apply aw_block | apply aw_condT rfl | apply aw_condF rfl | ((first | refine aw_hide fun K hK => aw_region ?_ | refine acallB (hf) (by repeat' (first | exact trivial | exact rfl | refine And.intro ?_ ?_)) (by kernel_rfl) (by kernel_rfl) (by kernel_rfl) ?_ | refine ago_if (by omega) ?_ | skip); simp (disch := first | exact okY | omega) only [ZU,Nat.reduceMul,Nat.reduceAdd,AOpRun,aexec,Nat.reduceBEq,↓eget_h,isSh,↓reduceIte,abin,dB]) | subst hK))
    all_goals (refine end_q [] [(8,8),(16,16)] ?_ ?_ <;> repeat' (first | exact trivial | exact vr_val _ | refine And.intro ⟨_,rfl,_,rfl,by decide,?_⟩ ?_ | apply And.intro))
theorem idxHF_ac (l : List (Int × Int)) (hl : l.length ≤ 1000000) : AC Tryz.prog 119 [.list (sps l),.fn 100 [] []] [] [] (dI (match l.findIdx? badH with
    | some k => (k : Int)
    | none => -1)) := by
  refine kslices_IndexFunc_L_L_Japi_Hindrance_Kapi_Hindrance_J.ac (n0 := 200) (by simp) ⟨.list _,.fn _ _ _ (by simp) (by simp),trivial⟩ trivial rfl ?_
  have r1 := fun x => checkField1_ac x
  have sl := sps_len l
  have sa := sps_all l
  have sg := fun k => spz_gd2 l k
  unfold cslices_IndexFunc_L_L_Japi_Hindrance_Kapi_Hindrance_J
  unfold dI at *
  (repeat' (first | (with_reducible first | refine thenQ_n ?_ | refine blockQ_n ?_ | refine thenQ_e ?_ | refine blockQ_t ?_ | refine blockQ_f (by decide) ?_) | apply aw_seq | apply aw_skip | apply aw_exit | apply aw_ret | apply aw_block | apply aw_condT rfl | apply aw_condF rfl | ((first | refine aw_hide fun K hK => aw_region ?_ | refine ago_if (by omega) ?_ | skip); simp (disch := first | exact okY | omega) only [ZU,Nat.reduceMul,Nat.reduceAdd,AOpRun,aexec,Nat.reduceBEq,↓eget_h,sl,Int.reduceNeg]) | subst hK))
  refine aw_loop (fun k : Nat => ⟨[(0,.list (sps l)),(1,.fn 100 [] []),(7,dI l.length),(8,dI k)],[],400⟩) (fun k => k ≤ l.length ∧ ∀ j,j < k → badH (l[j]?.getD (0,0)) = false) (fun k => l.length - k) ⟨0,⟨by omega,fun j hj => by omega⟩,?_⟩ ?_
  · unfold dI
    refine wk_q [] [] ?_ ?_ <;> repeat' (first | exact trivial | exact vr_val _ | exact vr_list _ | apply vr_fn | apply And.intro)
  rintro k ⟨hk,hin⟩
  unfold dI
  by_cases hk2 : k < l.length
  · have g1 := sg k hk2
    cases he : badH (l[k]?.getD (0,0)) with
    | true =>
      have q : l.findIdx? badH = some k := by
        rw [List.findIdx?_eq_some_iff_getElem]
        refine ⟨hk2,by have := he; simp [hk2] at this; simp [this],fun j hj => ?_⟩
        have := hin j hj
        simpa [show j < l.length by omega] using this
      rw [q]
      (have hg : (987654321 : Nat) - 987654321 = 0 := rfl; have hr := hg; repeat' (first | (with_reducible first | refine thenQ_n ?_ | refine blockQ_n ?_ | refine thenQ_e ?_ | refine blockQ_t ?_ | refine blockQ_f (by decide) ?_) | apply aw_seq | apply aw_skip | apply aw_exit | apply aw_ret | apply aw_block | apply aw_condT rfl | apply aw_condF rfl | (refine aw_cond rfl (fun hg => ?_) (fun hg => ?_) <;> (try (have hq := hg; simp only [Bool.not_eq_true',Bool.not_eq_false',Bool.and_eq_true,Bool.and_eq_false_iff,Bool.or_eq_true,Bool.or_eq_false_iff,decide_eq_true_eq,decide_eq_false_iff_not,bne_iff_ne,beq_iff_eq,beq_eq_false_iff_ne,bne_eq_false_iff_eq,ne_eq,Int.not_lt,Int.not_le,Decidable.not_not] at hq)) <;> (try (have hr := hg; simp only [decide_eq_true_eq,decide_eq_false_iff_not] at hr)) <;> (try (exfalso; omega))) | ((first | refine aw_hide fun K hK => aw_region ?_ | refine acall0 (r1 _) ?_ | refine ago_if (by omega) ?_ | skip); simp (disch := first | exact okY | omega) only [ZU,Nat.reduceMul,Nat.reduceAdd,AOpRun,aexec,Nat.reduceBEq,↓eget_h,isSh,↓reduceIte,abin,hr,sa,opt1,g1,Nat.reduceLeDiff,List.take,dB,he,blockQ]) | subst hK))
      all_goals (refine end_q [] [] ?_ ?_ <;> repeat' (first | exact trivial | exact vr_val _))
    | false =>
      (have hg : (987654321 : Nat) - 987654321 = 0 := rfl; have hr := hg; repeat' (first | (with_reducible first | refine thenQ_n ?_ | refine blockQ_n ?_ | refine thenQ_e ?_ | refine blockQ_t ?_ | refine blockQ_f (by decide) ?_) | apply aw_seq | apply aw_skip | apply aw_exit | apply aw_ret | apply aw_block | apply aw_condT rfl | apply aw_condF rfl | (refine aw_cond rfl (fun hg => ?_) (fun hg => ?_) <;> (try (have hq := hg; simp only [Bool.not_eq_true',Bool.not_eq_false',Bool.and_eq_true,Bool.and_eq_false_iff,Bool.or_eq_true,Bool.or_eq_false_iff,decide_eq_true_eq,decide_eq_false_iff_not,bne_iff_ne,beq_iff_eq,beq_eq_false_iff_ne,bne_eq_false_iff_eq,ne_eq,Int.not_lt,Int.not_le,Decidable.not_not] at hq)) <;> (try (have hr := hg; simp only [decide_eq_true_eq,decide_eq_false_iff_not] at hr)) <;> (try (exfalso; omega))) | ((first | refine aw_hide fun K hK => aw_region ?_ | refine acall0 (r1 _) ?_ | refine ago_if (by omega) ?_ | skip); simp (disch := first | exact okY | omega) only [ZU,Nat.reduceMul,Nat.reduceAdd,AOpRun,aexec,Nat.reduceBEq,↓eget_h,isSh,↓reduceIte,abin,hr,sa,opt1,g1,Nat.reduceLeDiff,List.take,dB,he,fits]) | subst hK))
      refine ⟨k + 1,⟨by omega,fun j hj => ?_⟩,by omega,?_⟩
      · rcases (by omega : j < k ∨ j = k) with h | rfl
        · exact hin j h
        · exact he
      · refine wk_q [] [] ?_ ?_ <;> repeat' (first | exact trivial | exact vr_val _ | exact vr_list _ | apply vr_fn | apply And.intro)
  · obtain rfl : k = l.length := by omega
    have q : l.findIdx? badH = none := by
      rw [List.findIdx?_eq_none_iff]
      intro y hy
      obtain ⟨j,hj,rfl⟩ := List.getElem_of_mem hy
      have := hin j hj
      simpa [hj] using this
    rw [q]
    (have hg : (987654321 : Nat) - 987654321 = 0 := rfl; have hr := hg; repeat' (first | (with_reducible first | refine thenQ_n ?_ | refine blockQ_n ?_ | refine thenQ_e ?_ | refine blockQ_t ?_ | refine blockQ_f (by decide) ?_) | apply aw_seq | apply aw_skip | apply aw_exit | apply aw_ret | apply aw_block | apply aw_condT rfl | apply aw_condF rfl | (refine aw_cond rfl (fun hg => ?_) (fun hg => ?_) <;> (try (have hq := hg; simp only [Bool.not_eq_true',Bool.not_eq_false',Bool.and_eq_true,Bool.and_eq_false_iff,Bool.or_eq_true,Bool.or_eq_false_iff,decide_eq_true_eq,decide_eq_false_iff_not,bne_iff_ne,beq_iff_eq,beq_eq_false_iff_ne,bne_eq_false_iff_eq,ne_eq,Int.not_lt,Int.not_le,Decidable.not_not] at hq)) <;> (try (have hr := hg; simp only [decide_eq_true_eq,decide_eq_false_iff_not] at hr)) <;> (try (exfalso; omega))) | ((first | refine aw_hide fun K hK => aw_region ?_ | refine ago_if (by omega) ?_ | skip); simp (disch := first | exact okY | omega) only [ZU,Nat.reduceMul,Nat.reduceAdd,AOpRun,aexec,Nat.reduceBEq,↓eget_h,isSh,↓reduceIte,abin,Int.reduceNeg,hr,decide_false]) | subst hK))
    all_goals (refine end_q [] [] ?_ ?_ <;> repeat' (first | exact trivial | exact vr_val _))
theorem contHF_ac (l : List (Int × Int)) (hl : l.length ≤ 1000000) : AC Tryz.prog 99 [.list (sps l),.fn 100 [] []] [] [] (dB (l.any badH)) := by
  refine kslices_ContainsFunc_L_L_Japi_Hindrance_Kapi_Hindrance_J.ac (n0 := 200) (by simp) ⟨.list _,.fn _ _ _ (by simp) (by simp),trivial⟩ trivial rfl ?_
  unfold cslices_ContainsFunc_L_L_Japi_Hindrance_Kapi_Hindrance_J
  have hf := idxHF_ac  l hl
  unfold dI at *
  cases h : l.findIdx? badH with
  | none =>
    have ha : l.any badH = false := by
      rw [List.findIdx?_eq_none_iff] at h
      rw [List.any_eq_false]
      intro x hx
      simp [h x hx]
    rw [h] at hf
    rw [ha]
    (repeat' (first | (with_reducible first | refine thenQ_n ?_ | refine blockQ_n ?_ | refine thenQ_e ?_ | refine blockQ_t ?_ | refine blockQ_f (by decide) ?_) | apply aw_seq | apply aw_skip | apply aw_exit | apply aw_ret | apply aw_block | apply aw_condT rfl | apply aw_condF rfl | ((first | refine aw_hide fun K hK => aw_region ?_ | refine acall0 (hf) ?_ | refine ago_if (by omega) ?_ | skip); simp (disch := first | exact okY | omega) only [ZU,Nat.reduceMul,Nat.reduceAdd,AOpRun,aexec,Nat.reduceBEq,↓eget_h,Int.reduceNeg,isSh,↓reduceIte,abin,dB]) | subst hK))
    all_goals (refine end_q [] [] ?_ ?_ <;> repeat' (first | exact trivial | exact vr_val _))
  | some k =>
    have ha : l.any badH = true := by
      rw [List.findIdx?_eq_some_iff_getElem] at h
      obtain ⟨hk,he,_⟩ := h
      exact List.any_eq_true.2 ⟨l[k],List.getElem_mem hk,he⟩
    rw [h] at hf
    rw [ha]
    have q : decide ((k : Int) ≥ 0) = true := decide_eq_true (by omega)
    (repeat' (first | (with_reducible first | refine thenQ_n ?_ | refine blockQ_n ?_ | refine thenQ_e ?_ | refine blockQ_t ?_ | refine blockQ_f (by decide) ?_) | apply aw_seq | apply aw_skip | apply aw_exit | apply aw_ret | apply aw_block | apply aw_condT rfl | apply aw_condF rfl | ((first | refine aw_hide fun K hK => aw_region ?_ | refine acall0 (hf) ?_ | refine ago_if (by omega) ?_ | skip); simp (disch := first | exact okY | omega) only [ZU,Nat.reduceMul,Nat.reduceAdd,AOpRun,aexec,Nat.reduceBEq,↓eget_h,isSh,↓reduceIte,abin,dB]) | subst hK))
    all_goals (refine end_q [] [] ?_ ?_ <;> repeat' (first | exact trivial | exact vr_val _))
theorem clear_ac (s : Ste) (C : List D) (cl sf : Int) (p q : Ps) (hl : s.hind.length ≤ 6) : AC Tryz.prog 102 [.agg (siteL s C cl sf),.agg (psL p),.agg (psL q)] [] [] (dB (clearB s p q)) := by
  refine kengine_site_clear.ac (n0 := 0) (by simp) ⟨.agg _ (dint_in _ rfl),.agg _ (dint_in _ rfl),.agg _ (dint_in _ rfl),trivial⟩ trivial rfl ?_
  have c := contHC_ac p q s.hind (by omega)
  unfold cengine_site_clear clearB siteL
  unfold psL at *
  unfold dI at *
  cases hb : s.hind.any (hitB p q) <;> rw [hb] at c
  all_goals
    (repeat' (first | (with_reducible first | refine thenQ_n ?_ | refine blockQ_n ?_ | refine thenQ_e ?_ | refine blockQ_t ?_ | refine blockQ_f (by decide) ?_) | apply aw_seq | apply aw_skip | apply aw_exit | apply aw_ret | apply aw_block | apply aw_condT rfl | apply aw_condF rfl | ((first | refine aw_hide fun K hK => aw_region ?_ | refine acallB (c) (by repeat' (first | exact trivial | exact rfl | refine And.intro ?_ ?_)) (by kernel_rfl) (by kernel_rfl) (by kernel_rfl) ?_ | refine ago_if (by omega) ?_ | skip); simp (disch := first | exact okY | omega) only [ZU,Nat.reduceAdd,Nat.reduceMul,AOpRun,aexec,D.isBot,↓eget_h,or_self,↓reduceIte,D.cells,Nat.reduceBEq,run1,dB]) | subst hK))
    all_goals (refine end_q [] [] ?_ ?_ <;> repeat' (first | exact trivial | exact vr_val _))
end Go.Proofs.YtbncpngjclabhaaGreat
/- The functions' bodies, translated. Written by a program; no conditions. -/
namespace Go.Proofs.YtbncpngjclabhaaGreat
open Go.RowKit Lift

def cengine_on : ACode :=
 (.seq
 (.region false [oo 4 (.mv (.const (.bool false)))] [])
 (.seq
 (.region false [om 5 1,
 om 6 0,
 oo 7 (.iadS 1 (.tmp 6) (kI 0)),
 oo 8 (.load1 (.tmp 7)),
 oo 9 (.bin .geq (.tmp 5) (.tmp 8)),
 om 10 9,
 og 11 10 true (.mv (.tmp 1)) [],
 og 12 10 true (.mv (.tmp 0)) [],
 og 13 10 true (.mv (.tmp 0)) [],
 og 14 10 true (.len_ (.tmp 13)) [],
 og 15 10 true (.bin .sub (.tmp 14) (kI 1)) [],
 og 16 10 true (.iadS 1 (.tmp 12) (.tmp 15)) [],
 og 17 10 true (.load1 (.tmp 16)) [],
 og 18 10 true (.bin .leq (.tmp 11) (.tmp 17)) [],
 oo 19 (.pick (.tmp 10) (.tmp 18) (.const (.bool false))),
 om 4 19] [5,6,7,8,9,10,11,12,13,14,15,16,17,18,19])
 .ret))
theorem kengine_on : IsCode Tryz.prog 112 20 cengine_on [.tmp 4] :=
 ⟨Tryz.f112,_,[1,0,4],Tryz.func112,rfl,by decide,rfl,by kernel_rfl,by kernel_rfl⟩
def cengine_lies : ACode :=
 (.seq
 (.region false [oo 3 (.box (.tmp 1)),
 oo 4 (.mv (.const (.bool false)))] [])
 (.seq
 (.region false [om 5 0,
 oo 6 (.fad 0 (.tmp 3)),
 oo 7 (.load1 (.tmp 6)),
 oo 8 (.call (.func 112) [(.tmp 5),(.tmp 7)]),
 om 9 8,
 og 10 9 true (.mv (.tmp 0)) [],
 og 11 9 true (.fad 1 (.tmp 3)) [],
 og 12 9 true (.load1 (.tmp 11)) [],
 og 13 9 true (.call (.func 112) [(.tmp 10),(.tmp 12)]) [],
 oo 14 (.pick (.tmp 9) (.tmp 13) (.const (.bool false))),
 om 4 14] [5,6,7,8,9,10,11,12,13,14])
 .ret))
theorem kengine_lies : IsCode Tryz.prog 93 15 cengine_lies [.tmp 4] :=
 ⟨Tryz.f93,_,[1,0,3,4],Tryz.func93,rfl,by decide,rfl,by kernel_rfl,by kernel_rfl⟩
def cengine_floor : ACode :=
 (.seq
 (.region false [oo 4 (.mv (kI 0))] [])
 (.seq
 (.region false [om 6 0,
 om 7 1,
 oo 8 (.bin .quo (.tmp 6) (.tmp 7)),
 om 5 8] [6,7,8])
 (.seq
 (.seq
 (.region false [om 9 5,
 om 10 1,
 oo 11 (.bin .mul (.tmp 9) (.tmp 10)),
 om 12 0,
 oo 13 (.bin .gtr (.tmp 11) (.tmp 12))] [9,10,11,12])
 (.cond (.tmp 13)
 (.region false [om 14 5,
 oo 15 (.bin .sub (.tmp 14) (kI 1)),
 om 5 15] [14,15])
 .skip))
 (.seq
 (.region false [om 16 5,
 om 4 16] [16])
 .ret))))
theorem kengine_floor : IsCode Tryz.prog 97 17 cengine_floor [.tmp 4] :=
 ⟨Tryz.f97,_,[13,0,1,5,4],Tryz.func97,rfl,by decide,rfl,by kernel_rfl,by kernel_rfl⟩
def cengine_checkCraft : ACode :=
 (.seq
 (.region false [oo 1 (.box (.tmp 0)),
 oo 2 (.mv (kI 0))] [])
 (.seq
 (.seq
 (.region false [oo 5 (.fad 0 (.tmp 1)),
 oo 6 (.loadN 26 (.tmp 5)),
 oo 7 (.call (.func 43) [(.tmp 6)]),
 om 3 7] [5,6,7])
 (.seq
 (.region false [om 8 3,
 oo 9 (.bin .neq (.tmp 8) (kI 0))] [8])
 (.cond (.tmp 9)
 (.seq
 (.region false [om 10 3,
 om 2 10] [10])
 .ret)
 .skip)))
 (.seq
 (.seq
 (.region false [oo 11 (.fad 26 (.tmp 1)),
 oo 12 (.load1 (.tmp 11)),
 oo 13 (.call (.func 39) [(.tmp 12),(kI 0),(kI 100)]),
 oo 14 (.un .not (.tmp 13)),
 om 15 14,
 og 16 15 false (.fad 27 (.tmp 1)) [],
 og 17 15 false (.load1 (.tmp 16)) [],
 og 18 15 false (.call (.func 39) [(.tmp 17),(kI 1),(kI 1000)]) [],
 og 19 15 false (.un .not (.tmp 18)) [],
 oo 20 (.pick (.tmp 15) (.const (.bool true)) (.tmp 19)),
 om 21 20,
 og 22 21 false (.fad 28 (.tmp 1)) [],
 og 23 21 false (.load1 (.tmp 22)) [],
 og 24 21 false (.call (.func 39) [(.tmp 23),(kI 1),(kI 1000)]) [],
 og 25 21 false (.un .not (.tmp 24)) [],
 oo 26 (.pick (.tmp 21) (.const (.bool true)) (.tmp 25)),
 om 27 26,
 og 28 27 false (.fad 29 (.tmp 1)) [],
 og 29 27 false (.load1 (.tmp 28)) [],
 og 30 27 false (.call (.func 39) [(.tmp 29),(kI 1),(kI 6)]) [],
 og 31 27 false (.un .not (.tmp 30)) [],
 oo 32 (.pick (.tmp 27) (.const (.bool true)) (.tmp 31)),
 om 33 32,
 og 34 33 false (.fad 30 (.tmp 1)) [],
 og 35 33 false (.load1 (.tmp 34)) [],
 og 36 33 false (.call (.func 39) [(.tmp 35),(kI 1),(kI 3)]) [],
 og 37 33 false (.un .not (.tmp 36)) [],
 oo 38 (.pick (.tmp 33) (.const (.bool true)) (.tmp 37)),
 om 39 38,
 og 40 39 false (.fad 31 (.tmp 1)) [],
 og 41 39 false (.load1 (.tmp 40)) [],
 og 42 39 false (.fad 29 (.tmp 1)) [],
 og 43 39 false (.load1 (.tmp 42)) [],
 og 44 39 false (.call (.func 39) [(.tmp 41),(kI 0),(.tmp 43)]) [],
 og 45 39 false (.un .not (.tmp 44)) [],
 oo 46 (.pick (.tmp 39) (.const (.bool true)) (.tmp 45)),
 om 47 46,
 og 48 47 false (.fad 32 (.tmp 1)) [],
 og 49 47 false (.load1 (.tmp 48)) [],
 og 50 47 false (.fad 30 (.tmp 1)) [],
 og 51 47 false (.load1 (.tmp 50)) [],
 og 52 47 false (.call (.func 39) [(.tmp 49),(kI 1),(.tmp 51)]) [],
 og 53 47 false (.un .not (.tmp 52)) [],
 oo 54 (.pick (.tmp 47) (.const (.bool true)) (.tmp 53))] [11,12,13,14,15,16,17,18,19,20,21,22,23,24,25,26,27,28,29,30,31,32,33,34,35,36,37,38,39,40,41,42,43,44,45,46,47,48,49,50,51,52,53])
 (.cond (.tmp 54)
 (.seq
 (.region false [oo 2 (.mv (kI 30))] [])
 .ret)
 .skip))
 (.seq
 (.seq
 (.region false [oo 55 (.fad 0 (.tmp 1)),
 oo 56 (.fad 6 (.tmp 55)),
 oo 57 (.fad 0 (.tmp 56)),
 oo 58 (.load1 (.tmp 57)),
 om 4 58] [55,56,57,58])
 (.seq
 (.region false [om 59 4,
 oo 60 (.call (.func 112) [(.tmp 59),(kI 0)]),
 oo 61 (.un .not (.tmp 60)),
 om 62 61,
 og 63 62 false (.mv (.tmp 4)) [],
 og 64 62 false (.fad 29 (.tmp 1)) [],
 og 65 62 false (.load1 (.tmp 64)) [],
 og 66 62 false (.fad 27 (.tmp 1)) [],
 og 67 62 false (.load1 (.tmp 66)) [],
 og 68 62 false (.bin .mul (.tmp 65) (.tmp 67)) [],
 og 69 62 false (.call (.func 112) [(.tmp 63),(.tmp 68)]) [],
 og 70 62 false (.un .not (.tmp 69)) [],
 oo 71 (.pick (.tmp 62) (.const (.bool true)) (.tmp 70)),
 om 72 71,
 og 73 72 false (.fad 0 (.tmp 1)) [],
 og 74 72 false (.fad 15 (.tmp 73)) [],
 og 75 72 false (.fad 0 (.tmp 74)) [],
 og 76 72 false (.load1 (.tmp 75)) [],
 og 77 72 false (.call (.func 112) [(.tmp 76),(kI 0)]) [],
 og 78 72 false (.un .not (.tmp 77)) [],
 oo 79 (.pick (.tmp 72) (.const (.bool true)) (.tmp 78))] [59,60,61,62,63,64,65,66,67,68,69,70,71,72,73,74,75,76,77,78])
 (.cond (.tmp 79)
 (.seq
 (.region false [oo 2 (.mv (kI 30))] [])
 .ret)
 .skip)))
 (.seq
 (.region false [oo 2 (.mv (kI 0))] [])
 .ret)))))
theorem kengine_checkCraft : IsCode Tryz.prog 92 80 cengine_checkCraft [.tmp 2] :=
 ⟨Tryz.f92,_,[79,54,9,0,1,3,4,2],Tryz.func92,rfl,by decide,rfl,by kernel_rfl,by kernel_rfl⟩
def cengine_newCraft : ACode :=
 (.seq
 (.region false [oo 2 (.box (.tmp 0)),
 oo 3 (.box (.tmp 1)),
 oo 4 (.mv (.const (.pointer none))),
 oo 5 (.mv (kI 0))] [])
 (.seq
 (.seq
 (.region false [oo 25 (.loadN 33 (.tmp 2)),
 oo 26 (.call (.func 92) [(.tmp 25)]),
 om 6 26] [25,26])
 (.seq
 (.region false [om 27 6,
 oo 28 (.bin .neq (.tmp 27) (kI 0))] [27])
 (.cond (.tmp 28)
 (.seq
 (.region false [om 29 6,
 oo 4 (.mv (.const (.pointer none))),
 om 5 29] [29])
 .ret)
 .skip)))
 (.seq
 (.seq
 (.region false [oo 30 (.fad 0 (.tmp 3)),
 oo 31 (.loadN 2 (.tmp 30)),
 oo 32 (.fad 2 (.tmp 3)),
 oo 33 (.loadN 2 (.tmp 32)),
 oo 34 (.fad 4 (.tmp 3)),
 oo 35 (.loadN 2 (.tmp 34)),
 oo 36 (.fad 6 (.tmp 3)),
 oo 37 (.loadN 2 (.tmp 36)),
 oo 38 (.buildSl 2 4 [(.val (.int .i64 0)),(.val (.int .i64 0)),(.val (.int .i64 0)),(.val (.int .i64 0)),(.val (.int .i64 0)),(.val (.int .i64 0)),(.val (.int .i64 0)),(.val (.int .i64 0))] [(0,2,(.tmp 31)),(2,2,(.tmp 33)),(4,2,(.tmp 35)),(6,2,(.tmp 37))]),
 oo 39 (.len_ (.tmp 38)),
 oo 40 (.mv (kI 0))] [30,31,32,33,34,35,36,37])
 (.block 0
 (.loop
 (.seq
 (.region false [oo 41 (.bin .lss (.tmp 40) (.tmp 39))] [])
 (.seq
 (.cond (.tmp 41)
 .skip
 (.exit 0))
 (.seq
 (.block 1
 (.seq
 (.region false [oo 42 (.iadS 2 (.tmp 38) (.tmp 40)),
 oo 43 (.loadN 2 (.tmp 42)),
 oo 8 (.mem [(.val (.int .i64 0)),(.val (.int .i64 0))]),
 on (.store 2 (.tmp 8) (.tmp 43))] [42,43])
 (.seq
 (.region false [oo 44 (.loadN 2 (.tmp 8)),
 oo 45 (.buildSl 2 1 [(.val (.int .i64 0)),(.val (.int .i64 0))] [(0,2,(.tmp 44))]),
 oo 46 (.call (.func 48) [(.tmp 45)]),
 oo 47 (.bin .neq (.tmp 46) (kI 0))] [44,45,46])
 (.cond (.tmp 47)
 (.seq
 (.region false [oo 4 (.mv (.const (.pointer none))),
 oo 5 (.mv (kI 21))] [])
 .ret)
 .skip))))
 (.region false [oo 48 (.bin .add (.tmp 40) (kI 1)),
 om 40 48] [48])))))))
 (.seq
 (.region false [oo 49 (.fad 0 (.tmp 2)),
 oo 50 (.loadN 26 (.tmp 49)),
 oo 9 (.mem [(.val (.slice none 0 0)),(.val (.slice none 0 0)),(.val (.slice none 0 0)),(.val (.slice none 0 0)),(.val (.slice none 0 0)),(.val (.slice none 0 0)),(.val (.slice none 0 0)),(.val (.slice none 0 0)),(.val (.slice none 0 0)),(.val (.slice none 0 0)),(.val (.slice none 0 0)),(.val (.slice none 0 0)),(.val (.slice none 0 0)),(.val (.slice none 0 0)),(.val (.slice none 0 0)),(.val (.slice none 0 0)),(.val (.slice none 0 0)),(.val (.slice none 0 0)),(.val (.slice none 0 0)),(.val (.slice none 0 0)),(.val (.slice none 0 0)),(.val (.slice none 0 0)),(.val (.slice none 0 0)),(.val (.slice none 0 0)),(.val (.int .i64 0)),(.val (.int .i64 0))]),
 on (.store 26 (.tmp 9) (.tmp 50))] [49,50])
 (.seq
 (.seq
 (.region false [oo 51 (.fad 9 (.tmp 9)),
 oo 52 (.fad 0 (.tmp 51)),
 oo 53 (.load1 (.tmp 52)),
 oo 54 (.fad 2 (.tmp 3)),
 oo 55 (.loadN 2 (.tmp 54)),
 oo 56 (.call (.func 93) [(.tmp 53),(.tmp 55)]),
 oo 57 (.un .not (.tmp 56)),
 om 58 57,
 og 59 58 false (.fad 9 (.tmp 9)) [],
 og 60 58 false (.fad 1 (.tmp 59)) [],
 og 61 58 false (.load1 (.tmp 60)) [],
 og 62 58 false (.fad 4 (.tmp 3)) [],
 og 63 58 false (.loadN 2 (.tmp 62)) [],
 og 64 58 false (.call (.func 93) [(.tmp 61),(.tmp 63)]) [],
 og 65 58 false (.un .not (.tmp 64)) [],
 oo 66 (.pick (.tmp 58) (.const (.bool true)) (.tmp 65)),
 om 67 66,
 og 68 67 false (.fad 6 (.tmp 9)) [],
 og 69 67 false (.fad 1 (.tmp 68)) [],
 og 70 67 false (.load1 (.tmp 69)) [],
 og 71 67 false (.fad 0 (.tmp 3)) [],
 og 72 67 false (.loadN 2 (.tmp 71)) [],
 og 73 67 false (.call (.func 93) [(.tmp 70),(.tmp 72)]) [],
 og 74 67 false (.un .not (.tmp 73)) [],
 oo 75 (.pick (.tmp 67) (.const (.bool true)) (.tmp 74)),
 om 76 75,
 og 77 76 false (.fad 15 (.tmp 9)) [],
 og 78 76 false (.fad 1 (.tmp 77)) [],
 og 79 76 false (.load1 (.tmp 78)) [],
 og 80 76 false (.fad 0 (.tmp 3)) [],
 og 81 76 false (.loadN 2 (.tmp 80)) [],
 og 82 76 false (.call (.func 93) [(.tmp 79),(.tmp 81)]) [],
 og 83 76 false (.un .not (.tmp 82)) [],
 oo 84 (.pick (.tmp 76) (.const (.bool true)) (.tmp 83))] [51,52,53,54,55,56,57,58,59,60,61,62,63,64,65,66,67,68,69,70,71,72,73,74,75,76,77,78,79,80,81,82,83])
 (.cond (.tmp 84)
 (.seq
 (.region false [oo 4 (.mv (.const (.pointer none))),
 oo 5 (.mv (kI 1))] [])
 .ret)
 .skip))
 (.seq
 (.region false [oo 85 (.loadN 33 (.tmp 2)),
 oo 86 (.build [(.val (.slice none 0 0)),(.val (.slice none 0 0)),(.val (.slice none 0 0)),(.val (.slice none 0 0)),(.val (.slice none 0 0)),(.val (.slice none 0 0)),(.val (.slice none 0 0)),(.val (.slice none 0 0)),(.val (.slice none 0 0)),(.val (.slice none 0 0)),(.val (.slice none 0 0)),(.val (.slice none 0 0)),(.val (.slice none 0 0)),(.val (.slice none 0 0)),(.val (.slice none 0 0)),(.val (.slice none 0 0)),(.val (.slice none 0 0)),(.val (.slice none 0 0)),(.val (.slice none 0 0)),(.val (.slice none 0 0)),(.val (.slice none 0 0)),(.val (.slice none 0 0)),(.val (.slice none 0 0)),(.val (.slice none 0 0)),(.val (.int .i64 0)),(.val (.int .i64 0)),(.val (.int .i64 0)),(.val (.int .i64 0)),(.val (.int .i64 0)),(.val (.int .i64 0)),(.val (.int .i64 0)),(.val (.int .i64 0)),(.val (.int .i64 0)),(.val (.slice none 0 0)),(.val (.slice none 0 0)),(.val (.slice none 0 0))] [(0,33,(.tmp 85))]),
 oo 87 (.box (.tmp 86)),
 om 10 87] [85,86,87])
 (.seq
 (.region false [oo 89 (.loadN 26 (.tmp 9)),
 oo 90 (.loadN 8 (.tmp 3)),
 oo 91 (.call (.func 94) [(.tmp 89),(.tmp 90)]),
 om 88 91,
 oo 92 (.ext (.tmp 88) 0),
 oo 93 (.ext (.tmp 88) 1),
 oo 11 (.mem [(.val (.int .i64 0)),(.val (.int .i64 0))]),
 on (.store 2 (.tmp 11) (.tmp 92)),
 om 12 93] [89,90,91,88,92,93,12])
 (.seq
 (.region false [oo 95 (.loadN 2 (.tmp 11)),
 oo 96 (.fad 26 (.tmp 2)),
 oo 97 (.load1 (.tmp 96)),
 oo 98 (.call (.func 95) [(.tmp 95),(.tmp 97),(kI 100)]),
 om 94 98,
 oo 99 (.ext (.tmp 94) 0),
 oo 100 (.ext (.tmp 94) 1),
 oo 13 (.mem [(.val (.int .i64 0)),(.val (.int .i64 0))]),
 on (.store 2 (.tmp 13) (.tmp 99)),
 om 14 100] [95,96,97,98,94,99,100,14])
 (.seq
 (.seq
 (.region false [oo 101 (.fad 29 (.tmp 2)),
 oo 102 (.load1 (.tmp 101)),
 oo 103 (.bin .add (.tmp 102) (kI 1)),
 oo 104 (.mv (kI 0))] [101,102])
 (.block 2
 (.loop
 (.seq
 (.region false [oo 105 (.bin .lss (.tmp 104) (.tmp 103))] [])
 (.seq
 (.cond (.tmp 105)
 .skip
 (.exit 2))
 (.seq
 (.block 3
 (.seq
 (.region false [om 106 104,
 om 15 106] [106])
 (.seq
 (.region false [om 107 15,
 oo 108 (.fad 27 (.tmp 2)),
 oo 109 (.load1 (.tmp 108)),
 oo 110 (.bin .mul (.tmp 107) (.tmp 109)),
 om 111 15,
 oo 112 (.fad 27 (.tmp 2)),
 oo 113 (.load1 (.tmp 112)),
 oo 114 (.bin .mul (.tmp 111) (.tmp 113)),
 oo 115 (.build [(.val (.int .i64 0)),(.val (.int .i64 0))] [(0,1,(.tmp 110)),(1,1,(.tmp 114))]),
 oo 16 (.mem [(.val (.int .i64 0)),(.val (.int .i64 0))]),
 on (.store 2 (.tmp 16) (.tmp 115))] [107,108,109,110,111,112,113,114,115])
 (.seq
 (.region false [oo 117 (.loadN 26 (.tmp 9)),
 oo 118 (.loadN 8 (.tmp 3)),
 oo 119 (.loadN 2 (.tmp 16)),
 oo 120 (.call (.func 96) [(.tmp 117),(.tmp 118),(.tmp 119)]),
 om 116 120,
 oo 121 (.ext (.tmp 116) 0),
 oo 122 (.ext (.tmp 116) 1),
 oo 17 (.mem [(.val (.int .i64 0)),(.val (.int .i64 0))]),
 on (.store 2 (.tmp 17) (.tmp 121)),
 om 18 122] [117,118,119,120,116,121,122,18])
 (.seq
 (.seq
 (.region false [oo 123 (.fad 0 (.tmp 11)),
 oo 124 (.load1 (.tmp 123)),
 oo 125 (.fad 0 (.tmp 13)),
 oo 126 (.load1 (.tmp 125)),
 oo 127 (.build [(.val (.int .i64 0)),(.val (.int .i64 0))] [(0,1,(.tmp 124)),(1,1,(.tmp 126))]),
 oo 128 (.mv (kI 0))] [123,124,125,126])
 (.block 4
 (.loop
 (.seq
 (.region false [oo 129 (.bin .lss (.tmp 128) (kI 2))] [])
 (.seq
 (.cond (.tmp 129)
 .skip
 (.exit 4))
 (.seq
 (.block 5
 (.seq
 (.region false [om 130 128,
 oo 131 (.idx1 2 1 (.tmp 127) (.tmp 128)),
 om 19 130,
 om 20 131] [130,131])
 (.region true [om 132 10,
 om 133 19,
 om 134 10,
 om 135 19,
 oa 136 (.nilc (.tmp 134)) [2],
 oa 137 (.fad 33 (.tmp 136)) [4,2],
 oa 138 (.iadA 2 1 (.tmp 137) (.tmp 135)) [5,4,2,3],
 oa 139 (.load1 (.tmp 138)) [6,5,4,2,3],
 om 140 20,
 oo 141 (.fad 1 (.tmp 17)),
 oa 142 (.load1 (.tmp 141)) [9],
 oa 143 (.bin .sub (.tmp 140) (.tmp 142)) [8,10,9],
 oo 144 (.fad 24 (.tmp 9)),
 oa 145 (.load1 (.tmp 144)) [12],
 oo 146 (.fad 28 (.tmp 2)),
 oa 147 (.load1 (.tmp 146)) [14],
 oa 148 (.bin .mul (.tmp 145) (.tmp 147)) [13,12,15,14],
 oa 149 (.call (.func 97) [(.tmp 143),(.tmp 148)]) [11,8,10,9,16,13,12,15,14],
 oa 150 (.buildSl 1 1 [(.val (.int .i64 0))] [(0,1,(.tmp 149))]) [17,11,8,10,9,16,13,12,15,14],
 oa 151 (.app 1 8 (.tmp 139) (.tmp 150)) [7,6,5,4,2,3,18,17,11,8,10,9,16,13,12,15,14],
 oa 152 (.nilc (.tmp 132)) [0],
 oa 153 (.fad 33 (.tmp 152)) [20,0],
 oa 154 (.iadA 2 1 (.tmp 153) (.tmp 133)) [21,20,0,1,2,3,4,5,6,7,8,9,10,11,12,13,14,15,16,17,18,19],
 ⟨none,.store 1 (.tmp 154) (.tmp 151),none,[22,21,20,0,1,2,3,4,5,6,7,8,9,10,11,12,13,14,15,16,17,18,19]⟩] [132,133,134,135,136,137,138,139,140,141,142,143,144,145,146,147,148,149,150,151,152,153,154])))
 (.region false [oo 155 (.bin .add (.tmp 128) (kI 1)),
 om 128 155] [155])))))))
 (.seq
 (.region false [oo 21 (.mv (.const (.slice none 0 0)))] [])
 (.seq
 (.seq
 (.region false [oo 156 (.fad 30 (.tmp 2)),
 oo 157 (.load1 (.tmp 156)),
 oo 158 (.bin .add (.tmp 157) (kI 1)),
 oo 159 (.mv (kI 0))] [156,157])
 (.block 6
 (.loop
 (.seq
 (.region false [oo 160 (.bin .lss (.tmp 159) (.tmp 158))] [])
 (.seq
 (.cond (.tmp 160)
 .skip
 (.exit 6))
 (.seq
 (.block 7
 (.seq
 (.region false [om 161 159,
 om 22 161] [161])
 (.seq
 (.region false [om 162 22,
 oo 163 (.fad 28 (.tmp 2)),
 oo 164 (.load1 (.tmp 163)),
 oo 165 (.bin .mul (.tmp 162) (.tmp 164)),
 om 166 22,
 oo 167 (.fad 28 (.tmp 2)),
 oo 168 (.load1 (.tmp 167)),
 oo 169 (.bin .mul (.tmp 166) (.tmp 168)),
 oo 170 (.build [(.val (.int .i64 0)),(.val (.int .i64 0))] [(0,1,(.tmp 165)),(1,1,(.tmp 169))]),
 oo 23 (.mem [(.val (.int .i64 0)),(.val (.int .i64 0))]),
 on (.store 2 (.tmp 23) (.tmp 170))] [162,163,164,165,166,167,168,169,170])
 (.seq
 (.region false [oo 24 (.mv (.const (.bool false)))] [])
 (.seq
 (.seq
 (.region true [om 171 22,
 oa 172 (.bin .gtr (.tmp 171) (kI 0)) [0],
 oa 173 (.mv (.tmp 172)) [1,0],
 og 174 173 true (.fad 1 (.tmp 16)) [2,1,0],
 og 175 173 true (.load1 (.tmp 174)) [3,2,1,0],
 og 176 173 true (.fad 15 (.tmp 9)) [2,1,0],
 og 177 173 true (.fad 0 (.tmp 176)) [5,2,1,0],
 og 178 173 true (.load1 (.tmp 177)) [6,5,2,1,0],
 og 179 173 true (.fad 15 (.tmp 9)) [2,1,0],
 og 180 173 true (.fad 0 (.tmp 179)) [8,2,1,0],
 og 181 173 true (.load1 (.tmp 180)) [9,8,2,1,0],
 og 182 173 true (.len_ (.tmp 181)) [10,9,8,2,1,0],
 og 183 173 true (.bin .sub (.tmp 182) (kI 1)) [11,10,9,8,2,1,0],
 og 184 173 true (.iadS 1 (.tmp 178) (.tmp 183)) [7,6,5,2,1,0,12,11,10,9,8],
 og 185 173 true (.load1 (.tmp 184)) [13,7,6,5,2,1,0,12,11,10,9,8],
 og 186 173 true (.bin .leq (.tmp 175) (.tmp 185)) [4,3,2,1,0,14,13,7,6,5,12,11,10,9,8],
 oa 187 (.pick (.tmp 173) (.tmp 186) (.const (.bool false))) [2,1,0,15,4,3,14,13,7,6,5,12,11,10,9,8]] [171,172,173,174,175,176,177,178,179,180,181,182,183,184,185,186])
 (.cond (.tmp 187)
 (.region false [oo 189 (.loadN 26 (.tmp 9)),
 oo 190 (.loadN 8 (.tmp 3)),
 oo 191 (.loadN 2 (.tmp 16)),
 oo 192 (.loadN 2 (.tmp 23)),
 oo 193 (.call (.func 98) [(.tmp 189),(.tmp 190),(.tmp 191),(.tmp 192)]),
 om 188 193,
 oo 194 (.ext (.tmp 188) 0),
 oo 195 (.ext (.tmp 188) 1),
 om 24 194] [189,190,191,192,193,188,194,195])
 .skip))
 (.region false [om 196 21,
 om 197 24,
 oo 198 (.buildSl 1 1 [(.val (.bool false))] [(0,1,(.tmp 197))]),
 oo 199 (.app 1 1 (.tmp 196) (.tmp 198)),
 om 21 199] [196,197,198,199]))))))
 (.region false [oo 200 (.bin .add (.tmp 159) (kI 1)),
 om 159 200] [200])))))))
 (.region false [om 201 10,
 om 202 10,
 oo 203 (.nilc (.tmp 202)),
 oo 204 (.fad 35 (.tmp 203)),
 oo 205 (.load1 (.tmp 204)),
 om 206 21,
 oo 207 (.buildSl 1 1 [(.val (.slice none 0 0))] [(0,1,(.tmp 206))]),
 oo 208 (.app 1 24 (.tmp 205) (.tmp 207)),
 oo 209 (.nilc (.tmp 201)),
 oo 210 (.fad 35 (.tmp 209)),
 on (.store 1 (.tmp 210) (.tmp 208))] [201,202,203,204,205,206,207,208,209,210]))))))))
 (.region false [oo 211 (.bin .add (.tmp 104) (kI 1)),
 om 104 211] [211])))))))
 (.seq
 (.region false [om 212 10,
 om 4 212,
 oo 5 (.mv (kI 0))] [212])
 .ret))))))))))
theorem kengine_newCraft : IsCode Tryz.prog 66 213 cengine_newCraft [.tmp 4, .tmp 5] :=
 ⟨Tryz.f66,_,[187,160,129,105,84,47,41,28,0,1,2,6,3,40,39,38,8,9,11,104,103,15,16,13,128,127,10,19,20,17,159,158,22,23,21,24,4,5],Tryz.func66,rfl,by decide,rfl,by kernel_rfl,by kernel_rfl⟩
def cengine_newSite : ACode :=
 (.seq
 (.region false [oo 3 (.box (.tmp 0)),
 oo 4 (.box (.tmp 1)),
 oo 5 (.box (.tmp 2)),
 oo 6 (.mem [(.val (.pointer none)),(.val (.int .i64 0)),(.val (.int .i64 0)),(.val (.int .i64 0)),(.val (.slice none 0 0))]),
 oo 7 (.mv (kI 0))] [])
 (.seq
 (.region false [oo 11 (.loadN 33 (.tmp 3)),
 oo 12 (.loadN 8 (.tmp 4)),
 oo 13 (.call (.func 66) [(.tmp 11),(.tmp 12)]),
 om 10 13,
 oo 14 (.ext (.tmp 10) 0),
 oo 15 (.ext (.tmp 10) 1),
 om 8 14,
 om 9 15] [11,12,13,10,14,15])
 (.seq
 (.seq
 (.region false [om 16 9,
 oo 17 (.bin .neq (.tmp 16) (kI 0))] [16])
 (.cond (.tmp 17)
 (.seq
 (.region false [oo 18 (.build [(.val (.pointer none)),(.val (.int .i64 0)),(.val (.int .i64 0)),(.val (.int .i64 0)),(.val (.slice none 0 0))] []),
 om 19 9,
 on (.store 5 (.tmp 6) (.tmp 18)),
 om 7 19] [18,19])
 .ret)
 .skip))
 (.seq
 (.region true [om 20 8,
 oo 21 (.loadN 4 (.tmp 5)),
 oa 22 (.build [(.val (.pointer none)),(.val (.int .i64 0)),(.val (.int .i64 0)),(.val (.int .i64 0)),(.val (.slice none 0 0))] [(0,1,(.tmp 20)),(1,4,(.tmp 21))]) [0,1],
 oo 23 (.loadN 4 (.tmp 5)),
 oa 24 (.call (.func 67) [(.tmp 23)]) [3],
 ⟨none,.store 5 (.tmp 6) (.tmp 22),none,[2,0,1,4,3]⟩,
 oa 7 (.mv (.tmp 24)) [4,3,5,2,0,1]] [20,21,22,23,24])
 .ret))))
theorem kengine_newSite : IsCode Tryz.prog 38 25 cengine_newSite [.cellN 6 5, .tmp 7] :=
 ⟨Tryz.f38,_,[17,0,1,2,3,4,9,6,8,5,7],Tryz.func38,rfl,by decide,rfl,by kernel_rfl,by kernel_rfl⟩
def cengine_newPose : ACode :=
 (.seq
 (.region false [oo 4 (.box (.tmp 0)),
 oo 5 (.box (.tmp 1)),
 oo 6 (.box (.tmp 2)),
 oo 7 (.box (.tmp 3)),
 oo 8 (.mem [(.val (.pointer none)),(.val (.int .i64 0)),(.val (.int .i64 0)),(.val (.int .i64 0)),(.val (.slice none 0 0))]),
 oo 9 (.mv (kI 0))] [])
 (.seq
 (.region false [oo 13 (.loadN 33 (.tmp 4)),
 oo 14 (.loadN 8 (.tmp 5)),
 oo 15 (.loadN 4 (.tmp 6)),
 oo 16 (.call (.func 38) [(.tmp 13),(.tmp 14),(.tmp 15)]),
 om 12 16,
 oo 17 (.ext (.tmp 12) 0),
 oo 18 (.ext (.tmp 12) 1),
 oo 10 (.mem [(.val (.pointer none)),(.val (.int .i64 0)),(.val (.int .i64 0)),(.val (.int .i64 0)),(.val (.slice none 0 0))]),
 on (.store 5 (.tmp 10) (.tmp 17)),
 om 11 18] [13,14,15,16,12,17,18])
 (.seq
 (.block 0
 (.seq
 (.region false [om 20 11,
 oo 21 (.bin .neq (.tmp 20) (kI 0)),
 om 19 21] [20,21])
 (.cond (.tmp 19)
 (.seq
 (.region false [oo 22 (.loadN 5 (.tmp 10)),
 om 23 11,
 on (.store 5 (.tmp 8) (.tmp 22)),
 om 9 23] [22,23])
 .ret)
 (.seq
 (.seq
 (.region false [oo 25 (.fad 0 (.tmp 7)),
 oo 26 (.load1 (.tmp 25)),
 oo 27 (.call (.func 39) [(.tmp 26),(kI (-40)),(kI 40)]),
 oo 28 (.un .not (.tmp 27)),
 om 24 28] [25,26,27,28])
 (.cond (.tmp 24)
 .skip
 (.seq
 (.region false [oo 29 (.fad 1 (.tmp 7)),
 oo 30 (.load1 (.tmp 29)),
 oo 31 (.fad 29 (.tmp 4)),
 oo 32 (.load1 (.tmp 31)),
 oo 33 (.call (.func 39) [(.tmp 30),(kI 0),(.tmp 32)]),
 oo 34 (.un .not (.tmp 33)),
 om 24 34] [29,30,31,32,33,34])
 (.cond (.tmp 24)
 .skip
 (.seq
 (.region false [oo 35 (.fad 2 (.tmp 7)),
 oo 36 (.load1 (.tmp 35)),
 oo 37 (.call (.func 39) [(.tmp 36),(kI 0),(kI 12)]),
 oo 38 (.un .not (.tmp 37)),
 om 24 38] [35,36,37,38])
 (.cond (.tmp 24)
 .skip
 (.region false [oo 39 (.fad 2 (.tmp 7)),
 oo 40 (.load1 (.tmp 39)),
 oo 41 (.bin .eql (.tmp 40) (kI 0)),
 om 42 41,
 og 43 42 true (.loadN 5 (.tmp 10)) [],
 og 44 42 true (.loadN 3 (.tmp 7)) [],
 og 45 42 true (.call (.func 40) [(.tmp 43),(.tmp 44)]) [],
 og 46 42 true (.un .not (.tmp 45)) [],
 oo 47 (.pick (.tmp 42) (.tmp 46) (.const (.bool false))),
 om 24 47] [39,40,41,42,43,44,45,46,47])))))))
 (.cond (.tmp 24)
 (.seq
 (.region false [oo 48 (.loadN 5 (.tmp 10)),
 on (.store 5 (.tmp 8) (.tmp 48)),
 oo 9 (.mv (kI 32))] [48])
 .ret)
 .skip)))))
 (.seq
 (.region false [oo 49 (.loadN 5 (.tmp 10)),
 on (.store 5 (.tmp 8) (.tmp 49)),
 oo 9 (.mv (kI 0))] [49])
 .ret))))
theorem kengine_newPose : IsCode Tryz.prog 16 50 cengine_newPose [.cellN 8 5, .tmp 9] :=
 ⟨Tryz.f16,_,[24,19,0,1,2,3,4,5,6,11,10,8,7,9],Tryz.func16,rfl,by decide,rfl,by kernel_rfl,by kernel_rfl⟩
end Go.Proofs.YtbncpngjclabhaaGreat
/- engine: a craft's checks, where they pass; floor. No conditions. -/
namespace Go.Proofs.YtbncpngjclabhaaGreat
open Go Go.RowKit Lift

structure Crf where
  r : Rot
  one : Int
  un : Int
  st : Int
  top : Int
  dr : Int
  tch : Int
  si : Int
def crfC (c : Crf) : List D := [.list (ints c.r.a.x),.list (ints c.r.a.y),.list (rows c.r.a.v),.list (ints c.r.b.x),.list (ints c.r.b.y),.list (rows c.r.b.v),.list (ints c.r.c.x),.list (ints c.r.c.y),.list (rows c.r.c.v),.list (ints c.r.d.x),.list (ints c.r.d.y),.list (rows c.r.d.v),.list (ints c.r.e.x),.list (ints c.r.e.y),.list (rows c.r.e.v),.list (ints c.r.f.x),.list (ints c.r.f.y),.list (rows c.r.f.v),.list (ints c.r.g.x),.list (ints c.r.g.y),.list (rows c.r.g.v),.list (ints c.r.h.x),.list (ints c.r.h.y),.list (rows c.r.h.v),dI c.r.cl,dI c.r.bu,dI c.one,dI c.un,dI c.st,dI c.top,dI c.dr,dI c.tch,dI c.si]
def crB (c : Crf) : Bool := wI c.one 0 100 && (wI c.un 1 1000 && (wI c.st 1 1000 && (wI c.top 1 6 && (wI c.dr 1 3 && (wI c.tch 0 c.top && wI c.si 1 c.dr)))))
structure CrOk (c : Crf) (a : Air) : Prop where
  sm : RotSm c.r
  rot : rotE c.r = 0
  b : crB c = true
  l1 : liesB c.r.c.x (0,c.top * c.un) = true
  l2 : liesB c.r.f.x (0,0) = true
  air : airB a = true
  p1 : liesB c.r.d.x a.t = true
  p2 : liesB c.r.d.y a.h = true
  p3 : liesB c.r.c.y a.w = true
  p4 : liesB c.r.f.y a.w = true
structure CrIn (c : Crf) : Prop where
  o : wI c.one 0 100 = true
  u : wI c.un 1 1000 = true
  s : wI c.st 1 1000 = true
  t : wI c.top 1 6 = true
  d : wI c.dr 1 3 = true
  k : wI c.tch 0 c.top = true
  i : wI c.si 1 c.dr = true
theorem crB_in {c : Crf} (h : crB c = true) : CrIn c := by
  simp only [crB,Bool.and_eq_true] at h
  obtain ⟨h1,h2,h3,h4,h5,h6,h7⟩ := h
  exact ⟨h1,h2,h3,h4,h5,h6,h7⟩
theorem topUn {c : Crf} (h : CrIn c) : 1 ≤ c.top * c.un ∧ c.top * c.un ≤ 6000 := by
  have h1 := wI_t h.t
  have h2 := wI_t h.u
  have h3 := Int.mul_le_mul h1.2 h2.2 (by omega) (by omega)
  have h4 := Int.mul_le_mul h1.1 h2.1 (by omega) (by omega)
  omega
def onB (l : List Int) (n : Int) : Bool := decide (n ≥ iat l 0) && decide (n ≤ iat l (l.length - 1))
theorem engOn_ac (l : List Int) (n : Int) (h1 : 1 ≤ l.length) (h2 : l.length ≤ 1000000) : AC Tryz.prog 112 [.list (ints l),dI n] [] [] (dB (onB l n)) := by
  refine kengine_on.ac (n0 := 0) (by simp) ⟨.list _,.val _,trivial⟩ trivial rfl ?_
  have g0 := ints_gd l 0 (by omega)
  have ga := ints_all l
  have gl := ints_len l
  obtain ⟨m,hm⟩ : ∃ m : Nat,l.length = m + 1 := ⟨l.length - 1,by omega⟩
  have g1 := ints_gd l m (by omega)
  have e1 : ((l.length : Nat) : Int) - 1 = (m : Int) := by omega
  have e2 : onB l n = (decide (n ≥ l[0]?.getD 0) && decide (n ≤ l[m]?.getD 0)) := by unfold onB; rw [show l.length - 1 = m by omega]; rfl
  rw [e2]
  unfold cengine_on
  generalize l[0]?.getD 0 = x at *
  generalize l[m]?.getD 0 = y at *
  cases q1 : decide (n ≥ x) <;> cases q2 : decide (n ≤ y)
  all_goals
    (repeat' (first | (with_reducible first | refine thenQ_n ?_ | refine blockQ_n ?_ | refine thenQ_e ?_ | refine blockQ_t ?_ | refine blockQ_f (by decide) ?_) | apply aw_seq | apply aw_skip | apply aw_exit | apply aw_ret | apply aw_block | apply aw_condT rfl | apply aw_condF rfl | ((first | refine aw_hide fun K hK => aw_region ?_ | refine ago_if (by omega) ?_ | skip); simp (disch := first | exact okY | omega) only [ZU,Nat.reduceMul,dI,AOpRun,aexec,Nat.reduceBEq,Nat.reduceAdd,↓eget_h,Int.le_refl,ga,↓reduceIte,opt1,Int.toNat_zero,g0,run1,isSh,abin,q1,ARun_some,AG_ft,dB,Bool.and_false,AG_tt,gl,e1,fits,g1,q2]) | subst hK))
    all_goals (refine end_q [] [] ?_ ?_ <;> repeat' (first | exact trivial | exact vr_val _))
theorem liesB_is (l : List Int) (x : Int × Int) : liesB l x = (decide (iat l 0 ≤ x.1) && decide (x.2 ≤ iat l (l.length - 1))) := rfl
theorem on_of {l : List Int} {x : Int × Int} {n : Int} (h : liesB l x = true) (h1 : x.1 ≤ n) (h2 : n ≤ x.2) : onB l n = true := by
  rw [liesB_is] at h
  simp only [Bool.and_eq_true,decide_eq_true_eq] at h
  simp only [onB,Bool.and_eq_true,decide_eq_true_eq]
  omega
theorem engLies_ac (l : List Int) (x : Int × Int) (h1 : 1 ≤ l.length) (h2 : l.length ≤ 1000000) (h : liesB l x = true) (hx : x.1 ≤ x.2) : AC Tryz.prog 93 [.list (ints l),.agg [dI x.1,dI x.2]] [] [] (dB true) := by
  refine kengine_lies.ac (n0 := 0) (by simp) ⟨.list _,in_sp _ _ _,trivial⟩ trivial rfl ?_
  have c1 := engOn_ac l x.1 h1 h2
  have c2 := engOn_ac l x.2 h1 h2
  rw [on_of h (Int.le_refl _) hx] at c1
  rw [on_of h hx (Int.le_refl _)] at c2
  unfold cengine_lies
  (repeat' (first | (with_reducible first | refine thenQ_n ?_ | refine blockQ_n ?_ | refine thenQ_e ?_ | refine blockQ_t ?_ | refine blockQ_f (by decide) ?_) | apply aw_seq | apply aw_skip | apply aw_exit | apply aw_ret | apply aw_block | apply aw_condT rfl | apply aw_condF rfl | ((first | refine aw_hide fun K hK => aw_region ?_ | refine acall0 (c1) ?_ | refine acall0 (c2) ?_ | refine ago_if (by omega) ?_ | skip); simp (disch := first | exact okY | omega) only [ZU,Nat.reduceAdd,Nat.reduceMul,dI,AOpRun,aexec,D.isBot,Nat.reduceBEq,↓eget_h,or_self,↓reduceIte,D.cells,run1,dB,ARun_some,AG_tt]) | subst hK))
  all_goals (refine end_q [] [] ?_ ?_ <;> repeat' (first | exact trivial | exact vr_val _))
def w64z (x : Int) : Int := IntKind.i64.wrap x
def flW (n d : Int) : Int := if w64z (w64z (n.tdiv d) * d) > n then w64z (w64z (n.tdiv d) - 1) else w64z (n.tdiv d)
theorem engFloor_ac (n d : Int) (hd : d ≠ 0) : AC Tryz.prog 97 [dI n,dI d] [] [] (dI (flW n d)) := by
  refine kengine_floor.ac (n0 := 0) (by simp) ⟨.val _,.val _,trivial⟩ trivial rfl ?_
  unfold cengine_floor flW
  have e1 : IntKind.i64.wrap (n.tdiv d) = w64z (n.tdiv d) := rfl
  generalize w64z (n.tdiv d) = q at *
  have e2 : IntKind.i64.wrap (q * d) = w64z (q * d) := rfl
  have e3 : IntKind.i64.wrap (q - 1) = w64z (q - 1) := rfl
  generalize w64z (q * d) = p at *
  generalize w64z (q - 1) = q' at *
  by_cases hp : p > n
  · have q1 : decide (p > n) = true := decide_eq_true hp
    rw [if_pos hp]
    (repeat' (first | (with_reducible first | refine thenQ_n ?_ | refine blockQ_n ?_ | refine thenQ_e ?_ | refine blockQ_t ?_ | refine blockQ_f (by decide) ?_) | apply aw_seq | apply aw_skip | apply aw_exit | apply aw_ret | apply aw_block | apply aw_condT rfl | apply aw_condF rfl | ((first | refine aw_hide fun K hK => aw_region ?_ | refine ago_if (by omega) ?_ | skip); simp (disch := first | exact okY | omega) only [ZU,Nat.reduceMul,dI,AOpRun,aexec,Nat.reduceBEq,Nat.reduceAdd,↓eget_h,isSh,↓reduceIte,abin,hd,e1,e2,q1,e3]) | subst hK))
    all_goals (refine end_q [] [] ?_ ?_ <;> repeat' (first | exact trivial | exact vr_val _))
  · have q1 : decide (p > n) = false := decide_eq_false hp
    rw [if_neg hp]
    (repeat' (first | (with_reducible first | refine thenQ_n ?_ | refine blockQ_n ?_ | refine thenQ_e ?_ | refine blockQ_t ?_ | refine blockQ_f (by decide) ?_) | apply aw_seq | apply aw_skip | apply aw_exit | apply aw_ret | apply aw_block | apply aw_condT rfl | apply aw_condF rfl | ((first | refine aw_hide fun K hK => aw_region ?_ | refine ago_if (by omega) ?_ | skip); simp (disch := first | exact okY | omega) only [ZU,Nat.reduceMul,dI,AOpRun,aexec,Nat.reduceBEq,Nat.reduceAdd,↓eget_h,isSh,↓reduceIte,abin,hd,e1,e2,q1]) | subst hK))
    all_goals (refine end_q [] [] ?_ ?_ <;> repeat' (first | exact trivial | exact vr_val _))
theorem engCheckCraft_ac (c : Crf) (a : Air) (h : CrOk c a) : AC Tryz.prog 92 [.agg (crfC c)] [] [] (dI 0) := by
  refine kengine_checkCraft.ac (n0 := 0) (by simp) ⟨.agg _ (wals_in (c := crfC c) rfl),trivial⟩ trivial rfl ?_
  have hi := crB_in h.b
  have tu := topUn hi
  have c1 := roCheck_ac c.r h.sm
  rw [h.rot] at c1
  have tc : Tbl c.r.c.x c.r.c.y c.r.c.v := limB_tbl ((rotE_is h.rot).lim 2 (by omega))
  have tf : Tbl c.r.f.x c.r.f.y c.r.f.v := limB_tbl ((rotE_is h.rot).lim 5 (by omega))
  have w1 := engWithin_ac c.one 0 100
  have w2 := engWithin_ac c.un 1 1000
  have w3 := engWithin_ac c.st 1 1000
  have w4 := engWithin_ac c.top 1 6
  have w5 := engWithin_ac c.dr 1 3
  have w6 := engWithin_ac c.tch 0 c.top
  have w7 := engWithin_ac c.si 1 c.dr
  rw [hi.o] at w1
  rw [hi.u] at w2
  rw [hi.s] at w3
  rw [hi.t] at w4
  rw [hi.d] at w5
  rw [hi.k] at w6
  rw [hi.i] at w7
  have lc : c.r.c.x.length ≤ 12 := tc.ax.twelve
  have lf : c.r.f.x.length ≤ 12 := tf.ax.twelve
  have kc : 2 ≤ c.r.c.x.length := tc.ax.two
  have kf : 2 ≤ c.r.f.x.length := tf.ax.two
  have o1 := engOn_ac c.r.c.x 0 (by omega) (by omega)
  have o2 := engOn_ac c.r.c.x (c.top * c.un) (by omega) (by omega)
  have o3 := engOn_ac c.r.f.x 0 (by omega) (by omega)
  rw [on_of h.l1 (Int.le_refl _) (by simp only; omega)] at o1
  rw [on_of h.l1 (by simp only; omega) (Int.le_refl _)] at o2
  rw [on_of h.l2 (Int.le_refl _) (Int.le_refl _)] at o3
  clear h tc tf hi lc lf kc kf
  generalize hT : c.top * c.un = T at *
  unfold cengine_checkCraft
  unfold crfC rotD rotC at *
  (repeat' (first | (with_reducible first | refine thenQ_n ?_ | refine blockQ_n ?_ | refine thenQ_e ?_ | refine blockQ_t ?_ | refine blockQ_f (by decide) ?_) | apply aw_seq | apply aw_skip | apply aw_exit | apply aw_ret | apply aw_block | apply aw_condT rfl | apply aw_condF rfl | ((first | refine aw_hide fun K hK => aw_region ?_ | refine acall0 (c1) ?_ | refine acall0 (w1) ?_ | refine acall0 (w2) ?_ | refine acall0 (w3) ?_ | refine acall0 (w4) ?_ | refine acall0 (w5) ?_ | refine acall0 (w6) ?_ | refine acall0 (w7) ?_ | refine acall0 (o1) ?_ | refine acall0 (o2) ?_ | refine acall0 (o3) ?_ | refine ago_if (by omega) ?_ | skip); simp (disch := first | exact okY | omega) only [ZU,Nat.reduceAdd,Nat.reduceMul,dI,AOpRun,aexec,D.isBot,↓eget_h,or_self,↓reduceIte,D.cells,Nat.reduceBEq,Nat.reduceLeDiff,List.drop,List.take,isSh,abin,bne_self_eq_false,run1,dB,ARun_some,AG_ff,hT,fits]) | subst hK))
  all_goals (refine end_q [] [] ?_ ?_ <;> repeat' (first | exact trivial | exact vr_val _))
structure Fld where
  len : Int
  cl : Int
  sf : Int
  hd : List (Int × Int)
def fldC (f : Fld) : List D := [dI f.len,dI f.cl,dI f.sf,.list (sps f.hd)]
structure FldOk (f : Fld) : Prop where
  l : wI f.len 0 40 = true
  c : wI f.cl 1 12 = true
  s : wI f.sf 0 6 = true
  n : f.hd.length ≤ 6
  h : f.hd.any badH = false
theorem engCheckField_ac (f : Fld) (h : FldOk f) : AC Tryz.prog 67 [.agg (fldC f)] [] [] (dI 0) := by
  refine kengine_checkField.ac (n0 := 0) (by simp) ⟨.agg _ (wals_in (c := fldC f) rfl),trivial⟩ trivial rfl ?_
  have w1 := engWithin_ac f.len 0 40
  have w2 := engWithin_ac f.cl 1 12
  have w3 := engWithin_ac f.sf 0 6
  rw [h.l] at w1
  rw [h.c] at w2
  rw [h.s] at w3
  have hn := h.n
  have c := contHF_ac f.hd (by omega)
  rw [h.h] at c
  have sl := sps_len f.hd
  have q6 : decide ((f.hd.length : Int) > 6) = false := decide_eq_false (by omega)
  unfold cengine_checkField
  unfold fldC
  (repeat' (first | (with_reducible first | refine thenQ_n ?_ | refine blockQ_n ?_ | refine thenQ_e ?_ | refine blockQ_t ?_ | refine blockQ_f (by decide) ?_) | apply aw_seq | apply aw_skip | apply aw_exit | apply aw_ret | apply aw_block | apply aw_condT rfl | apply aw_condF rfl | ((first | refine aw_hide fun K hK => aw_region ?_ | refine acall0 (w1) ?_ | refine acall0 (w2) ?_ | refine acall0 (w3) ?_ | refine acall0 (c) ?_ | refine ago_if (by omega) ?_ | skip); simp (disch := first | exact okY | omega) only [ZU,Nat.reduceAdd,Nat.reduceMul,dI,AOpRun,aexec,D.isBot,↓eget_h,or_self,↓reduceIte,D.cells,Nat.reduceBEq,run1,dB,ARun_some,AG_ff,sl,isSh,abin,q6]) | subst hK))
  all_goals (refine end_q [] [] ?_ ?_ <;> repeat' (first | exact trivial | exact vr_val _))
end Go.Proofs.YtbncpngjclabhaaGreat
