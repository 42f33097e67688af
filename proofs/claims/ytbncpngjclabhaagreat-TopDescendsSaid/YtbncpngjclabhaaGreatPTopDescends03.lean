/- Texts of the law TopDescends, part 3. No conditions. -/
import Derived.Test.YtbncpngjclabhaaGreatPTopDescends02
import Derived.WalkKit
import Derived.WalkSpells
import Derived.WalkLawsBesides
import Derived.Deep.QuietTactic
import Derived.BigQuiet
import Derived.Lib.Hide
import Derived.Deep.RegionHeld3
import Derived.Laws.EntriesVeiled
import Derived.Test.YtbncpngjclabhaaGreatRows
import Derived.StillTailTactics
import Derived.Maps.AppendAt
import Derived.RangeFuncNested
import Derived.RangeFuncBound
import Derived.RangeFuncCalls
import Derived.RangeFuncLeaves
import Derived.Shelf.Abstract
import Derived.Shelf.RegionOpen
import Derived.OwnWalkIn
import Derived.TacticsInMore
import Derived.LoopNIn
import Derived.LoopIn
set_option maxRecDepth 100000
set_option maxHeartbeats 16000000
/- Lists of numbers, rows and spans as abstract values. No conditions. -/
namespace Go.Proofs.YtbncpngjclabhaaGreat
open Go.RowKit Lift

def dI (n : Int) : D := .val (.int .i64 n)
def dB (b : Bool) : D := .val (.bool b)
def ints (l : List Int) : List (List D) := l.map fun n => [.val (.int .i64 n)]
def rows (l : List (List Int)) : List (List D) := l.map fun r => [.list (ints r)]
def tabD (xs ys : List Int) (vs : List (List Int)) : D := .agg [.list (ints xs),.list (ints ys),.list (rows vs)]
def spD (x : Int × Int) : D := .agg [.val (.int .i64 x.1),.val (.int .i64 x.2)]
theorem ints_len (l : List Int) : (ints l).length = l.length := by simp [ints]
theorem rows_len (l : List (List Int)) : (rows l).length = l.length := by simp [rows]
theorem ints_get (l : List Int) (k : Nat) (h : k < (ints l).length) : (ints l)[k] = [.val (.int .i64 (l[k]?.getD 0))] := by
  have h' : k < l.length := by simpa [ints] using h
  simp [ints,h']
theorem rows_get (l : List (List Int)) (k : Nat) (h : k < (rows l).length) : (rows l)[k] = [.list (ints (l[k]?.getD []))] := by
  have h' : k < l.length := by simpa [rows] using h
  simp [rows,h']
theorem ints_all (l : List Int) : (ints l).all (fun x => x.length == 1) = true := by simp [ints]
theorem rows_all (l : List (List Int)) : (rows l).all (fun x => x.length == 1) = true := by simp [rows]
def icells (l : List Int) : List D := l.map fun n => .val (.int .i64 n)
def rcells (l : List (List Int)) : List D := l.map fun r => .list (ints r)
theorem ints_flat (l : List Int) : (ints l).flatten = icells l := by
  induction l with
  | nil => rfl
  | cons x l ih => simp [ints,icells] at ih ⊢; exact ih
theorem icells_in (l : List Int) : ∀ d ∈ icells l,In (fun _ => False) d := by
  intro d hd; obtain ⟨x,_,rfl⟩ := List.mem_map.1 hd; exact .val _
theorem rcells_in (l : List (List Int)) : ∀ d ∈ rcells l,In (fun _ => False) d := by
  intro d hd; obtain ⟨x,_,rfl⟩ := List.mem_map.1 hd; exact .list _
theorem icells_len (l : List Int) : (icells l).length = l.length := by simp [icells]
theorem ints_one (l : List Int) : ∀ e ∈ ints l,e.length = 1 := by simp [ints]
theorem rows_one (l : List (List Int)) : ∀ e ∈ rows l,e.length = 1 := by simp [rows]
theorem ints_gd (l : List Int) (k : Nat) (h : k < l.length) : (ints l)[k]? = some [.val (.int .i64 (l[k]?.getD 0))] := by simp [ints,h]
theorem rows_gd (l : List (List Int)) (k : Nat) (h : k < l.length) : (rows l)[k]? = some [.list (ints (l[k]?.getD []))] := by simp [rows,h]
end Go.Proofs.YtbncpngjclabhaaGreat
/- Plain arithmetic: floor division by Go's '/' and '%'. -/
namespace Go.Proofs.YtbncpngjclabhaaGreat

theorem floor_eq (a b : Int) (hb : 1 ≤ b) : a / b = if a.tmod b < 0 then a.tdiv b - 1 else a.tdiv b := by
  have e1 := Int.mul_tdiv_add_tmod a b
  have e5 := Int.tmod_lt_of_pos a (show 0 < b by omega)
  have e6 := Int.lt_tmod_of_pos a (show 0 < b by omega)
  split
  · rename_i h
    exact ((Int.ediv_emod_unique (a := a) (b := b) (r := a.tmod b + b) (q := a.tdiv b - 1) (by omega)).2 ⟨by rw [Int.mul_sub]; omega,by omega,by omega⟩).1
  · rename_i h
    exact ((Int.ediv_emod_unique (a := a) (b := b) (r := a.tmod b) (q := a.tdiv b) (by omega)).2 ⟨by omega,by omega,by omega⟩).1
theorem tdiv_bd (a b M : Int) (h1 : -M ≤ a) (h2 : a ≤ M) : -M ≤ a.tdiv b ∧ a.tdiv b ≤ M := by
  have := Int.natAbs_tdiv_le_natAbs a b
  omega
theorem ediv_bd (a b M : Int) (hM : 0 ≤ M) (hb : 1 ≤ b) (h1 : -M ≤ a) (h2 : a ≤ M) : -M ≤ a / b ∧ a / b ≤ M := by
  have e2 := Int.mul_ediv_add_emod a b
  have e3 := Int.emod_nonneg a (show b ≠ 0 by omega)
  constructor
  · refine (Int.le_ediv_iff_mul_le (by omega)).2 ?_
    have : -M * b ≤ -M * 1 := Int.mul_le_mul_of_nonpos_left (by omega) hb
    omega
  · refine Int.le_trans (Int.ediv_le_ediv (by omega) h2) ?_
    exact Int.ediv_le_self _ hM
end Go.Proofs.YtbncpngjclabhaaGreat
/- What slices hold, said of lists: plain predicates on a world, kept by whatever leaves old blocks alone. -/
namespace Go.Proofs.YtbncpngjclabhaaGreat
open Go.RowKit

def Ints (w : World) (A : Option Addr) (l : List Int) : Prop :=
  0 < l.length → ∃ b off,A = some ⟨b,off,none⟩ ∧ b < w.heap.size ∧ ∀ k,k < l.length → w.cell? ⟨b,off + k,none⟩ = some (.int .i64 (l[k]?.getD 0))
def Sps (w : World) (A : Option Addr) (l : List (Int × Int)) : Prop :=
  0 < l.length → ∃ b off,A = some ⟨b,off,none⟩ ∧ b < w.heap.size ∧ ∀ k,k < l.length →
    w.cell? ⟨b,off + k * 2,none⟩ = some (.int .i64 (l[k]?.getD (0,0)).1) ∧ w.cell? ⟨b,off + k * 2 + 1,none⟩ = some (.int .i64 (l[k]?.getD (0,0)).2)
def Mat (w : World) (A : Option Addr) (l : List (List Int)) : Prop :=
  0 < l.length → ∃ b off,A = some ⟨b,off,none⟩ ∧ b < w.heap.size ∧ ∀ k,k < l.length → ∃ B c,w.cell? ⟨b,off + k,none⟩ = some (.slice B (l[k]?.getD []).length c) ∧ Ints w B (l[k]?.getD [])
def Bxs (w : World) (A : Option Addr) (l : List (List (Int × Int))) : Prop :=
  0 < l.length → ∃ b off,A = some ⟨b,off,none⟩ ∧ b < w.heap.size ∧ ∀ k,k < l.length → ∃ B c,w.cell? ⟨b,off + k,none⟩ = some (.slice B (l[k]?.getD []).length c) ∧ Sps w B (l[k]?.getD [])

section
variable {w w' : World} {A : Option Addr}
theorem Ints.below {l : List Int} (h : Ints w A l) (hb : Below w.heap.size w w') : Ints w' A l := fun hl => by
  obtain ⟨b,off,e,hlt,hc⟩ := h hl
  exact ⟨b,off,e,Nat.lt_of_lt_of_le hlt hb.size,fun k hk => (hb.cell (p := ⟨b,off + k,none⟩) hlt).trans (hc k hk)⟩
theorem Sps.below {l : List (Int × Int)} (h : Sps w A l) (hb : Below w.heap.size w w') : Sps w' A l := fun hl => by
  obtain ⟨b,off,e,hlt,hc⟩ := h hl
  exact ⟨b,off,e,Nat.lt_of_lt_of_le hlt hb.size,fun k hk => ⟨(hb.cell (p := ⟨b,off + k * 2,none⟩) hlt).trans (hc k hk).1,(hb.cell (p := ⟨b,off + k * 2 + 1,none⟩) hlt).trans (hc k hk).2⟩⟩
theorem Mat.below {l : List (List Int)} (h : Mat w A l) (hb : Below w.heap.size w w') : Mat w' A l := fun hl => by
  obtain ⟨b,off,e,hlt,hc⟩ := h hl
  refine ⟨b,off,e,Nat.lt_of_lt_of_le hlt hb.size,fun k hk => ?_⟩
  obtain ⟨B,c,h1,h2⟩ := hc k hk
  exact ⟨B,c,(hb.cell (p := ⟨b,off + k,none⟩) hlt).trans h1,h2.below hb⟩
theorem Bxs.below {l : List (List (Int × Int))} (h : Bxs w A l) (hb : Below w.heap.size w w') : Bxs w' A l := fun hl => by
  obtain ⟨b,off,e,hlt,hc⟩ := h hl
  refine ⟨b,off,e,Nat.lt_of_lt_of_le hlt hb.size,fun k hk => ?_⟩
  obtain ⟨B,c,h1,h2⟩ := hc k hk
  exact ⟨B,c,(hb.cell (p := ⟨b,off + k,none⟩) hlt).trans h1,h2.below hb⟩
end
theorem Below.drewN' {B : Nat} {a w : World} (h : Below B a w) (n : Nat) : Below B a (w.drewN n) := ⟨h.os,h.tape,h.output,h.size,h.block⟩
end Go.Proofs.YtbncpngjclabhaaGreat
/- The contracts of the small functions of package spans (floor, within, valid, spanned, Check ..): what each returns; old memory stays. -/
namespace Go.Proofs.YtbncpngjclabhaaGreat
open Go.RowKit

def wB (a b c : Int) : Bool := decide (b ≤ a) && decide (a ≤ c)
theorem within_any (a b c : Int) (w : World) :
    Calls Tryz.prog 74 #[.int .i64 a,.int .i64 b,.int .i64 c] w fun e w' => e = .returned (.bool (wB a b c)) ∧ w' = w := by
  by_cases h1 : b ≤ a <;> by_cases h2 : a ≤ c
  all_goals
    go_enter Tryz.func74,Tryz.ntmps74
    go_wp2
    go_ret
    simp [wB,h1,h2]
def vB (x : Int × Int) : Bool := wB x.1 (-1000000) x.2 && decide (x.2 ≤ 1000000)
theorem valid_any (x : Int × Int) (w : World) :
    Calls Tryz.prog 87 #[.agg #[.int .i64 x.1,.int .i64 x.2]] w fun e w' => e = .returned (.bool (vB x)) ∧ Below w.heap.size w w' := by
  obtain ⟨lo,hi⟩ := x
  show Calls Tryz.prog 87 #[.agg #[.int .i64 lo,.int .i64 hi]] w _
  have key : ∀ b : Bool,wB lo (-1000000) hi = b → Calls Tryz.prog 87 #[.agg #[.int .i64 lo,.int .i64 hi]] w fun e w' => e = .returned (.bool (b && decide (hi ≤ 1000000))) ∧ Below w.heap.size w w' := by
    intro b hb
    have H := Lib.hid hb
    clear hb
    cases b
    all_goals
      go_enter Tryz.func87,Tryz.ntmps87
      go_wp2_with (go_at_call 74; refine (within_any _ _ _ _).mono ?_; rintro e w' ⟨rfl,rfl⟩; rw [H.out])
      go_ret
      exact ⟨by simp,(Below.refl _ _).alloc (Nat.le_refl _) _⟩
  exact key _ rfl
theorem spanned1_any (x : Int × Int) (w : World) :
    Calls Tryz.prog 86 #[.agg #[.int .i64 x.1,.int .i64 x.2]] w fun e w' => e = .returned (.bool (!vB x)) ∧ Below w.heap.size w w' := by
  obtain ⟨lo,hi⟩ := x
  show Calls Tryz.prog 86 #[.agg #[.int .i64 lo,.int .i64 hi]] w _
  go_enter Tryz.func86,Tryz.ntmps86
  go_wp2_with (go_at_call 87; refine (valid_any (_,_) _).mono ?_; rintro e w' ⟨rfl,hb⟩)
  go_ret
  exact ⟨rfl,((Below.refl _ _).alloc (Nat.le_refl _) _).trans (hb.mono (by simp))⟩

def Enters (P : Program) (g : Nat) : Prop := ∀ (args : Array Value) (w : World),(callFunc g args).run P w = .ok (.enter g args) w
def idxP {α : Type} (p : α → Bool) : List α → Nat → Int
  | [],_ => -1
  | x :: xs,k => if p x then (k : Int) else idxP p xs (k + 1)
theorem idxP_ge {α : Type} (p : α → Bool) (l : List α) (k : Nat) : decide (0 ≤ idxP p l k) = l.any p := by
  induction l generalizing k with
  | nil => simp [idxP]
  | cons x xs ih => unfold idxP; by_cases h : p x = true <;> simp [h,ih]
theorem idxP_drop {α : Type} (p : α → Bool) (l : List α) (d : α) (k : Nat) (h : k < l.length) : idxP p (l.drop k) k = if p (l[k]?.getD d) then (k : Int) else idxP p (l.drop (k + 1)) (k + 1) := by
  rw [List.drop_eq_getElem_cons h]
  simp [idxP,h]
theorem indexFuncSpan (g : Nat) (p : Int × Int → Bool) (A : Option Addr) (l : List (Int × Int)) (c : Nat) (w : World) (hl : l.length ≤ 4611686018427387904) (hA : Sps w A l) (he : Enters Tryz.prog g)
   (hg : ∀ (x : Int × Int) (w' : World),Calls Tryz.prog g #[.agg #[.int .i64 x.1,.int .i64 x.2]] w' fun e w'' => e = .returned (.bool (p x)) ∧ Below w'.heap.size w' w'') :
   Calls Tryz.prog 72 #[.slice A l.length c,.func (.func g) #[] #[]] w fun e w' => e = .returned (.int .i64 (idxP p l 0)) ∧ Below w.heap.size w w' := by
  have HG := Lib.hid hg
  have HA := Lib.hid hA
  clear hg hA
  unfold Enters at he
  go_enter Tryz.func72,Tryz.ntmps72
  go_wp2
  go_loopw [5,8] (fun _ i wr => ∃ k : Nat,k ≤ l.length ∧ i = .int .i64 k ∧ idxP p (l.drop k) k = idxP p l 0 ∧ Below w.heap.size w wr) (fun _ i _ => l.length - (intOf i).toNat)
  case atStart => exact ⟨0,by omega,rfl,by simp,Below.refl _ _⟩
  case round =>
    obtain ⟨k,hk,rfl,hp,hb⟩ := hrel
    have HP := Lib.hid hp
    clear hp
    by_cases hlt : k < l.length
    · obtain ⟨b,off,rfl,hbl,hc⟩ := HA.out (by omega)
      have h1 := (hb.cell (p := ⟨b,off + k * 2,none⟩) hbl).trans (hc k hlt).1
      have h2 := (hb.cell (p := ⟨b,off + k * 2 + 1,none⟩) hbl).trans (hc k hlt).2
      have hd := Lib.hid (idxP_drop p l (0,0) k hlt)
      clear hc
      generalize hx : l[k]?.getD (0,0) = x at h1 h2
      have HX := Lib.hid hx
      clear hx
      go_wp2_with fail
      refine (HG.out x _).mono ?_
      rintro e w1 ⟨rfl,hb1⟩
      have hb2 := hb.trans (hb1.mono hb.size)
      clear hb1
      by_cases hpx : p x = true
      · rw [hpx]
        go_wp2
        go_ret
        refine ⟨?_,hb2⟩
        rw [← HP.out,hd.out,HX.out,if_pos hpx]; rfl
      · have hpx' : p x = false := by simpa using hpx
        rw [hpx']
        go_wp2
        go_roundw
        case rel => exact ⟨k + 1,by omega,by go_num,by rw [← HP.out,hd.out,HX.out,if_neg hpx],hb2⟩
        case measure => simp [intOf]; omega
    · go_wp2
      go_ret
      refine ⟨?_,hb⟩
      rw [← HP.out,List.drop_eq_nil_of_le (by omega)]; rfl
theorem containsFuncSpan (g : Nat) (p : Int × Int → Bool) (A : Option Addr) (l : List (Int × Int)) (c : Nat) (w : World) (hl : l.length ≤ 4611686018427387904) (hA : Sps w A l) (he : Enters Tryz.prog g)
   (hg : ∀ (x : Int × Int) (w' : World),Calls Tryz.prog g #[.agg #[.int .i64 x.1,.int .i64 x.2]] w' fun e w'' => e = .returned (.bool (p x)) ∧ Below w'.heap.size w' w'') :
   Calls Tryz.prog 44 #[.slice A l.length c,.func (.func g) #[] #[]] w fun e w' => e = .returned (.bool (l.any p)) ∧ Below w.heap.size w w' := by
  have H := Lib.hid (indexFuncSpan g p A l c w hl hA he hg)
  clear hg hA he
  go_enter Tryz.func44,Tryz.ntmps44
  go_wp2_with fail
  refine H.out.mono ?_
  rintro e w1 ⟨rfl,hb1⟩
  go_wp2
  go_ret
  exact ⟨by rw [← idxP_ge p l 0]; rfl,hb1⟩

theorem enters_spanned1 : Enters Tryz.prog 86 := fun _ _ => by kernel_rfl
def spErr (l : List (Int × Int)) : Int := if l.any (fun x => !vB x) then 10 else 0
theorem spanned_any (A : Option Addr) (l : List (Int × Int)) (c : Nat) (w : World) (hl : l.length ≤ 4611686018427387904) (hA : Sps w A l) :
   Calls Tryz.prog 61 #[.slice A l.length c] w fun e w' => e = .returned (.int .i64 (spErr l)) ∧ Below w.heap.size w w' := by
  have H := Lib.hid (containsFuncSpan 86 (fun x => !vB x) A l c w hl hA enters_spanned1 (fun x w' => spanned1_any x w'))
  clear hA
  by_cases h : l.any (fun x => !vB x) = true
  · have E := Lib.hid h
    have R : Hid (spErr l = 10) := by unfold Hid spErr; rw [if_pos h]
    clear h
    go_enter Tryz.func61,Tryz.ntmps61
    go_wp2_with fail
    refine H.out.mono ?_
    rintro e w1 ⟨rfl,hb1⟩
    rw [E.out]
    go_wp2
    go_ret
    exact ⟨by rw [R.out]; rfl,hb1⟩
  · have R : Hid (spErr l = 0) := by unfold Hid spErr; rw [if_neg h]
    have h' : l.any (fun x => !vB x) = false := by simpa using h
    have E := Lib.hid h'
    clear h h'
    go_enter Tryz.func61,Tryz.ntmps61
    go_wp2_with fail
    refine H.out.mono ?_
    rintro e w1 ⟨rfl,hb1⟩
    rw [E.out]
    go_wp2
    go_ret
    exact ⟨by rw [R.out]; rfl,hb1⟩
end Go.Proofs.YtbncpngjclabhaaGreat
/- The contracts of axis, CheckTable and what it hands to slices.ContainsFunc, floor, ceil: what each returns; old memory stays. -/
namespace Go.Proofs.YtbncpngjclabhaaGreat
open Go.RowKit

theorem floor_any (a b : Int) (w : World) (hb : 1 ≤ b) (hb' : b ≤ 4000000000000000000) (ha : -4000000000000000000 ≤ a) (ha' : a ≤ 4000000000000000000):
    Calls Tryz.prog 36 #[.int .i64 a,.int .i64 b] w fun e w' => e = .returned (.int .i64 (a / b)) ∧ w' = w := by
  have F := Lib.hid (floor_eq a b hb)
  obtain ⟨hq1,hq2⟩ := tdiv_bd a b _ ha ha'
  go_enter Tryz.func36,Tryz.ntmps36
  go_wp2
  all_goals
    go_ret
    refine ⟨?_,rfl⟩
  · rw [F.out,if_pos (by assumption)]; rfl
  · rw [F.out,if_neg (by omega)]; rfl
theorem ceil_any (a b : Int) (w : World) (hb : 1 ≤ b) (hb' : b ≤ 4000000000000000000) (ha : -4000000000000000000 ≤ a) (ha' : a ≤ 4000000000000000000):
    Calls Tryz.prog 65 #[.int .i64 a,.int .i64 b] w fun e w' => e = .returned (.int .i64 (-(-a / b))) ∧ w' = w := by
  obtain ⟨hq1,hq2⟩ := ediv_bd (-a) b 4000000000000000000 (by omega) hb (by omega) (by omega)
  go_enter Tryz.func65,Tryz.ntmps65
  go_wp2_with (go_at_call 36; refine (floor_any _ _ _ (by omega) (by omega) (by omega) (by omega)).mono ?_; rintro e w' ⟨rfl,rfl⟩)
  go_ret
  exact ⟨rfl,rfl⟩
theorem up_any (a b : Int) (w : World) (hb : 1 ≤ b) (hb' : b ≤ 4000000000000000000) (ha : -4000000000000000000 ≤ a) (ha' : a ≤ 4000000000000000000):
    Calls Tryz.prog 37 #[.agg #[.int .i64 a,.int .i64 b]] w fun e w' => e = .returned (.int .i64 (-(-a / b))) ∧ Below w.heap.size w w' := by
  go_enter Tryz.func37,Tryz.ntmps37
  go_wp2_with (go_at_call 65; refine (ceil_any _ _ _ (by omega) (by omega) (by omega) (by omega)).mono ?_; rintro e w' ⟨rfl,rfl⟩)
  go_ret
  exact ⟨rfl,(Below.refl _ _).alloc (Nat.le_refl _) _⟩

def axFrom : Option Int → List Int → Bool
  | _,[] => true
  | p,x :: xs => wB x (-1000000) 1000000 && (match p with | none => true | some y => wB (x - y) 1 10000) && axFrom (some x) xs
def axB (l : List Int) : Bool := wB l.length 2 12 && axFrom none l
def prev (l : List Int) (k : Nat) : Option Int := if k = 0 then none else some (l[k - 1]?.getD 0)
theorem axFrom_drop (l : List Int) (k : Nat) (h : k < l.length) : axFrom (prev l k) (l.drop k) = (wB (l[k]?.getD 0) (-1000000) 1000000 && (if k = 0 then true else wB (l[k]?.getD 0 - l[k-1]?.getD 0) 1 10000) && axFrom (prev l (k + 1)) (l.drop (k + 1))) := by
  rw [List.drop_eq_getElem_cons h]
  have e : l[k]?.getD 0 = l[k] := by simp [h]
  by_cases hk : k = 0
  · subst hk; simp [prev,e,axFrom]
  · simp [prev,hk,e,axFrom]
theorem wB_iff {a b c : Int} : wB a b c = true ↔ b ≤ a ∧ a ≤ c := by simp [wB]
theorem axis_any (A : Option Addr) (l : List Int) (c : Nat) (w : World) (hl : l.length ≤ 4611686018427387904) (hA : Ints w A l) :
    Calls Tryz.prog 84 #[.slice A l.length c] w fun e w' => e = .returned (.bool (axB l)) ∧ w' = w := by
  by_cases hw : wB l.length 2 12 = true
  · have E := Lib.hid hw
    obtain ⟨h2,h12⟩ := wB_iff.1 hw
    have R : Hid (axB l = axFrom none l) := by unfold Hid axB; rw [hw]; rfl
    obtain ⟨b,off,rfl,hbl,hc⟩ := hA (by omega)
    have HC := Lib.hid hc
    clear hw hc hA
    go_enter Tryz.func84,Tryz.ntmps84
    go_wp2_with (go_at_call 74; refine (within_any _ _ _ _).mono ?_; rintro e w' ⟨rfl,rfl⟩; rw [E.out])
    go_loop [3,4,11] (fun _ _ i => ∃ k : Nat,k ≤ l.length ∧ i = .int .i64 k ∧ axFrom (prev l k) (l.drop k) = axFrom none l ∧ (0 < k → -1000000 ≤ l[k-1]?.getD 0 ∧ l[k-1]?.getD 0 ≤ 1000000)) (fun _ _ i => l.length - (intOf i).toNat)
    case atStart => exact ⟨0,by omega,rfl,by simp [prev],by omega⟩
    case round =>
      obtain ⟨k,hk,rfl,hp,hbd⟩ := hrel
      have HP := Lib.hid hp
      have HB := Lib.hid hbd
      clear hp hbd
      by_cases hlt : k < l.length
      · have hd := Lib.hid (axFrom_drop l k hlt)
        have h1 := HC.out k hlt
        generalize hx : l[k]?.getD 0 = x at h1
        have HX := Lib.hid hx
        clear hx
        by_cases hv : wB x (-1000000) 1000000 = true
        · have hvb := wB_iff.1 hv
          have HV := Lib.hid hv
          clear hv
          by_cases hk0 : k = 0
          · subst hk0
            simp only [Nat.add_zero] at h1
            go_wp2_with (go_at_call 74; refine (within_any _ _ _ _).mono ?_; rintro e w' ⟨rfl,rfl⟩; rw [HV.out])
            go_round
            case rel => exact ⟨1,by omega,by go_num,by rw [← HP.out,hd.out,HX.out,HV.out]; simp,fun _ => by simpa [HX.out] using hvb⟩
            case measure => simp [intOf]; omega
          · obtain ⟨j,rfl⟩ : ∃ j,k = j + 1 := ⟨k - 1,by omega⟩
            have h3 := HC.out j (by omega)
            have hyb := HB.out (by omega)
            simp only [Nat.add_sub_cancel] at hyb
            generalize hy : l[j]?.getD 0 = y at h3 hyb
            have HY := Lib.hid hy
            clear hy hk0
            have hj0 : (0 : Int) < (j : Int) + 1 := by omega
            by_cases hv2 : wB (x - y) 1 10000 = true
            · have HV2 := Lib.hid hv2
              clear hv2
              go_wp2_with (go_at_call 74; refine (within_any _ _ _ _).mono ?_; rintro e w' ⟨rfl,rfl⟩; first | rw [HV.out] | rw [HV2.out])
              go_round
              case rel => exact ⟨j + 1 + 1,by omega,by go_num,by rw [← HP.out,hd.out,HX.out,HV.out]; simp [HY.out,HV2.out],fun _ => by simpa [HX.out] using hvb⟩
              case measure => simp [intOf]; omega
            · have hv3 : wB (x - y) 1 10000 = false := by simpa using hv2
              have HV2 := Lib.hid hv3
              clear hv2 hv3
              go_wp2_with (go_at_call 74; refine (within_any _ _ _ _).mono ?_; rintro e w' ⟨rfl,rfl⟩; first | rw [HV.out] | rw [HV2.out])
              go_ret
              exact ⟨by rw [R.out,← HP.out,hd.out,HX.out,HV.out]; simp [HY.out,HV2.out],rfl⟩
        · have hv3 : wB x (-1000000) 1000000 = false := by simpa using hv
          have HV := Lib.hid hv3
          clear hv hv3
          go_wp2_with (go_at_call 74; refine (within_any _ _ _ _).mono ?_; rintro e w' ⟨rfl,rfl⟩; rw [HV.out])
          go_ret
          exact ⟨by rw [R.out,← HP.out,hd.out,HX.out,HV.out]; simp,rfl⟩
      · go_wp2
        go_ret
        exact ⟨by rw [R.out,← HP.out,List.drop_eq_nil_of_le (by omega)]; simp [axFrom],rfl⟩
  · have hw' : wB l.length 2 12 = false := by simpa using hw
    have E := Lib.hid hw'
    have R : Hid (axB l = false) := by unfold Hid axB; rw [hw']; rfl
    clear hw hw' hA
    go_enter Tryz.func84,Tryz.ntmps84
    go_wp2_with (go_at_call 74; refine (within_any _ _ _ _).mono ?_; rintro e w' ⟨rfl,rfl⟩; rw [E.out])
    go_ret
    exact ⟨by rw [R.out]; rfl,rfl⟩
end Go.Proofs.YtbncpngjclabhaaGreat
/- The contract of spans.CheckTable: 0 or ErrTable; old memory stays. -/
namespace Go.Proofs.YtbncpngjclabhaaGreat
open Go.RowKit

theorem ct1_any (n : Int) (w : World) :
    Calls Tryz.prog 81 #[.int .i64 n] w fun e w' => e = .returned (.bool (!wB n (-1000000) 1000000)) ∧ w' = w := by
  go_enter Tryz.func81,Tryz.ntmps81
  go_wp2_with (go_at_call 74; refine (within_any _ _ _ _).mono ?_; rintro e w' ⟨rfl,rfl⟩)
  go_ret
  exact ⟨rfl,rfl⟩
theorem indexFuncInt (g : Nat) (p : Int → Bool) (A : Option Addr) (l : List Int) (c : Nat) (w : World) (hl : l.length ≤ 4611686018427387904) (hA : Ints w A l) (he : Enters Tryz.prog g)
   (hg : ∀ (x : Int) (w' : World),Calls Tryz.prog g #[.int .i64 x] w' fun e w'' => e = .returned (.bool (p x)) ∧ Below w'.heap.size w' w'') :
   Calls Tryz.prog 109 #[.slice A l.length c,.func (.func g) #[] #[]] w fun e w' => e = .returned (.int .i64 (idxP p l 0)) ∧ Below w.heap.size w w' := by
  have HG := Lib.hid hg
  have HA := Lib.hid hA
  clear hg hA
  unfold Enters at he
  go_enter Tryz.func109,Tryz.ntmps109
  go_wp2
  go_loopw [5,8] (fun _ i wr => ∃ k : Nat,k ≤ l.length ∧ i = .int .i64 k ∧ idxP p (l.drop k) k = idxP p l 0 ∧ Below w.heap.size w wr) (fun _ i _ => l.length - (intOf i).toNat)
  case atStart => exact ⟨0,by omega,rfl,by simp,Below.refl _ _⟩
  case round =>
    obtain ⟨k,hk,rfl,hp,hb⟩ := hrel
    have HP := Lib.hid hp
    clear hp
    by_cases hlt : k < l.length
    · obtain ⟨b,off,rfl,hbl,hc⟩ := HA.out (by omega)
      have h1 := (hb.cell (p := ⟨b,off + k,none⟩) hbl).trans (hc k hlt)
      have hd := Lib.hid (idxP_drop p l 0 k hlt)
      clear hc
      generalize hx : l[k]?.getD 0 = x at h1
      have HX := Lib.hid hx
      clear hx
      go_wp2_with fail
      refine (HG.out x _).mono ?_
      rintro e w1 ⟨rfl,hb1⟩
      have hb2 := hb.trans (hb1.mono hb.size)
      clear hb1
      by_cases hpx : p x = true
      · rw [hpx]
        go_wp2
        go_ret
        refine ⟨?_,hb2⟩
        rw [← HP.out,hd.out,HX.out,if_pos hpx]; rfl
      · have hpx' : p x = false := by simpa using hpx
        rw [hpx']
        go_wp2
        go_roundw
        case rel => exact ⟨k + 1,by omega,by go_num,by rw [← HP.out,hd.out,HX.out,if_neg hpx],hb2⟩
        case measure => simp [intOf]; omega
    · go_wp2
      go_ret
      refine ⟨?_,hb⟩
      rw [← HP.out,List.drop_eq_nil_of_le (by omega)]; rfl
theorem containsFuncInt (g : Nat) (p : Int → Bool) (A : Option Addr) (l : List Int) (c : Nat) (w : World) (hl : l.length ≤ 4611686018427387904) (hA : Ints w A l) (he : Enters Tryz.prog g)
   (hg : ∀ (x : Int) (w' : World),Calls Tryz.prog g #[.int .i64 x] w' fun e w'' => e = .returned (.bool (p x)) ∧ Below w'.heap.size w' w'') :
   Calls Tryz.prog 83 #[.slice A l.length c,.func (.func g) #[] #[]] w fun e w' => e = .returned (.bool (l.any p)) ∧ Below w.heap.size w w' := by
  have H := Lib.hid (indexFuncInt g p A l c w hl hA he hg)
  clear hg hA he
  go_enter Tryz.func83,Tryz.ntmps83
  go_wp2_with fail
  refine H.out.mono ?_
  rintro e w1 ⟨rfl,hb1⟩
  go_wp2
  go_ret
  exact ⟨by rw [← idxP_ge p l 0]; rfl,hb1⟩
theorem enters_ct1 : Enters Tryz.prog 81 := fun _ _ => by kernel_rfl
theorem enters_ct2 : Enters Tryz.prog 82 := fun _ _ => by kernel_rfl

/- rows and a function value that has caught two variables -/
theorem indexFuncRow (g : Nat) (p : List Int → Bool) (u v : Value) (A : Option Addr) (l : List (List Int)) (c : Nat) (w : World) (hl : l.length ≤ 4611686018427387904) (hA : Mat w A l) (he : Enters Tryz.prog g)
   (hg : ∀ (B : Option Addr) (x : List Int) (d : Nat) (w' : World),x ∈ l → Below w.heap.size w w' → Ints w' B x → Calls Tryz.prog g #[.slice B x.length d,u,v] w' fun e w'' => e = .returned (.bool (p x)) ∧ Below w'.heap.size w' w'') :
   Calls Tryz.prog 110 #[.slice A l.length c,.func (.func g) #[] #[u,v]] w fun e w' => e = .returned (.int .i64 (idxP p l 0)) ∧ Below w.heap.size w w' := by
  have HG := Lib.hid hg
  have HA := Lib.hid hA
  clear hg hA
  unfold Enters at he
  go_enter Tryz.func110,Tryz.ntmps110
  go_wp2
  go_loopw [5,8] (fun _ i wr => ∃ k : Nat,k ≤ l.length ∧ i = .int .i64 k ∧ idxP p (l.drop k) k = idxP p l 0 ∧ Below w.heap.size w wr) (fun _ i _ => l.length - (intOf i).toNat)
  case atStart => exact ⟨0,by omega,rfl,by simp,Below.refl _ _⟩
  case round =>
    obtain ⟨k,hk,rfl,hp,hb⟩ := hrel
    have HP := Lib.hid hp
    clear hp
    by_cases hlt : k < l.length
    · obtain ⟨b,off,rfl,hbl,hc⟩ := HA.out (by omega)
      obtain ⟨B,d,hc1,hB⟩ := hc k hlt
      have h1 := (hb.cell (p := ⟨b,off + k,none⟩) hbl).trans hc1
      have hd := Lib.hid (idxP_drop p l [] k hlt)
      have hm : l[k]?.getD [] ∈ l := by simp [hlt]
      have HI := Lib.hid (hB.below hb)
      clear hc hc1 hB
      generalize hx : l[k]?.getD [] = x at h1 HI hm
      have HX := Lib.hid hx
      have HM := Lib.hid hm
      clear hx hm
      go_wp2_with fail
      refine (HG.out B x d _ HM.out hb HI.out).mono ?_
      rintro e w1 ⟨rfl,hb1⟩
      have hb2 := hb.trans (hb1.mono hb.size)
      clear hb1
      by_cases hpx : p x = true
      · rw [hpx]
        go_wp2
        go_ret
        refine ⟨?_,hb2⟩
        rw [← HP.out,hd.out,HX.out,if_pos hpx]; rfl
      · have hpx' : p x = false := by simpa using hpx
        rw [hpx']
        go_wp2
        go_roundw
        case rel => exact ⟨k + 1,by omega,by go_num,by rw [← HP.out,hd.out,HX.out,if_neg hpx],hb2⟩
        case measure => simp [intOf]; omega
    · go_wp2
      go_ret
      refine ⟨?_,hb⟩
      rw [← HP.out,List.drop_eq_nil_of_le (by omega)]; rfl
theorem containsFuncRow (g : Nat) (p : List Int → Bool) (u v : Value) (A : Option Addr) (l : List (List Int)) (c : Nat) (w : World) (hl : l.length ≤ 4611686018427387904) (hA : Mat w A l) (he : Enters Tryz.prog g)
   (hg : ∀ (B : Option Addr) (x : List Int) (d : Nat) (w' : World),x ∈ l → Below w.heap.size w w' → Ints w' B x → Calls Tryz.prog g #[.slice B x.length d,u,v] w' fun e w'' => e = .returned (.bool (p x)) ∧ Below w'.heap.size w' w'') :
   Calls Tryz.prog 85 #[.slice A l.length c,.func (.func g) #[] #[u,v]] w fun e w' => e = .returned (.bool (l.any p)) ∧ Below w.heap.size w w' := by
  have H := Lib.hid (indexFuncRow g p u v A l c w hl hA he hg)
  clear hg hA he
  go_enter Tryz.func85,Tryz.ntmps85
  go_wp2_with fail
  refine H.out.mono ?_
  rintro e w1 ⟨rfl,hb1⟩
  go_wp2
  go_ret
  exact ⟨by rw [← idxP_ge p l 0]; rfl,hb1⟩

def rowBad (n : Nat) (r : List Int) : Bool := ((r.length : Int) != (n : Int)) || r.any (fun x => !wB x (-1000000) 1000000)
theorem ct2_any (B Y : Option Addr) (x ys : List Int) (d cy bt bo : Nat) (w : World) (hx : x.length ≤ 4611686018427387904) (hB : Ints w B x)
    (h1 : w.cell? ⟨bt,1,none⟩ = some (.slice Y ys.length cy)) (h2 : w.cell? ⟨bo,0,none⟩ = some (.func (.func 81) #[] #[])) :
    Calls Tryz.prog 82 #[.slice B x.length d,.pointer (some ⟨bt,0,none⟩),.pointer (some ⟨bo,0,none⟩)] w fun e w' => e = .returned (.bool (rowBad ys.length x)) ∧ Below w.heap.size w w' := by
  have H := Lib.hid (containsFuncInt 81 (fun x => !wB x (-1000000) 1000000) B x d w hx hB enters_ct1 (fun x w' => (ct1_any x w').mono (fun e w'' ⟨h,h'⟩ => ⟨h,h' ▸ Below.refl _ _⟩)))
  clear hB
  by_cases hn : ((x.length : Int) != (ys.length : Int)) = true
  · have R : Hid (rowBad ys.length x = true) := by unfold Hid rowBad; rw [hn]; rfl
    go_enter Tryz.func82,Tryz.ntmps82
    go_wp2
    go_ret
    exact ⟨by rw [R.out]; rfl,Below.refl _ _⟩
  · have hn' : ((x.length : Int) != (ys.length : Int)) = false := by simpa using hn
    have R : Hid (rowBad ys.length x = x.any (fun x => !wB x (-1000000) 1000000)) := by unfold Hid rowBad; rw [hn']; rfl
    clear hn
    go_enter Tryz.func82,Tryz.ntmps82
    go_wp2_with fail
    refine H.out.mono ?_
    rintro e w1 ⟨rfl,hb1⟩
    go_wp2
    go_ret
    exact ⟨by rw [R.out]; rfl,hb1⟩
end Go.Proofs.YtbncpngjclabhaaGreat
/- The contract of spans.CheckTable: 0 or ErrTable; old memory stays. -/
namespace Go.Proofs.YtbncpngjclabhaaGreat
open Go.RowKit

def tabB (xs ys : List Int) (vs : List (List Int)) : Bool := axB xs && axB ys && !((vs.length : Int) != (xs.length : Int)) && !vs.any (rowBad ys.length)
def tabErr (xs ys : List Int) (vs : List (List Int)) : Int := if tabB xs ys vs then 0 else 11
def RowsLe (vs : List (List Int)) : Prop := ∀ r,r ∈ vs → r.length ≤ 4611686018427387904
theorem checkTable_any (xs ys : List Int) (vs : List (List Int)) (X Y V : Option Addr) (cx cy cv : Nat) (w : World)
   (hxl : xs.length ≤ 4611686018427387904) (hyl : ys.length ≤ 4611686018427387904) (hvl : vs.length ≤ 4611686018427387904) (hr : RowsLe vs)
   (hX : Ints w X xs) (hY : Ints w Y ys) (hV : Mat w V vs) :
   Calls Tryz.prog 60 #[.agg #[.slice X xs.length cx,.slice Y ys.length cy,.slice V vs.length cv]] w fun e w' => e = .returned (.int .i64 (tabErr xs ys vs)) ∧ Below w.heap.size w w' := by
  have hB2 : ∀ (o1 o2 : Obj),Below w.heap.size w ((w.alloc o1).alloc o2) := fun o1 o2 => ((Below.refl _ w).alloc (Nat.le_refl _) _).alloc (by simp) _
  have HB2 := Lib.hid hB2
  have HXx := Lib.hid hX
  have HYy := Lib.hid hY
  have HVv := Lib.hid hV
  have HR := Lib.hid hr
  clear hX hY hV hr hB2
  by_cases hx : axB xs = true
  · have EX := Lib.hid hx
    by_cases hy : axB ys = true
    · have EY := Lib.hid hy
      by_cases hn : ((vs.length : Int) != (xs.length : Int)) = true
      · have R : Hid (tabErr xs ys vs = 11) := by unfold Hid tabErr tabB; rw [hn]; simp
        clear hx hy
        go_enter Tryz.func60,Tryz.ntmps60
        go_wp2_with fail
        refine (axis_any X xs cx _ hxl (HXx.out.below (HB2.out _ _))).mono ?_
        rintro e w' ⟨rfl,rfl⟩
        rw [EX.out]
        go_wp2_with fail
        refine (axis_any Y ys cy _ hyl (HYy.out.below (HB2.out _ _))).mono ?_
        rintro e w' ⟨rfl,rfl⟩
        rw [EY.out]
        go_wp2_with fail
        go_ret
        exact ⟨by rw [R.out]; rfl,HB2.out _ _⟩
      · have hn' : ((vs.length : Int) != (xs.length : Int)) = false := by simpa using hn
        have R : Hid (tabErr xs ys vs = if vs.any (rowBad ys.length) then 11 else 0) := by unfold Hid tabErr tabB; rw [hn',hx,hy]; cases vs.any (rowBad ys.length) <;> rfl
        clear hx hy hn
        go_enter Tryz.func60,Tryz.ntmps60
        go_wp2_with fail
        refine (axis_any X xs cx _ hxl (HXx.out.below (HB2.out _ _))).mono ?_
        rintro e w' ⟨rfl,rfl⟩
        rw [EX.out]
        go_wp2_with fail
        refine (axis_any Y ys cy _ hyl (HYy.out.below (HB2.out _ _))).mono ?_
        rintro e w' ⟨rfl,rfl⟩
        rw [EY.out]
        go_wp2_with fail
        refine (containsFuncRow 82 (rowBad ys.length) _ _ V vs cv _ hvl (HVv.out.below (HB2.out _ _)) enters_ct2 ?_).mono ?_
        · intro B x d w' hm hb hI
          exact ct2_any B Y x ys d cy w.heap.size (w.heap.size + 1) w' (HR.out x hm) hI (by rw [hb.cell (by simp <;> omega)]; simp) (by rw [hb.cell (by simp <;> omega)]; simp)
        · rintro e w1 ⟨rfl,hb1⟩
          have hb2 := (HB2.out _ _).trans (hb1.mono (by simp; omega))
          clear hb1
          by_cases ha : vs.any (rowBad ys.length) = true
          · rw [ha]
            go_wp2_with fail
            go_ret
            exact ⟨by rw [R.out,if_pos ha]; rfl,hb2⟩
          · have ha' : vs.any (rowBad ys.length) = false := by simpa using ha
            rw [ha']
            go_wp2_with fail
            go_ret
            exact ⟨by rw [R.out,if_neg ha]; rfl,hb2⟩
    · have hy' : axB ys = false := by simpa using hy
      have EY := Lib.hid hy'
      have R : Hid (tabErr xs ys vs = 11) := by unfold Hid tabErr tabB; rw [hy']; simp
      clear hx hy hy'
      go_enter Tryz.func60,Tryz.ntmps60
      go_wp2_with fail
      refine (axis_any X xs cx _ hxl (HXx.out.below (HB2.out _ _))).mono ?_
      rintro e w' ⟨rfl,rfl⟩
      rw [EX.out]
      go_wp2_with fail
      refine (axis_any Y ys cy _ hyl (HYy.out.below (HB2.out _ _))).mono ?_
      rintro e w' ⟨rfl,rfl⟩
      rw [EY.out]
      go_wp2_with fail
      go_ret
      exact ⟨by rw [R.out]; rfl,HB2.out _ _⟩
  · have hx' : axB xs = false := by simpa using hx
    have EX := Lib.hid hx'
    have R : Hid (tabErr xs ys vs = 11) := by unfold Hid tabErr tabB; rw [hx']; simp
    clear hx hx'
    go_enter Tryz.func60,Tryz.ntmps60
    go_wp2_with fail
    refine (axis_any X xs cx _ hxl (HXx.out.below (HB2.out _ _))).mono ?_
    rintro e w' ⟨rfl,rfl⟩
    rw [EX.out]
    go_wp2_with fail
    go_ret
    exact ⟨by rw [R.out]; rfl,HB2.out _ _⟩
end Go.Proofs.YtbncpngjclabhaaGreat
/- The contract of slices.BinarySearch at ints, and of spans.cell. -/
namespace Go.Proofs.YtbncpngjclabhaaGreat
open Go.RowKit

theorem isNaN_any (n : Int) (w : World) : Calls Tryz.prog 131 #[.int .i64 n] w fun e w' => e = .returned (.bool false) ∧ w' = w := by
  have h : (n != n) = false := by simp
  go_enter Tryz.func131,Tryz.ntmps131
  go_wp2
  go_ret
  exact ⟨rfl,rfl⟩
theorem cisNaN_any (n : Int) (w : World) : Calls Tryz.prog 133 #[.int .i64 n] w fun e w' => e = .returned (.bool false) ∧ w' = w := by
  have h : (n != n) = false := by simp
  go_enter Tryz.func133,Tryz.ntmps133
  go_wp2
  go_ret
  exact ⟨rfl,rfl⟩
theorem less_any (a b : Int) (w : World) : Calls Tryz.prog 130 #[.int .i64 a,.int .i64 b] w fun e w' => e = .returned (.bool (decide (a < b))) ∧ w' = w := by
  go_enter Tryz.func130,Tryz.ntmps130
  go_wp2_with (go_at_call 133; refine (cisNaN_any _ _).mono ?_; rintro e w' ⟨rfl,rfl⟩)
  go_ret
  exact ⟨rfl,rfl⟩
def BinAt (l : List Int) (x : Int) (i : Nat) : Prop := i ≤ l.length ∧ (0 < i → l[i-1]?.getD 0 < x) ∧ (i < l.length → x ≤ l[i]?.getD 0)
def BinPost (l : List Int) (x : Int) (w : World) (e : Ending) (w' : World) : Prop := ∃ (i : Nat) (b : Bool),BinAt l x i ∧ e = .returned (.tuple #[.int .i64 i,.bool b]) ∧ w' = w
theorem binSearch_any (A : Option Addr) (l : List Int) (c : Nat) (x : Int) (w : World) (hl : l.length ≤ 1000000000) (hA : Ints w A l) :
    Calls Tryz.prog 124 #[.slice A l.length c,.int .i64 x] w (BinPost l x w) := by
  have HA := Lib.hid hA
  clear hA
  go_enter Tryz.func124,Tryz.ntmps124
  go_wp2
  go_loop [7,8,9] (fun i j _ => ∃ a b : Nat,a ≤ b ∧ b ≤ l.length ∧ i = .int .i64 a ∧ j = .int .i64 b ∧ (0 < a → l[a-1]?.getD 0 < x) ∧ (b < l.length → x ≤ l[b]?.getD 0)) (fun i j _ => (intOf j).toNat - (intOf i).toNat)
  case atStart => exact ⟨0,l.length,by omega,by omega,rfl,rfl,by omega,by omega⟩
  case round =>
    obtain ⟨a,b,hab,hbl,rfl,rfl,h1,h2⟩ := hrel
    have H1 := Lib.hid h1
    have H2 := Lib.hid h2
    clear h1 h2
    by_cases hlt : a < b
    · obtain ⟨bb,off,rfl,hbl2,hc⟩ := HA.out (by omega)
      have hc1 := hc ((a + b) / 2) (by omega)
      clear hc
      generalize hy : l[(a + b) / 2]?.getD 0 = y at hc1
      have HY := Lib.hid hy
      clear hy
      go_wp2_with fail
      refine (less_any _ _ _).mono ?_
      rintro e w' ⟨rfl,rfl⟩
      by_cases hyx : y < x
      · rw [decide_eq_true hyx]
        go_wp2_with fail
        go_round
        case rel => exact ⟨(a + b) / 2 + 1,b,by omega,by omega,by go_num,rfl,fun _ => by rw [Nat.add_sub_cancel,HY.out]; exact hyx,H2.out⟩
        case measure => simp [intOf]; omega
      · rw [decide_eq_false hyx]
        go_wp2_with fail
        go_round
        case rel => exact ⟨a,(a + b) / 2,by omega,by omega,rfl,by go_num,H1.out,fun _ => by rw [HY.out]; omega⟩
        case measure => simp [intOf]; omega
    · obtain rfl : a = b := by omega
      have HB : Hid (BinAt l x a) := ⟨hbl,H1.out,H2.out⟩
      clear H1 H2
      by_cases hal : a < l.length
      · obtain ⟨bb,off,rfl,hbl2,hc⟩ := HA.out (by omega)
        have hc1 := hc a hal
        clear hc
        generalize l[a]?.getD 0 = y at hc1
        by_cases hyx : (y == x) = true
        · go_wp2_with (go_at_call 131; refine (isNaN_any _ _).mono ?_; rintro e w' ⟨rfl,rfl⟩)
          go_ret2
          exact ⟨a,_,HB.out,rfl,rfl⟩
        · have hyx' : (y == x) = false := by simpa using hyx
          clear hyx
          go_wp2_with (go_at_call 131; refine (isNaN_any _ _).mono ?_; rintro e w' ⟨rfl,rfl⟩)
          go_ret2
          exact ⟨a,_,HB.out,rfl,rfl⟩
      · obtain rfl : a = l.length := by omega
        go_wp2_with (go_at_call 131; refine (isNaN_any _ _).mono ?_; rintro e w' ⟨rfl,rfl⟩)
        go_ret2
        exact ⟨_,_,HB.out,rfl,rfl⟩
end Go.Proofs.YtbncpngjclabhaaGreat
/- The contract of spans.cell. -/
namespace Go.Proofs.YtbncpngjclabhaaGreat
open Go.RowKit

def CellAt (l : List Int) (x : Int) (i : Nat) : Prop := i + 2 ≤ l.length ∧ (0 < i → l[i]?.getD 0 < x) ∧ (i + 2 < l.length → x ≤ l[i+1]?.getD 0)
theorem cellAt_of_bin (l : List Int) (x : Int) (i : Nat) (h2 : 2 ≤ l.length) (h : BinAt ((l.drop 1).take (l.length - 2)) x i) : CellAt l x i := by
  obtain ⟨h1,h3,h4⟩ := h
  have e : ((l.drop 1).take (l.length - 2)).length = l.length - 2 := by simp; omega
  rw [e] at h1 h4
  refine ⟨by omega,fun h0 => ?_,fun hi => ?_⟩
  · have := h3 h0
    rw [List.getElem?_take,if_pos (by omega),List.getElem?_drop,show 1 + (i - 1) = i by omega] at this
    exact this
  · have := h4 (by omega)
    rw [List.getElem?_take,if_pos (by omega),List.getElem?_drop,show 1 + i = i + 1 by omega] at this
    exact this
def CellPost (l : List Int) (x : Int) (w : World) (e : Ending) (w' : World) : Prop := ∃ i : Nat,CellAt l x i ∧ e = .returned (.int .i64 i) ∧ w' = w
theorem cell_any (A : Option Addr) (l : List Int) (c : Nat) (x : Int) (w : World) (h2 : 2 ≤ l.length) (hl : l.length ≤ 1000000) (hlc : l.length ≤ c) (hA : Ints w A l) :
    Calls Tryz.prog 111 #[.slice A l.length c,.int .i64 x] w (CellPost l x w) := by
  obtain ⟨b,off,rfl,hb,hc⟩ := hA (by omega)
  have e : ((l.drop 1).take (l.length - 2)).length = l.length - 1 - 1 := by simp; omega
  have hsub : Ints w (some ⟨b,off + 1,none⟩) ((l.drop 1).take (l.length - 2)) := fun _ => ⟨b,off + 1,rfl,hb,fun k hk => by
    rw [e] at hk
    rw [List.getElem?_take,if_pos (by omega),List.getElem?_drop,show off + 1 + k = off + (1 + k) by omega]
    exact hc (1 + k) (by omega)⟩
  have h := binSearch_any (some ⟨b,off + 1,none⟩) ((l.drop 1).take (l.length - 2)) (c - 1) x w (by omega) hsub
  rw [e] at h
  have H := Lib.hid h
  have hi1 : (1 : Int) ≤ (l.length : Int) - 1 := by omega
  have hi2 : (l.length : Int) - 1 ≤ (c : Int) := by omega
  clear hc hA e hsub h
  go_enter Tryz.func111,Tryz.ntmps111
  go_wp2_with fail
  refine H.out.mono ?_
  rintro e w' ⟨i,bb,hbin,rfl,rfl⟩
  have HB := Lib.hid hbin
  clear hbin
  go_wp2_with fail
  go_ret
  exact ⟨i,cellAt_of_bin l x i h2 HB.out,rfl,rfl⟩
end Go.Proofs.YtbncpngjclabhaaGreat
/- Plain facts of an axis that is valid, and of the part of it in which a number lies. -/
namespace Go.Proofs.YtbncpngjclabhaaGreat
open Go.RowKit

theorem axFrom_all (p : Option Int) (l : List Int) (h : axFrom p l = true) : (∀ k,k < l.length → -1000000 ≤ l[k]?.getD 0 ∧ l[k]?.getD 0 ≤ 1000000) ∧
    (∀ k,k + 1 < l.length → 1 ≤ l[k+1]?.getD 0 - l[k]?.getD 0 ∧ l[k+1]?.getD 0 - l[k]?.getD 0 ≤ 10000) ∧ (∀ y,p = some y → 0 < l.length → 1 ≤ l[0]?.getD 0 - y ∧ l[0]?.getD 0 - y ≤ 10000) := by
  induction l generalizing p with
  | nil => simp
  | cons x xs ih =>
    simp only [axFrom,Bool.and_eq_true] at h
    obtain ⟨⟨h1,h2⟩,h3⟩ := h
    obtain ⟨i1,i2,i3⟩ := ih _ h3
    have hx := wB_iff.1 h1
    refine ⟨fun k hk => ?_,fun k hk => ?_,fun y hy _ => ?_⟩
    · cases k with
      | zero => simpa using hx
      | succ k => simpa using i1 k (by simpa using hk)
    · cases k with
      | zero => simpa using i3 x rfl (by simpa using hk)
      | succ k => simpa using i2 k (by simpa using hk)
    · subst hy
      simpa using wB_iff.1 h2
structure Axis (l : List Int) : Prop where
  two : 2 ≤ l.length
  twelve : l.length ≤ 12
  bd : ∀ k,k < l.length → -1000000 ≤ l[k]?.getD 0 ∧ l[k]?.getD 0 ≤ 1000000
  gap : ∀ k,k + 1 < l.length → 1 ≤ l[k+1]?.getD 0 - l[k]?.getD 0 ∧ l[k+1]?.getD 0 - l[k]?.getD 0 ≤ 10000
theorem axis_of {l : List Int} (h : axB l = true) : Axis l := by
  unfold axB at h
  simp only [Bool.and_eq_true] at h
  have h1 := wB_iff.1 h.1
  obtain ⟨a,b,_⟩ := axFrom_all none l h.2
  exact ⟨by omega,by omega,a,b⟩
theorem Axis.mono {l : List Int} (h : Axis l) (i j : Nat) (hij : i ≤ j) (hj : j < l.length) : l[i]?.getD 0 ≤ l[j]?.getD 0 := by
  induction j with
  | zero => obtain rfl : i = 0 := by omega
            exact Int.le_refl _
  | succ j ih =>
    by_cases e : i = j + 1
    · subst e; exact Int.le_refl _
    · have := ih (by omega) (by omega)
      have := h.gap j hj
      omega
theorem Axis.cell_unique {l : List Int} (h : Axis l) {x : Int} {i j : Nat} (hi : CellAt l x i) (hj : CellAt l x j) : i = j := by
  have key : ∀ {i j : Nat},CellAt l x i → CellAt l x j → ¬ i < j := by
    intro i j hi hj hlt
    have h1 := hi.2.2 (by have := hj.1; omega)
    have h2 := hj.2.1 (by omega)
    have h3 := h.mono (i + 1) j (by omega) (by have := hj.1; omega)
    omega
  have h1 := key hi hj
  have h2 := key hj hi
  omega
instance (l : List Int) (x : Int) (i : Nat) : Decidable (CellAt l x i) := by unfold CellAt; exact inferInstance
def cellI (l : List Int) (x : Int) : Nat := ((List.range l.length).find? (fun i => decide (CellAt l x i))).getD 0
theorem Axis.cellI_eq {l : List Int} (h : Axis l) {x : Int} {i : Nat} (hi : CellAt l x i) : cellI l x = i := by
  unfold cellI
  cases e : (List.range l.length).find? (fun i => decide (CellAt l x i)) with
  | none =>
    have := List.find?_eq_none.1 e i (by have := hi.1; simp; omega)
    simp [hi] at this
  | some j =>
    have := List.find?_some e
    exact h.cell_unique (by simpa using this) hi
theorem cellI_any (A : Option Addr) (l : List Int) (c : Nat) (x : Int) (w : World) (h : Axis l) (hlc : l.length ≤ c) (hA : Ints w A l) :
    Calls Tryz.prog 111 #[.slice A l.length c,.int .i64 x] w fun e w' => e = .returned (.int .i64 (cellI l x)) ∧ w' = w :=
  (cell_any A l c x w h.two (by have := h.twelve; omega) hlc hA).mono fun _ _ ⟨i,hi,he,hw⟩ => ⟨by rw [h.cellI_eq hi]; exact he,hw⟩
def OnAx (l : List Int) (x : Int) : Prop := l[0]?.getD 0 ≤ x ∧ x ≤ l[l.length - 1]?.getD 0
theorem Axis.cell_exists {l : List Int} (h : Axis l) (x : Int) : ∃ i,CellAt l x i := by
  -- the first i from 0 on at which the number is at most the next knot,or the last part
  have key : ∀ n i,i + n + 2 = l.length → (0 < i → l[i]?.getD 0 < x) → ∃ j,CellAt l x j := by
    intro n
    induction n with
    | zero => intro i hi h0; exact ⟨i,by omega,h0,by omega⟩
    | succ n ih =>
      intro i hi h0
      by_cases hx : x ≤ l[i+1]?.getD 0
      · exact ⟨i,by omega,h0,fun _ => hx⟩
      · exact ih (i + 1) (by omega) (fun _ => by omega)
  exact key (l.length - 2) 0 (by have := h.two; omega) (by omega)
theorem Axis.cellI_at {l : List Int} (h : Axis l) (x : Int) : CellAt l x (cellI l x) := by
  obtain ⟨i,hi⟩ := h.cell_exists x
  rw [h.cellI_eq hi]; exact hi
theorem Axis.cell_on {l : List Int} (h : Axis l) {x : Int} (ho : OnAx l x) : cellI l x + 1 < l.length ∧ l[cellI l x]?.getD 0 ≤ x ∧ x ≤ l[cellI l x + 1]?.getD 0 ∧ l[cellI l x + 1]?.getD 0 - l[cellI l x]?.getD 0 ≤ 10000 ∧ 1 ≤ l[cellI l x + 1]?.getD 0 - l[cellI l x]?.getD 0 := by
  obtain ⟨h1,h2,h3⟩ := h.cellI_at x
  generalize cellI l x = i at *
  have g := h.gap i (by omega)
  refine ⟨by omega,?_,?_,g.2,g.1⟩
  · by_cases h0 : 0 < i
    · have := h2 h0; omega
    · obtain rfl : i = 0 := by omega
      exact ho.1
  · by_cases h0 : i + 2 < l.length
    · exact h3 h0
    · have : i + 1 = l.length - 1 := by omega
      rw [this]; exact ho.2
end Go.Proofs.YtbncpngjclabhaaGreat
/- The contract of spans.at: the value of a valid table at a point on it, as a fraction; old memory stays. -/
namespace Go.Proofs.YtbncpngjclabhaaGreat
open Go.RowKit

theorem wp_region_tail {P : Program} {id : Nat} {Q : Exit → Act → World → Prop} {a : Act} {w : World} {l : List Oper} (n : Nat) (hm : P.follows .mixedOrders = true) (hB : Region.lexTailB .any l.toArray n = true)
    (h : wpStill P l.toArray w.drew (fun a' => wpList P l.toArray Q (l.drop n) a' w.drew) (l.take n) a) : (Code.region id l.toArray true).wp P Q a w := wp_region_still_tail n hm hB h
def numF (a b c d z00 z10 z01 z11 : Int) : Int := a * c * z00 + b * c * z10 + a * d * z01 + b * d * z11
def denF (a b c d : Int) : Int := (a + b) * (c + d)
theorem mul_bd {a b A B : Int} (ha : 0 ≤ a) (ha' : a ≤ A) (hb : 0 ≤ b) (hb' : b ≤ B) : 0 ≤ a * b ∧ a * b ≤ A * B :=
  ⟨Int.mul_nonneg ha hb,Int.mul_le_mul ha' hb' hb (by omega)⟩
theorem mul_bd2 {a z A B : Int} (ha : 0 ≤ a) (ha' : a ≤ A) (hz : -B ≤ z) (hz' : z ≤ B) (hB : 0 ≤ B) : -(A * B) ≤ a * z ∧ a * z ≤ A * B := by
  have h1 : a * z ≤ a * B := Int.mul_le_mul_of_nonneg_left hz' ha
  have h2 : a * (-B) ≤ a * z := Int.mul_le_mul_of_nonneg_left hz ha
  have h3 : a * B ≤ A * B := Int.mul_le_mul_of_nonneg_right ha' hB
  rw [Int.mul_neg] at h2
  omega
structure TabR (w : World) (X Y V : Option Addr) (cx cy cv : Nat) (xs ys : List Int) (vs : List (List Int)) : Prop where
  hX : Ints w X xs
  hY : Ints w Y ys
  hV : Mat w V vs
  lx : xs.length ≤ cx
  ly : ys.length ≤ cy
theorem TabR.below {w w' : World} {X Y V : Option Addr} {cx cy cv : Nat} {xs ys : List Int} {vs : List (List Int)} (h : TabR w X Y V cx cy cv xs ys vs) (hb : Below w.heap.size w w') : TabR w' X Y V cx cy cv xs ys vs :=
  ⟨h.hX.below hb,h.hY.below hb,h.hV.below hb,h.lx,h.ly⟩
structure Tbl (xs ys : List Int) (vs : List (List Int)) : Prop where
  ax : Axis xs
  ay : Axis ys
  len : vs.length = xs.length
  row : ∀ k,k < vs.length → (vs[k]?.getD []).length = ys.length
  val : ∀ k j,k < vs.length → j < ys.length → -1000000 ≤ (vs[k]?.getD [])[j]?.getD 0 ∧ (vs[k]?.getD [])[j]?.getD 0 ≤ 1000000
theorem tbl_of {xs ys : List Int} {vs : List (List Int)} (h : tabB xs ys vs = true) : Tbl xs ys vs := by
  unfold tabB at h
  simp only [Bool.and_eq_true,Bool.not_eq_true',bne_eq_false_iff_eq,List.any_eq_false] at h
  obtain ⟨⟨⟨h1,h2⟩,h3⟩,h4⟩ := h
  have hr : ∀ k,k < vs.length → rowBad ys.length (vs[k]?.getD []) = false := fun k hk => by
    have := h4 (vs[k]?.getD []) (by simp [hk])
    simpa using this
  refine ⟨axis_of h1,axis_of h2,by omega,fun k hk => ?_,fun k j hk hj => ?_⟩
  · have := hr k hk
    unfold rowBad at this
    simp only [Bool.or_eq_false_iff,bne_eq_false_iff_eq] at this
    omega
  · have := hr k hk
    unfold rowBad at this
    simp only [Bool.or_eq_false_iff,bne_eq_false_iff_eq,List.any_eq_false] at this
    have h5 := this.2 ((vs[k]?.getD [])[j]?.getD 0) (by
      have : j < (vs[k]?.getD []).length := by omega
      simp [this])
    simp only [Bool.not_eq_true',Bool.not_eq_false] at h5
    exact wB_iff.1 h5
def atN (xs ys : List Int) (vs : List (List Int)) (x y : Int) : Int :=
  let i := cellI xs x; let k := cellI ys y
  numF (xs[i+1]?.getD 0 - x) (x - xs[i]?.getD 0) (ys[k+1]?.getD 0 - y) (y - ys[k]?.getD 0)
    ((vs[i]?.getD [])[k]?.getD 0) ((vs[i+1]?.getD [])[k]?.getD 0) ((vs[i]?.getD [])[k+1]?.getD 0) ((vs[i+1]?.getD [])[k+1]?.getD 0)
def atD (xs ys : List Int) (x y : Int) : Int :=
  let i := cellI xs x; let k := cellI ys y
  denF (xs[i+1]?.getD 0 - x) (x - xs[i]?.getD 0) (ys[k+1]?.getD 0 - y) (y - ys[k]?.getD 0)
theorem at_any (xs ys : List Int) (vs : List (List Int)) (X Y V : Option Addr) (cx cy cv : Nat) (x y : Int) (w : World)
   (hT : Tbl xs ys vs) (hR : TabR w X Y V cx cy cv xs ys vs) (hx : OnAx xs x) (hy : OnAx ys y) :
   Calls Tryz.prog 90 #[.agg #[.slice X xs.length cx,.slice Y ys.length cy,.slice V vs.length cv],.int .i64 x,.int .i64 y] w
     fun e w' => e = .returned (.agg #[.int .i64 (atN xs ys vs x y),.int .i64 (atD xs ys x y)]) ∧ Below w.heap.size w w' := by
  have q1 := hT.ax.cell_on hx
  have q2 := hT.ay.cell_on hy
  have hq1 : ∀ W,Below w.heap.size w W → Calls Tryz.prog 111 #[.slice X xs.length cx,.int .i64 x] W fun e w' => e = .returned (.int .i64 (cellI xs x)) ∧ w' = W :=
    fun W hb => cellI_any X xs cx x W hT.ax hR.lx (hR.hX.below hb)
  have hq2 : ∀ W,Below w.heap.size w W → Calls Tryz.prog 111 #[.slice Y ys.length cy,.int .i64 y] W fun e w' => e = .returned (.int .i64 (cellI ys y)) ∧ w' = W :=
    fun W hb => cellI_any Y ys cy y W hT.ay hR.ly (hR.hY.below hb)
  have hN : atN xs ys vs x y = numF (xs[cellI xs x + 1]?.getD 0 - x) (x - xs[cellI xs x]?.getD 0) (ys[cellI ys y + 1]?.getD 0 - y) (y - ys[cellI ys y]?.getD 0)
    ((vs[cellI xs x]?.getD [])[cellI ys y]?.getD 0) ((vs[cellI xs x + 1]?.getD [])[cellI ys y]?.getD 0) ((vs[cellI xs x]?.getD [])[cellI ys y + 1]?.getD 0) ((vs[cellI xs x + 1]?.getD [])[cellI ys y + 1]?.getD 0) := rfl
  have hD : atD xs ys x y = denF (xs[cellI xs x + 1]?.getD 0 - x) (x - xs[cellI xs x]?.getD 0) (ys[cellI ys y + 1]?.getD 0 - y) (y - ys[cellI ys y]?.getD 0) := rfl
  generalize cellI xs x = i at *
  generalize cellI ys y = k at *
  have t12x := hT.ax.twelve
  have t12y := hT.ay.twelve
  have lenv := hT.len
  have r0 := hT.row i (by omega)
  have r1 := hT.row (i+1) (by omega)
  have b00 := hT.val i k (by omega) (by omega)
  have b01 := hT.val i (k+1) (by omega) (by omega)
  have b10 := hT.val (i+1) k (by omega) (by omega)
  have b11 := hT.val (i+1) (k+1) (by omega) (by omega)
  obtain ⟨bx,ox,rfl,hbx,hcx⟩ := hR.hX (by omega)
  obtain ⟨bY,oy,rfl,hby,hcy⟩ := hR.hY (by omega)
  obtain ⟨bv,ov,rfl,hbv,hcv⟩ := hR.hV (by omega)
  obtain ⟨R0,c0,e0,hR0⟩ := hcv i (by omega)
  obtain ⟨R1,c1,e1,hR1⟩ := hcv (i+1) (by omega)
  obtain ⟨b0,o0,rfl,hb0,hc0⟩ := hR0 (by omega)
  obtain ⟨b1,o1,rfl,hb1,hc1⟩ := hR1 (by omega)
  have cx0 := hcx i (by omega)
  have cx1 := hcx (i+1) (by omega)
  have cy0 := hcy k (by omega)
  have cy1 := hcy (k+1) (by omega)
  have v00 := hc0 k (by omega)
  have v01 := hc0 (k+1) (by omega)
  have v10 := hc1 k (by omega)
  have v11 := hc1 (k+1) (by omega)
  rw [r0] at e0
  rw [r1] at e1
  generalize xs[i]?.getD 0 = x0 at *
  generalize xs[i+1]?.getD 0 = x1 at *
  generalize ys[k]?.getD 0 = y0 at *
  generalize ys[k+1]?.getD 0 = y1 at *
  generalize (vs[i]?.getD [])[k]?.getD 0 = z00 at *
  generalize (vs[i]?.getD [])[k+1]?.getD 0 = z01 at *
  generalize (vs[i+1]?.getD [])[k]?.getD 0 = z10 at *
  generalize (vs[i+1]?.getD [])[k+1]?.getD 0 = z11 at *
  obtain ⟨hi,hx0,hx1,hgx,_⟩ := q1
  obtain ⟨hk,hy0,hy1,hgy,_⟩ := q2
  have p1 := mul_bd (a := x1 - x) (b := y1 - y) (A := 10000) (B := 10000) (by omega) (by omega) (by omega) (by omega)
  have p2 := mul_bd (a := x - x0) (b := y1 - y) (A := 10000) (B := 10000) (by omega) (by omega) (by omega) (by omega)
  have p3 := mul_bd (a := x1 - x) (b := y - y0) (A := 10000) (B := 10000) (by omega) (by omega) (by omega) (by omega)
  have p4 := mul_bd (a := x - x0) (b := y - y0) (A := 10000) (B := 10000) (by omega) (by omega) (by omega) (by omega)
  have p5 := mul_bd (a := x1 - x + (x - x0)) (b := y1 - y + (y - y0)) (A := 10000) (B := 10000) (by omega) (by omega) (by omega) (by omega)
  have s1 := mul_bd2 (A := 100000000) (B := 1000000) p1.1 (by omega) b00.1 b00.2 (by omega)
  have s2 := mul_bd2 (A := 100000000) (B := 1000000) p2.1 (by omega) b10.1 b10.2 (by omega)
  have s3 := mul_bd2 (A := 100000000) (B := 1000000) p3.1 (by omega) b01.1 b01.2 (by omega)
  have s4 := mul_bd2 (A := 100000000) (B := 1000000) p4.1 (by omega) b11.1 b11.2 (by omega)
  have HN := Lib.hid hN
  have HD := Lib.hid hD
  have HQ1 := Lib.hid hq1
  have HQ2 := Lib.hid hq2
  have hlv : i + 1 < vs.length := by omega
  have hlv2 : vs.length ≤ 12 := by omega
  clear hN hD hq1 hq2 hcx hcy hcv hc0 hc1 hR0 hR1 hR hT hx hy lenv r0 r1 
  have hBd : ∀ (o1 o2 : Obj) (n : Nat),Below w.heap.size w (((w.alloc o1).alloc o2).drewN n) := fun o1 o2 n => Below.drewN' (((Below.refl _ w).alloc (Nat.le_refl _) _).alloc (by simp) _) n
  have HBd := Lib.hid hBd
  clear hBd
  go_enter Tryz.func90,Tryz.ntmps90
  go_wp2_with fail
  go_quiet ((go_at_call 111; first | (with_reducible exact Calls.quiet_of_same (HQ1.out _ (HBd.out _ _ _))) | (with_reducible exact Calls.quiet_of_same (HQ2.out _ (HBd.out _ _ _)))))
  go_wp2_with fail
  go_quiet (fail)
  go_wp2_with fail
  go_quiet (fail)
  go_wp2_with fail
  have t1 : ((i : Int) + 1).toNat = i + 1 := by omega
  have t2 : ((k : Int) + 1).toNat = k + 1 := by omega
  have t3 : (0 : Int) ≤ (i : Int) + 1 := by omega
  have t4 : (0 : Int) ≤ (k : Int) + 1 := by omega
  have t5 : (i : Int) < (vs.length : Int) := by omega
  have t6 : (i : Int) + 1 < (vs.length : Int) := by omega
  have t7 : (k : Int) < (ys.length : Int) := by omega
  have t8 : (k : Int) + 1 < (ys.length : Int) := by omega
  have u1 : IntKind.i64.wrap ((i : Int) + 1) = (i : Int) + 1 := IntWalk.i64_in _ (by omega)
  have u2 : IntKind.i64.wrap ((k : Int) + 1) = (k : Int) + 1 := IntWalk.i64_in _ (by omega)
  have u3 : IntKind.i64.wrap ((x1 - x) * (y1 - y)) = (x1 - x) * (y1 - y) := IntWalk.i64_in _ (by omega)
  have u4 : IntKind.i64.wrap ((x - x0) * (y1 - y)) = (x - x0) * (y1 - y) := IntWalk.i64_in _ (by omega)
  have u5 : IntKind.i64.wrap ((x1 - x) * (y - y0)) = (x1 - x) * (y - y0) := IntWalk.i64_in _ (by omega)
  have u6 : IntKind.i64.wrap ((x - x0) * (y - y0)) = (x - x0) * (y - y0) := IntWalk.i64_in _ (by omega)
  have u7 : IntKind.i64.wrap ((x1 - x) * (y1 - y) * z00) = (x1 - x) * (y1 - y) * z00 := IntWalk.i64_in _ (by omega)
  have u8 : IntKind.i64.wrap ((x - x0) * (y1 - y) * z10) = (x - x0) * (y1 - y) * z10 := IntWalk.i64_in _ (by omega)
  have u9 : IntKind.i64.wrap ((x1 - x) * (y - y0) * z01) = (x1 - x) * (y - y0) * z01 := IntWalk.i64_in _ (by omega)
  have u10 : IntKind.i64.wrap ((x - x0) * (y - y0) * z11) = (x - x0) * (y - y0) * z11 := IntWalk.i64_in _ (by omega)
  have u11 : IntKind.i64.wrap ((x1 - x) * (y1 - y) * z00 + (x - x0) * (y1 - y) * z10) = (x1 - x) * (y1 - y) * z00 + (x - x0) * (y1 - y) * z10 := IntWalk.i64_in _ (by omega)
  have u12 : IntKind.i64.wrap ((x1 - x) * (y1 - y) * z00 + (x - x0) * (y1 - y) * z10 + (x1 - x) * (y - y0) * z01) = (x1 - x) * (y1 - y) * z00 + (x - x0) * (y1 - y) * z10 + (x1 - x) * (y - y0) * z01 := IntWalk.i64_in _ (by omega)
  have u13 : IntKind.i64.wrap ((x1 - x) * (y1 - y) * z00 + (x - x0) * (y1 - y) * z10 + (x1 - x) * (y - y0) * z01 + (x - x0) * (y - y0) * z11) = (x1 - x) * (y1 - y) * z00 + (x - x0) * (y1 - y) * z10 + (x1 - x) * (y - y0) * z01 + (x - x0) * (y - y0) * z11 := IntWalk.i64_in _ (by omega)
  have u14 : IntKind.i64.wrap (x1 - x + (x - x0)) = x1 - x + (x - x0) := IntWalk.i64_in _ (by omega)
  have u15 : IntKind.i64.wrap (y1 - y + (y - y0)) = y1 - y + (y - y0) := IntWalk.i64_in _ (by omega)
  have u16 : IntKind.i64.wrap ((x1 - x + (x - x0)) * (y1 - y + (y - y0))) = (x1 - x + (x - x0)) * (y1 - y + (y - y0)) := IntWalk.i64_in _ (by omega)
  refine wp_region_tail 59 (by kernel_rfl) (by kernel_rfl) ?_
  simp only [List.take_succ_cons,List.take_zero,List.drop_succ_cons,List.drop_zero]
  repeat still_step
  refine wpStill_nil ?_
  clear t1 t2 t3 t4 t5 t6 t7 t8 u1 u2 u3 u4 u5 u6 u7 u8 u9 u10 u11 u12 u13 u14 u15 u16
  go_wp2_with fail
  refine bodyPost_ret (v := .agg #[.int .i64 (numF (x1 - x) (x - x0) (y1 - y) (y - y0) z00 z10 z01 z11),.int .i64 (denF (x1 - x) (x - x0) (y1 - y) (y - y0))]) (by simp [results,Tryz.results90,go_sem,numF,denF]) rfl ⟨?_,?_⟩
  · rw [HN.out,HD.out]
  · repeat (first | exact HBd.out _ _ _ | refine Below.setCell ?_ (by simp) _ | refine Below.drew ?_)
end Go.Proofs.YtbncpngjclabhaaGreat
/- The contract of spans.stops: the ends of a span and the knots within it, as a new slice; old memory stays. -/
namespace Go.Proofs.YtbncpngjclabhaaGreat
open Go.RowKit

def IV (l : List Int) : List Value := l.map (Value.int .i64)
theorem IV_snoc (l : List Int) (x : Int) : IV (l ++ [x]) = IV l ++ [.int .i64 x] := by simp [IV]
theorem ints_of_own {w : World} {base : Nat} {e : TypeId} {v : Value} {l : List Int} (h : w.ownsRow base e 1 v l.length (IV l)) :
    ∃ A c,v = .slice A l.length c ∧ Ints w A l ∧ l.length ≤ c ∧ ∀ ad,A = some ad → base ≤ ad.block := by
  obtain ⟨h1,⟨rfl,h0⟩ | ⟨g,cap,cur,rfl,hb,hg,hc,hm,hs,ht⟩⟩ := h
  · exact ⟨none,0,by rw [h0],fun hl => by omega,by omega,fun ad h => by cases h⟩
  · refine ⟨some ⟨g,0,none⟩,cap,rfl,fun _ => ⟨g,0,rfl,?_,fun k hk => ?_⟩,hc,fun ad h => by cases h; exact hb⟩
    · rcases Nat.lt_or_ge g w.heap.size with hlt | hge
      · exact hlt
      · rw [Array.getElem?_eq_none hge] at hg; cases hg
    · rw [cell_of_row w g (0 + k) cur e (0,0) hg]
      have h2 : (cur.toList.take (l.length * 1))[k]? = (IV l)[k]? := by rw [ht]
      unfold IV at h2
      rw [List.getElem?_take,if_pos (by omega),List.getElem?_map] at h2
      rw [Nat.zero_add,← Array.getElem?_toList,h2]
      simp [hk]
theorem Tryz.info_int : (Tryz.prog.info? 3).map (fun i => (i.zero,i.size,i.bytes)) = some (some (.int .i64 0),1,8) := by kernel_rfl
def midL (l : List Int) (lo hi : Int) : List Int := l.filter (fun x => decide (lo < x) && decide (x < hi))
def stopsL (l : List Int) (lo hi : Int) : List Int := lo :: midL l lo hi ++ (if lo < hi then [hi] else [])
theorem midL_take (l : List Int) (lo hi : Int) (k : Nat) (h : k < l.length) : midL (l.take (k + 1)) lo hi = midL (l.take k) lo hi ++ (if lo < l[k]?.getD 0 ∧ l[k]?.getD 0 < hi then [l[k]?.getD 0] else []) := by
  unfold midL
  rw [List.take_succ_eq_append_getElem h,List.filter_append]
  have e : l[k]?.getD 0 = l[k] := by simp [h]
  rw [e]
  by_cases h1 : lo < l[k] ∧ l[k] < hi <;> simp [h1]
theorem midL_len (l : List Int) (lo hi : Int) : (midL l lo hi).length ≤ l.length := List.length_filter_le _ _
def accL (l : List Int) (lo hi : Int) (k : Nat) : List Int := lo :: midL (l.take k) lo hi
theorem accL_len (l : List Int) (lo hi : Int) (k : Nat) : (accL l lo hi k).length ≤ l.length + 1 := by
  have h1 := midL_len (l.take k) lo hi
  have h2 : (l.take k).length ≤ l.length := by simp; omega
  simp [accL]; omega
theorem accL_yes {l : List Int} {lo hi x : Int} {k : Nat} (h : k < l.length) (hx : l[k]?.getD 0 = x) (h1 : lo < x) (h2 : x < hi) : accL l lo hi (k + 1) = accL l lo hi k ++ [x] := by
  unfold accL; rw [midL_take l lo hi k h,hx,if_pos ⟨h1,h2⟩]; rfl
theorem accL_no {l : List Int} {lo hi x : Int} {k : Nat} (h : k < l.length) (hx : l[k]?.getD 0 = x) (hn : ¬ (lo < x ∧ x < hi)) : accL l lo hi (k + 1) = accL l lo hi k := by
  unfold accL; rw [midL_take l lo hi k h,hx,if_neg hn]; simp
theorem accL_end {l : List Int} {lo hi : Int} : accL l lo hi l.length = lo :: midL l lo hi := by simp [accL]
def OutInts (l : List Int) (w : World) (e : Ending) (w' : World) : Prop := ∃ A c,e = .returned (.slice A l.length c) ∧ Ints w' A l ∧ l.length ≤ c ∧ (∀ ad,A = some ad → w.heap.size ≤ ad.block) ∧ Below w.heap.size w w'
theorem outInts_mk {w w' : World} {base : Nat} {e : TypeId} {v : Value} {l : List Int} (h : w'.ownsRow base e 1 v l.length (IV l)) (hbs : w.heap.size ≤ base) (hb : Below w.heap.size w w') : OutInts l w (.returned v) w' := by
  obtain ⟨A,c,rfl,hi,hc,hf⟩ := ints_of_own h
  exact ⟨A,c,rfl,hi,hc,fun ad h => Nat.le_trans hbs (hf ad h),hb⟩
theorem ownBlock_ge {w : World} {base : Nat} {e : TypeId} {s : Nat} {v : Value} {n : Nat} {xs : List Value} (h : w.ownsRow base e s v n xs) : ∀ k,v.ownBlock = some k → base ≤ k := by
  intro k hk
  obtain ⟨h1,⟨rfl,h0⟩ | ⟨g,cap,cur,rfl,hb,hg,hc,hm,hs,ht⟩⟩ := h
  · simp [Value.ownBlock] at hk
  · simp [Value.ownBlock] at hk; omega
theorem stops_any (A : Option Addr) (l : List Int) (c : Nat) (lo hi : Int) (w : World) (hl : l.length ≤ 1000000) (hA : Ints w A l) :
    Calls Tryz.prog 89 #[.slice A l.length c,.agg #[.int .i64 lo,.int .i64 hi]] w (OutInts (stopsL l lo hi) w) := by
  obtain ⟨i0,hi0,hz0,hz1,hz2⟩ := info_parts Tryz.info_int
  have HA := Lib.hid hA
  clear hA
  have hsp : ∀ k,(accL l lo hi k).length ≤ l.length + 1 := accL_len l lo hi
  have HSP := Lib.hid hsp
  have HW1 := Lib.hid (show Below w.heap.size w (w.alloc (.cells #[.int .i64 lo,.int .i64 hi] 31)) from (Below.refl _ _).alloc (Nat.le_refl _) _)
  clear hsp
  go_enter Tryz.func89,Tryz.ntmps89
  go_wp2_with fail
  go_loopw [5,7,13] (fun v _ i wr => ∃ k : Nat,k ≤ l.length ∧ i = .int .i64 k ∧ wr.ownsRow (w.heap.size + 1) 3 1 v (accL l lo hi k).length (IV (accL l lo hi k)) ∧
      Below (w.heap.size + 1) (w.alloc (.cells #[.int .i64 lo,.int .i64 hi] 31)) wr) (fun _ _ i _ => l.length - (intOf i).toNat)
  case atStart =>
    refine ⟨0,by omega,rfl,?_,(Below.refl _ _).alloc (by simp) _⟩
    have := World.ownsRow_lit (base := w.heap.size + 1) (e := 3) (size := 1) (w.alloc (.cells #[.int .i64 lo,.int .i64 hi] 31)) #[.int .i64 lo] 1 (by simp) (by simp [maxLen]) (by simp)
    simpa [midL,accL,IV] using this
  case round =>
    obtain ⟨k,hk,rfl,hown,hb⟩ := hrel
    have hlo : wr.cell? ⟨w.heap.size,0,none⟩ = some (.int .i64 lo) := (hb.cell (by simp)).trans (by simp)
    have hhi : wr.cell? ⟨w.heap.size,1,none⟩ = some (.int .i64 hi) := (hb.cell (by simp)).trans (by simp)
    have hszr := hb.size
    simp only [World.size_alloc] at hszr
    have HOWN := Lib.hid hown
    have HBR := Lib.hid hb
    clear hown hb
    by_cases hlt : k < l.length
    · obtain ⟨b,off,rfl,hbl,hc⟩ := HA.out (by omega)
      have hc1 : wr.cell? ⟨b,off + k,none⟩ = some (.int .i64 (l[k]?.getD 0)) := (HBR.out.cell (p := ⟨b,off + k,none⟩) (by simp; omega)).trans ((World.cell?_alloc_lt _ _ _ hbl).trans (hc k hlt))
      clear hc
      generalize hx : l[k]?.getD 0 = x at hc1
      have HX := Lib.hid hx
      clear hx
      by_cases h1 : lo < x
      · by_cases h2 : x < hi
        · go_wp2_with (at_builtin; refine wpList_append_own _ rfl _ _ 22 rfl (w.heap.size + 1) 3 i0 (.int .i64 0) 1 8 Tryz.underlying22 hi0 hz0 hz1 hz2 rfl (by decide) _ _ _ rfl (HOWN.out.alloc _) ⟨wr.heap.size,0,none⟩ 1 1 [.int .i64 x] rfl rfl ?c1 ?c2 ?c3 ?c4 ?c5 ?_)
          case c1 => exact cell_one_new _ _ _
          case c2 => simp [Value.oneCell']
          case c3 => have := HSP.out k; simp only [maxLen]; omega
          case c4 => have := HSP.out k; omega
          case c5 => simp; omega
          intro v' w1 hown1 hg1 _
          have HO1 := Lib.hid hown1
          have HB1 := Lib.hid ((HBR.out.alloc (by omega) _).grown hg1 (by simp; omega) (ownBlock_ge HOWN.out))
          clear hown1 hg1
          go_wp2_with fail
          go_roundw
          case rel => exact ⟨k + 1,by omega,by go_num,by rw [accL_yes hlt HX.out h1 h2,List.length_append,IV_snoc]; exact HO1.out,HB1.out⟩
          case measure => simp [intOf]; omega
        · go_wp2_with fail
          go_roundw
          case rel => exact ⟨k + 1,by omega,by go_num,by rw [accL_no hlt HX.out (by omega)]; exact HOWN.out,HBR.out⟩
          case measure => simp [intOf]; omega
      · go_wp2_with fail
        go_roundw
        case rel => exact ⟨k + 1,by omega,by go_num,by rw [accL_no hlt HX.out (by omega)]; exact HOWN.out,HBR.out⟩
        case measure => simp [intOf]; omega
    · obtain rfl : k = l.length := by omega
      by_cases hlh : lo < hi
      · go_wp2_with (at_builtin; refine wpList_append_own _ rfl _ _ 22 rfl (w.heap.size + 1) 3 i0 (.int .i64 0) 1 8 Tryz.underlying22 hi0 hz0 hz1 hz2 rfl (by decide) _ _ _ rfl (HOWN.out.alloc _) ⟨wr.heap.size,0,none⟩ 1 1 [.int .i64 hi] rfl rfl ?c1 ?c2 ?c3 ?c4 ?c5 ?_)
        case c1 => exact cell_one_new _ _ _
        case c2 => simp [Value.oneCell']
        case c3 => have := HSP.out l.length; simp only [maxLen]; omega
        case c4 => have := HSP.out l.length; omega
        case c5 => simp; omega
        intro v' w1 hown1 hg1 _
        have HO1 := Lib.hid hown1
        have HB1 := Lib.hid ((HBR.out.alloc (by omega) _).grown hg1 (by simp; omega) (ownBlock_ge HOWN.out))
        clear hown1 hg1
        go_wp2_with fail
        go_ret
        refine outInts_mk (base := w.heap.size + 1) (e := 3) ?_ (by omega) (HW1.out.trans (HB1.out.mono (by omega)))
        have e : stopsL l lo hi = accL l lo hi l.length ++ [hi] := by rw [accL_end,stopsL,if_pos hlh]
        rw [e,List.length_append,IV_snoc]; exact HO1.out
      · go_wp2_with fail
        go_ret
        refine outInts_mk (base := w.heap.size + 1) (e := 3) ?_ (by omega) (HW1.out.trans (HBR.out.mono (by omega)))
        have e : stopsL l lo hi = accL l lo hi l.length := by rw [accL_end,stopsL,if_neg (by omega)]; simp
        rw [e]; exact HOWN.out
end Go.Proofs.YtbncpngjclabhaaGreat
/- The contracts of cmp.Or at ints and of spans' comparison of two fractions; old memory stays. -/
namespace Go.Proofs.YtbncpngjclabhaaGreat
open Go.RowKit

def orL : List Int → Int
  | [] => 0
  | x :: xs => if x = 0 then orL xs else x
theorem orL_drop (l : List Int) (k : Nat) (h : k < l.length) : orL (l.drop k) = if l[k]?.getD 0 = 0 then orL (l.drop (k + 1)) else l[k]?.getD 0 := by
  rw [List.drop_eq_getElem_cons h]
  simp [orL,h]
theorem cmpOr_any (A : Option Addr) (l : List Int) (c : Nat) (w : World) (hl : l.length ≤ 1000000) (hA : Ints w A l) :
    Calls Tryz.prog 91 #[.slice A l.length c] w fun e w' => e = .returned (.int .i64 (orL l)) ∧ w' = w := by
  have HA := Lib.hid hA
  clear hA
  go_enter Tryz.func91,Tryz.ntmps91
  go_wp2
  go_loop [5,8] (fun _ i => ∃ k : Nat,k ≤ l.length ∧ i = .int .i64 k ∧ orL (l.drop k) = orL l) (fun _ i => l.length - (intOf i).toNat)
  case atStart => exact ⟨0,by omega,rfl,by simp⟩
  case round =>
    obtain ⟨k,hk,rfl,hp⟩ := hrel
    have HP := Lib.hid hp
    clear hp
    by_cases hlt : k < l.length
    · obtain ⟨b,off,rfl,hbl,hc⟩ := HA.out (by omega)
      have h1 := hc k hlt
      have hd := Lib.hid (orL_drop l k hlt)
      clear hc
      generalize hx : l[k]?.getD 0 = x at h1
      have HX := Lib.hid hx
      clear hx
      by_cases hx0 : (x != 0) = true
      · go_wp2
        go_ret
        refine ⟨?_,rfl⟩
        rw [← HP.out,hd.out,HX.out,if_neg (by simpa using hx0)]; rfl
      · have hx1 : (x != 0) = false := by simpa using hx0
        clear hx0
        go_wp2
        go_round
        case rel => exact ⟨k + 1,by omega,by go_num,by rw [← HP.out,hd.out,HX.out,if_pos (by simpa using hx1)]⟩
        case measure => simp [intOf]; omega
    · go_wp2
      go_ret
      refine ⟨?_,rfl⟩
      rw [← HP.out,List.drop_eq_nil_of_le (by omega)]; rfl
theorem ints_new2 (w : World) (x y : Int) (t : TypeId) (B : Nat) (hB : B = w.heap.size) : Ints (w.alloc (.cells #[.int .i64 x,.int .i64 y] t)) (some ⟨B,0,none⟩) [x,y] := fun _ => by
  subst hB
  refine ⟨_,0,rfl,by simp,fun k hk => ?_⟩
  match k,hk with
  | 0,_ => simp
  | 1,_ => simp
def cmpV (n d m f : Int) : Int := orL [n / d - m / f,(n - n / d * d) * f - (m - m / f * f) * d]
theorem rem_bd (n d : Int) (hd : 1 ≤ d) : 0 ≤ n - n / d * d ∧ n - n / d * d < d := by
  have e2 := Int.mul_ediv_add_emod n d
  have e3 := Int.emod_nonneg n (show d ≠ 0 by omega)
  have e4 := Int.emod_lt_of_pos n (show 0 < d by omega)
  rw [Int.mul_comm] at e2
  omega
theorem compare_any (n d m f : Int) (w : World) (hd : 1 ≤ d) (hd' : d ≤ 100000000) (hf : 1 ≤ f) (hf' : f ≤ 100000000) (hn : -1000000000000000 ≤ n) (hn' : n ≤ 1000000000000000) (hm : -1000000000000000 ≤ m) (hm' : m ≤ 1000000000000000) :
    Calls Tryz.prog 64 #[.agg #[.int .i64 n,.int .i64 d],.agg #[.int .i64 m,.int .i64 f]] w fun e w' => e = .returned (.int .i64 (cmpV n d m f)) ∧ Below w.heap.size w w' := by
  have hq1 : ∀ W,Calls Tryz.prog 36 #[.int .i64 n,.int .i64 d] W fun e w' => e = .returned (.int .i64 (n / d)) ∧ w' = W := fun W => floor_any n d W hd (by omega) (by omega) (by omega)
  have hq2 : ∀ W,Calls Tryz.prog 36 #[.int .i64 m,.int .i64 f] W fun e w' => e = .returned (.int .i64 (m / f)) ∧ w' = W := fun W => floor_any m f W hf (by omega) (by omega) (by omega)
  have b1 := ediv_bd n d 1000000000000000 (by omega) hd hn hn'
  have b2 := ediv_bd m f 1000000000000000 (by omega) hf hm hm'
  have r1 := rem_bd n d hd
  have r2 := rem_bd m f hf
  have hC : cmpV n d m f = orL [n / d - m / f,(n - n / d * d) * f - (m - m / f * f) * d] := rfl
  generalize n / d = a at *
  generalize m / f = b at *
  have p1 := mul_bd (a := n - a * d) (b := f) (A := 100000000) (B := 100000000) (by omega) (by omega) (by omega) (by omega)
  have p2 := mul_bd (a := m - b * f) (b := d) (A := 100000000) (B := 100000000) (by omega) (by omega) (by omega) (by omega)
  have HQ1 := Lib.hid hq1
  have HQ2 := Lib.hid hq2
  have HC := Lib.hid hC
  clear hq1 hq2 hC
  go_enter Tryz.func64,Tryz.ntmps64
  go_wp2_with fail
  go_quiet ((go_at_call 36; first | (with_reducible exact Calls.quiet_of_same (HQ1.out _)) | (with_reducible exact Calls.quiet_of_same (HQ2.out _))))
  go_wp2_with fail
  refine (cmpOr_any _ [a - b,(n - a * d) * f - (m - b * f) * d] 2 _ (by simp) ?_).mono ?_
  · exact ints_new2 _ _ _ _ _ (by simp)
  · rintro e w' ⟨rfl,rfl⟩
    go_wp2_with fail
    go_ret
    refine ⟨by rw [HC.out]; rfl,?_⟩
    repeat (first | exact Below.refl _ _ | refine Below.alloc ?_ (by simp <;> omega) _ | refine Below.drewN' ?_ _)
end Go.Proofs.YtbncpngjclabhaaGreat
/- What a round of a range over a function keeps: every block of cells but some of the caller's own. -/
namespace Go.Proofs.YtbncpngjclabhaaGreat
open Go.RowKit Go.Shelf

structure KB (n1 n2 : Nat) (W W' : World) : Prop where
  os : W'.os = W.os
  tape : W'.tape = W.tape
  output : W'.output = W.output
  size : W.heap.size ≤ W'.heap.size
  same : ∀ (k : Nat) (cs : Array Value) (t : TypeId) (fz : Nat × Nat), ¬ (n1 ≤ k ∧ k < n2) → W.heap[k]? = some (.cells cs t fz) → W'.heap[k]? = some (.cells cs t fz)
theorem KB.refl (n1 n2 : Nat) (W : World) : KB n1 n2 W W := ⟨rfl,rfl,rfl,Nat.le_refl _,fun _ _ _ _ _ h => h⟩
theorem KB.trans {n1 n2 : Nat} {A B C : World} (h : KB n1 n2 A B) (k : KB n1 n2 B C) : KB n1 n2 A C :=
  ⟨k.os.trans h.os,k.tape.trans h.tape,k.output.trans h.output,Nat.le_trans h.size k.size,fun i cs t fz hi ho => k.same i cs t fz hi (h.same i cs t fz hi ho)⟩
theorem KB.putObj {n1 n2 : Nat} {W : World} {l : Nat} {o : Obj} (o' : Obj) (h : W.heap[l]? = some o) (hc : o.isCells = false) : KB n1 n2 W (W.putObj l o') :=
  ⟨rfl,rfl,rfl,by simp,fun k cs t fz _ hk => by
    rw [World.putObj_heap_other (fun e => ?_)]
    · exact hk
    · subst e; rw [hk] at h; cases h; simp [Obj.isCells] at hc⟩
theorem KB.of_below {n1 n2 : Nat} {W W' : World} (h : Below W.heap.size W W') : KB n1 n2 W W' :=
  ⟨h.os,h.tape,h.output,h.size,fun k _ _ _ _ hk => (h.block k (Array.getElem?_eq_some_iff.1 hk).1).trans hk⟩
theorem KB.setCell {n1 n2 : Nat} (W : World) (p : Addr) (u : Value) (hp : n1 ≤ p.block ∧ p.block < n2) : KB n1 n2 W (W.setCell p u) :=
  ⟨rfl,rfl,rfl,by simp [World.setCell],fun k _ _ _ hn hk => (Below.heap_setCell W p u k (fun e => hn (e ▸ hp))).trans hk⟩
theorem KB.block {n1 n2 : Nat} {W W' : World} (h : KB n1 n2 W W') {b o : Nat} {v : Value} (hb : ¬ (n1 ≤ b ∧ b < n2)) (hc : W.cell? ⟨b,o,none⟩ = some v) : W'.cell? ⟨b,o,none⟩ = some v ∧ W'.frozen? ⟨b,o,none⟩ = W.frozen? ⟨b,o,none⟩ := by
  have : ∃ cs t fz,W.heap[b]? = some (.cells cs t fz) := by
    unfold World.cell? at hc
    cases e : W.heap[b]? with
    | none => simp [e] at hc
    | some ob => cases ob <;> simp [e] at hc ⊢
  obtain ⟨cs,t,fz,hk⟩ := this
  have h2 := h.same b cs t fz hb hk
  have e : W'.heap[b]? = W.heap[b]? := h2.trans hk.symm
  exact ⟨(World.cell?_of_block (w := W) e).trans hc,World.frozen?_of_block (w := W) e⟩
theorem Ints.kb {n1 n2 : Nat} {w W : World} {A : Option Addr} {l : List Int} (h : Ints w A l) (hn : w.heap.size ≤ n1) (hk : KB n1 n2 w W) : Ints W A l := fun hl => by
  obtain ⟨b,off,e,hlt,hc⟩ := h hl
  exact ⟨b,off,e,Nat.lt_of_lt_of_le hlt hk.size,fun k hk' => (hk.block (by omega) (hc k hk')).1⟩
theorem Mat.kb {n1 n2 : Nat} {w W : World} {A : Option Addr} {l : List (List Int)} (h : Mat w A l) (hn : w.heap.size ≤ n1) (hk : KB n1 n2 w W) : Mat W A l := fun hl => by
  obtain ⟨b,off,e,hlt,hc⟩ := h hl
  refine ⟨b,off,e,Nat.lt_of_lt_of_le hlt hk.size,fun k hk' => ?_⟩
  obtain ⟨B,c,h1,h2⟩ := hc k hk'
  exact ⟨B,c,(hk.block (by omega) h1).1,h2.kb hn hk⟩
theorem TabR.kb {n1 n2 : Nat} {w w' : World} {X Y V : Option Addr} {cx cy cv : Nat} {xs ys : List Int} {vs : List (List Int)} (h : TabR w X Y V cx cy cv xs ys vs) (hn : w.heap.size ≤ n1) (hk : KB n1 n2 w w') : TabR w' X Y V cx cy cv xs ys vs :=
  ⟨h.hX.kb hn hk,h.hY.kb hn hk,h.hV.kb hn hk,h.lx,h.ly⟩
def IntsAt (w : World) (b off : Nat) (l : List Int) : Prop := ∀ k,k < l.length → w.cell? ⟨b,off + k,none⟩ = some (.int .i64 (l[k]?.getD 0))
theorem IntsAt.kb {n1 n2 : Nat} {w W : World} {b off : Nat} {l : List Int} (h : IntsAt w b off l) (hn : n2 ≤ b) (hk : KB n1 n2 w W) : IntsAt W b off l := fun k hk' => (hk.block (by omega) (h k hk')).1

structure Pt where
  x : Int
  y : Int
  n : Int
  d : Int
  ok : 1 ≤ d ∧ d ≤ 100000000 ∧ -1000000000000000 ≤ n ∧ n ≤ 1000000000000000
def mkPt (x y n d : Int) : Pt := if h : 1 ≤ d ∧ d ≤ 100000000 ∧ -1000000000000000 ≤ n ∧ n ≤ 1000000000000000 then ⟨x,y,n,d,h⟩ else ⟨x,y,0,1,by decide⟩
theorem at_bd {xs ys : List Int} {vs : List (List Int)} {x y : Int} (hT : Tbl xs ys vs) (hx : OnAx xs x) (hy : OnAx ys y) :
    1 ≤ atD xs ys x y ∧ atD xs ys x y ≤ 100000000 ∧ -1000000000000000 ≤ atN xs ys vs x y ∧ atN xs ys vs x y ≤ 1000000000000000 := by
  have q1 := hT.ax.cell_on hx
  have q2 := hT.ay.cell_on hy
  unfold atD atN
  generalize cellI xs x = i at *
  generalize cellI ys y = k at *
  have lenv := hT.len
  have b00 := hT.val i k (by omega) (by omega)
  have b01 := hT.val i (k+1) (by omega) (by omega)
  have b10 := hT.val (i+1) k (by omega) (by omega)
  have b11 := hT.val (i+1) (k+1) (by omega) (by omega)
  simp only
  generalize xs[i]?.getD 0 = x0 at *
  generalize xs[i+1]?.getD 0 = x1 at *
  generalize ys[k]?.getD 0 = y0 at *
  generalize ys[k+1]?.getD 0 = y1 at *
  generalize (vs[i]?.getD [])[k]?.getD 0 = z00 at *
  generalize (vs[i]?.getD [])[k+1]?.getD 0 = z01 at *
  generalize (vs[i+1]?.getD [])[k]?.getD 0 = z10 at *
  generalize (vs[i+1]?.getD [])[k+1]?.getD 0 = z11 at *
  obtain ⟨hi,hx0,hx1,hgx,hgx'⟩ := q1
  obtain ⟨hk,hy0,hy1,hgy,hgy'⟩ := q2
  have p1 := mul_bd (a := x1 - x) (b := y1 - y) (A := 10000) (B := 10000) (by omega) (by omega) (by omega) (by omega)
  have p2 := mul_bd (a := x - x0) (b := y1 - y) (A := 10000) (B := 10000) (by omega) (by omega) (by omega) (by omega)
  have p3 := mul_bd (a := x1 - x) (b := y - y0) (A := 10000) (B := 10000) (by omega) (by omega) (by omega) (by omega)
  have p4 := mul_bd (a := x - x0) (b := y - y0) (A := 10000) (B := 10000) (by omega) (by omega) (by omega) (by omega)
  have p5 := mul_bd (a := x1 - x + (x - x0)) (b := y1 - y + (y - y0)) (A := 10000) (B := 10000) (by omega) (by omega) (by omega) (by omega)
  have p6 : 0 < (x1 - x + (x - x0)) * (y1 - y + (y - y0)) := Int.mul_pos (by omega) (by omega)
  have s1 := mul_bd2 (A := 100000000) (B := 1000000) p1.1 (by omega) b00.1 b00.2 (by omega)
  have s2 := mul_bd2 (A := 100000000) (B := 1000000) p2.1 (by omega) b10.1 b10.2 (by omega)
  have s3 := mul_bd2 (A := 100000000) (B := 1000000) p3.1 (by omega) b01.1 b01.2 (by omega)
  have s4 := mul_bd2 (A := 100000000) (B := 1000000) p4.1 (by omega) b11.1 b11.2 (by omega)
  unfold numF denF
  omega
theorem mkPt_at {xs ys : List Int} {vs : List (List Int)} {x y : Int} (hT : Tbl xs ys vs) (hx : OnAx xs x) (hy : OnAx ys y) :
    (mkPt x y (atN xs ys vs x y) (atD xs ys x y)).x = x ∧ (mkPt x y (atN xs ys vs x y) (atD xs ys x y)).y = y ∧ (mkPt x y (atN xs ys vs x y) (atD xs ys x y)).n = atN xs ys vs x y ∧ (mkPt x y (atN xs ys vs x y) (atD xs ys x y)).d = atD xs ys x y := by
  unfold mkPt
  rw [dif_pos (at_bd hT hx hy)]
  exact ⟨rfl,rfl,rfl,rfl⟩
end Go.Proofs.YtbncpngjclabhaaGreat
/- The iterator spans.corners and what it hands to a loop: all corners of a box on a table, in order. -/
namespace Go.Proofs.YtbncpngjclabhaaGreat
open Go.RowKit Go.Shelf
attribute [local go_sem] Oper.semAt_some

def encP (p : Pt) : Array Value := #[.agg #[.int .i64 p.x,.int .i64 p.y,.int .i64 p.n,.int .i64 p.d]]
def ptAt (xs ys : List Int) (vs : List (List Int)) (x y : Int) : Pt := mkPt x y (atN xs ys vs x y) (atD xs ys x y)
def rowPts (xs ys : List Int) (vs : List (List Int)) (sy : List Int) (x : Int) : List Pt := sy.map (ptAt xs ys vs x)
def allPts (xs ys : List Int) (vs : List (List Int)) (sx sy : List Int) : List Pt := sx.flatMap (rowPts xs ys vs sy)
def donePts (xs ys : List Int) (vs : List (List Int)) (sx sy : List Int) (i k : Nat) : List Pt := allPts xs ys vs (sx.take i) sy ++ (rowPts xs ys vs sy (sx[i]?.getD 0)).take k
theorem done_zero (xs ys : List Int) (vs : List (List Int)) (sx sy : List Int) : donePts xs ys vs sx sy 0 0 = [] := by simp [donePts,allPts]
theorem done_succ (xs ys : List Int) (vs : List (List Int)) (sx sy : List Int) (i k : Nat) (hk : k < sy.length) :
    donePts xs ys vs sx sy i (k + 1) = donePts xs ys vs sx sy i k ++ [ptAt xs ys vs (sx[i]?.getD 0) (sy[k]?.getD 0)] := by
  unfold donePts
  rw [List.take_succ_eq_append_getElem (by simpa [rowPts] using hk),← List.append_assoc]
  simp [rowPts,hk]
theorem done_row (xs ys : List Int) (vs : List (List Int)) (sx sy : List Int) (i : Nat) (hi : i < sx.length) :
    donePts xs ys vs sx sy i sy.length = donePts xs ys vs sx sy (i + 1) 0 := by
  unfold donePts allPts
  have e : (rowPts xs ys vs sy (sx[i]?.getD 0)).take sy.length = rowPts xs ys vs sy (sx[i]?.getD 0) := List.take_of_length_le (by simp [rowPts])
  rw [e,List.take_succ_eq_append_getElem hi,List.flatMap_append]
  simp [hi]
theorem done_all (xs ys : List Int) (vs : List (List Int)) (sx sy : List Int) : donePts xs ys vs sx sy sx.length 0 = allPts xs ys vs sx sy := by simp [donePts]
theorem done_len (xs ys : List Int) (vs : List (List Int)) (sx sy : List Int) (i k : Nat) (hi : i < sx.length) (hk : k < sy.length) : (donePts xs ys vs sx sy i k).length < (allPts xs ys vs sx sy).length := by
  have h1 : donePts xs ys vs sx sy i k <+: allPts xs ys vs sx sy := by
    unfold donePts allPts
    conv => rhs; rw [← List.take_append_drop i sx,List.flatMap_append,List.drop_eq_getElem_cons hi,List.flatMap_cons]
    simp only [hi,List.getElem?_eq_getElem,Option.getD_some]
    exact (List.prefix_append_right_inj _).2 ((List.take_prefix _ _).trans (List.prefix_append _ _))
  have h2 := done_succ xs ys vs sx sy i k hk
  have h3 : donePts xs ys vs sx sy i (k + 1) <+: allPts xs ys vs sx sy := by
    unfold donePts allPts
    conv => rhs; rw [← List.take_append_drop i sx,List.flatMap_append,List.drop_eq_getElem_cons hi,List.flatMap_cons]
    simp only [hi,List.getElem?_eq_getElem,Option.getD_some]
    exact (List.prefix_append_right_inj _).2 ((List.take_prefix _ _).trans (List.prefix_append _ _))
  have := h3.length_le
  rw [h2] at this
  simp at this
  omega
theorem done_pre (xs ys : List Int) (vs : List (List Int)) (sx sy : List Int) (i k : Nat) (hi : i < sx.length) : donePts xs ys vs sx sy i k <+: allPts xs ys vs sx sy := by
  unfold donePts allPts
  conv => rhs; rw [← List.take_append_drop i sx,List.flatMap_append,List.drop_eq_getElem_cons hi,List.flatMap_cons]
  simp only [hi,List.getElem?_eq_getElem,Option.getD_some]
  exact (List.prefix_append_right_inj _).2 ((List.take_prefix _ _).trans (List.prefix_append _ _))
end Go.Proofs.YtbncpngjclabhaaGreat
/- The walk of the iterator spans.corners$1. -/
namespace Go.Proofs.YtbncpngjclabhaaGreat
open Go.RowKit Go.Shelf
attribute [local go_sem] Oper.semAt_some

theorem OnAx_stops {l : List Int} {lo hi x : Int} (h1 : l[0]?.getD 0 ≤ lo) (h2 : hi ≤ l[l.length-1]?.getD 0) (h : lo ≤ hi) (hx : x ∈ stopsL l lo hi) : OnAx l x := by
  unfold stopsL midL at hx
  simp only [List.cons_append,List.mem_cons,List.mem_append,List.mem_filter,Bool.and_eq_true,decide_eq_true_eq] at hx
  rcases hx with rfl | ⟨_,h3,h4⟩ | h5
  · exact ⟨h1,by omega⟩
  · exact ⟨by omega,by omega⟩
  · split at h5
    · simp at h5; subst h5; exact ⟨by omega,h2⟩
    · simp at h5
theorem stopsL_len (l : List Int) (lo hi : Int) : (stopsL l lo hi).length ≤ l.length + 2 := by
  have h1 := midL_len l lo hi
  unfold stopsL
  split <;> simp <;> omega
theorem enc_at {xs ys : List Int} {vs : List (List Int)} {x y : Int} (hT : Tbl xs ys vs) (hx : OnAx xs x) (hy : OnAx ys y) :
    encP (ptAt xs ys vs x y) = #[.agg #[.int .i64 x,.int .i64 y,.int .i64 (atN xs ys vs x y),.int .i64 (atD xs ys x y)]] := by
  obtain ⟨h1,h2,h3,h4⟩ := mkPt_at hT hx hy
  unfold encP ptAt
  rw [h1,h2,h3,h4]
theorem corners1_in (n : Nat) (hn : 3 ≤ n) (l bt bx bY n1 n2 : Nat) (xs ys : List Int) (vs : List (List Int)) (X Y V : Option Addr) (cx cy cv : Nat) (xl xh yl yh : Int)
    (hT : Tbl xs ys vs) (hx1 : xs[0]?.getD 0 ≤ xl) (hx2 : xh ≤ xs[xs.length-1]?.getD 0) (hx : xl ≤ xh) (hy1 : ys[0]?.getD 0 ≤ yl) (hy2 : yh ≤ ys[ys.length-1]?.getD 0) (hy : yl ≤ yh)
    (w0 W : World) (hR : TabR w0 X Y V cx cy cv xs ys vs) (hw0 : w0.heap.size ≤ n1) (hn2 : n2 ≤ bt) (_hbx : n2 ≤ bx) (hbY : n2 ≤ bY) (hKW : KB n1 n2 w0 W) (hn2W : n2 ≤ W.heap.size)
    (ht0 : W.cell? ⟨bt,0,none⟩ = some (.slice X xs.length cx)) (ht1 : W.cell? ⟨bt,1,none⟩ = some (.slice Y ys.length cy)) (ht2 : W.cell? ⟨bt,2,none⟩ = some (.slice V vs.length cv))
    (hbx0 : W.cell? ⟨bx,0,none⟩ = some (.int .i64 xl)) (hbx1 : W.cell? ⟨bx,1,none⟩ = some (.int .i64 xh)) (hby0 : W.cell? ⟨bY,0,none⟩ = some (.int .i64 yl)) (hby1 : W.cell? ⟨bY,1,none⟩ = some (.int .i64 yh))
    (J Jx : List Pt → World → Prop) (hJ : AbidesFrom W.heap.size J) (_hJx : AbidesFrom W.heap.size Jx)
    (hYd : ∀ pre x W1,J pre W1 → pre.length < (allPts xs ys vs (stopsL xs xl xh) (stopsL ys yl yh)).length → YieldAt Fence.wide (n - 1) Tryz.prog l (encP x) W1 fun e W' =>
      (e = .returned (.bool true) ∧ J (pre ++ [x]) W' ∧ KB n1 n2 W1 W') ∨ (e = .returned (.bool false) ∧ Jx (pre ++ [x]) W')) (h0 : J [] W) :
    CallsIn Fence.wide n Tryz.prog 88 #[.func (.yield l) #[] #[],.pointer (some ⟨bt,0,none⟩),.pointer (some ⟨bx,0,none⟩),.pointer (some ⟨bY,0,none⟩)] W fun e W' => (∃ v,e = .returned v) ∧
      ((∃ ps,ps = allPts xs ys vs (stopsL xs xl xh) (stopsL ys yl yh) ∧ J ps W') ∨ (∃ pre,pre <+: allPts xs ys vs (stopsL xs xl xh) (stopsL ys yl yh) ∧ Jx pre W')) := by
  have HYD := Lib.hid hYd
  have HJ := Lib.hid hJ
  have H0 := Lib.hid h0
  have HT := Lib.hid hT
  have HRR := Lib.hid hR
  have HKW := Lib.hid hKW
  have t12x := hT.ax.twelve
  have t12y := hT.ay.twelve
  have HT0 := Lib.hid ht0
  have HT1 := Lib.hid ht1
  have HT2 := Lib.hid ht2
  clear hYd hJ h0 hT hR hKW
  refine callsIn_of_wp Tryz.func88 rfl trivial ?_ rfl
  simp only [Tryz.ntmps88,List.size_toArray,List.length_cons,List.length_nil,Nat.reduceAdd,Nat.reduceSub,Array.replicate_succ,Array.replicate_zero,List.push_toArray,List.append_toArray,List.nil_append,List.cons_append]
  gi_wp2_with fail
  refine ⟨trivial,fun _ => by omega,(callsIn_wide.2 (stops_any X xs cx xl xh W (by omega) (HRR.out.hX.kb hw0 HKW.out))).mono ?_⟩
  rintro e W1 ⟨SX,cs,rfl,hSX,hlc,hfr,hbW⟩
  have HSX := Lib.hid hSX
  have HFR := Lib.hid hfr
  have hJ1 := HJ.out _ _ _ none H0.out ⟨hbW.os,hbW.tape,hbW.output,hbW.size,fun k hk _ => hbW.block k hk⟩ (fun r e => by cases e)
  have HJ1 := Lib.hid hJ1
  have HBW := Lib.hid hbW
  generalize hsx : stopsL xs xl xh = sx at *
  have hsl : sx.length ≤ 14 := by have := stopsL_len xs xl xh; rw [hsx] at this; omega
  have HSXE := Lib.hid hsx
  clear hSX hlc hfr hbW hJ1 hsx
  gi_wp2_with fail
  gi_loopw [14] (fun i wr => ∃ a : Nat,a ≤ sx.length ∧ i = .int .i64 a ∧ J (donePts xs ys vs sx (stopsL ys yl yh) a 0) wr ∧ KB n1 n2 W1 wr) (fun i _ => sx.length - (intOf i).toNat)
  case atStart =>
    exact ⟨0,by omega,rfl,by rw [done_zero]; exact HJ1.out,KB.refl _ _ _⟩
  case round =>
    obtain ⟨a,ha,rfl,hJa,hKa⟩ := hrel
    obtain ⟨wo,rfl⟩ : ∃ wo : World,wo = wr := ⟨_,rfl⟩
    have hK0 : KB n1 n2 W wo := (KB.of_below HBW.out).trans hKa
    have c0 := (hK0.block (by omega) ht0).1
    have c1 := (hK0.block (by omega) ht1).1
    have c2 := (hK0.block (by omega) ht2).1
    have c3 := (hK0.block (by omega) hby0).1
    have c4 := (hK0.block (by omega) hby1).1
    have HJA := Lib.hid hJa
    have HKA := Lib.hid hKa
    have HK0 := Lib.hid hK0
    clear hJa hKa hK0 ht0 ht1 ht2 hby0 hby1 hbx0 hbx1
    by_cases hlt : a < sx.length
    · obtain ⟨g,off,rfl,hg,hc⟩ := HSX.out (by omega)
      have hg2 : W.heap.size ≤ g := HFR.out _ rfl
      have c5 := (HKA.out.block (by omega) (hc a hlt)).1
      have hox : OnAx xs (sx[a]?.getD 0) := OnAx_stops hx1 hx2 hx (by rw [HSXE.out]; simp [hlt])
      have HOX := Lib.hid hox
      clear hc hox
      generalize hxa : sx[a]?.getD 0 = xa at c5 HOX
      have HXA := Lib.hid hxa
      clear hxa
      gi_wp2_with fail
      refine ⟨trivial,fun _ => by omega,(callsIn_wide.2 (stops_any Y ys cy yl yh wo (by omega) (HRR.out.hY.kb hw0 (HKW.out.trans HK0.out)))).mono ?_⟩
      rintro e W2 ⟨SY,cs2,rfl,hSY,hlc,hfr2,hbW2⟩
      have HSY := Lib.hid hSY
      have HFR2 := Lib.hid hfr2
      have HJ2 := Lib.hid (HJ.out _ _ _ none HJA.out ⟨hbW2.os,hbW2.tape,hbW2.output,hbW2.size,fun k hk _ => hbW2.block k hk⟩ (fun r e => by cases e))
      have HK2 : Hid (KB n1 n2 W W2) := HK0.out.trans (KB.of_below hbW2)
      have HKA2 : Hid (KB n1 n2 W1 W2) := HKA.out.trans (KB.of_below hbW2)
      have hsz2 : W.heap.size ≤ wo.heap.size := HK0.out.size
      have d0 := (HK2.out.block (b := bt) (by omega) HT0.out).1
      generalize hsy : stopsL ys yl yh = sy at *
      have hsl2 : sy.length ≤ 14 := by have := stopsL_len ys yl yh; rw [hsy] at this; omega
      have HSYE := Lib.hid hsy
      clear hSY hlc hfr2 hbW2 hsy c0 c1 c2 c3 c4 d0
      gi_wp2_with fail
      gi_loopw [23] (fun i wq => ∃ b : Nat,b ≤ sy.length ∧ i = .int .i64 b ∧ J (donePts xs ys vs sx sy a b) wq ∧ KB n1 n2 W2 wq) (fun i _ => sy.length - (intOf i).toNat)
      case atStart => exact ⟨0,by omega,rfl,HJ2.out,KB.refl _ _ _⟩
      case round =>
        obtain ⟨b,hb,rfl,hJb,hKb⟩ := hrel
        have hKq : KB n1 n2 W wr := HK2.out.trans hKb
        have c0 := (hKq.block (by omega) HT0.out).1
        have c1 := (hKq.block (by omega) HT1.out).1
        have c2 := (hKq.block (by omega) HT2.out).1
        have HJB := Lib.hid hJb
        have HKQ := Lib.hid hKq
        have HKB := Lib.hid hKb
        clear hJb hKb hKq
        by_cases hlt2 : b < sy.length
        · obtain ⟨g2,off2,rfl,hg2',hc2⟩ := HSY.out (by omega)
          have hgg : wo.heap.size ≤ g2 := HFR2.out _ rfl
          have c6 := (HKB.out.block (by omega) (hc2 b hlt2)).1
          have hoy : OnAx ys (sy[b]?.getD 0) := OnAx_stops hy1 hy2 hy (by rw [HSYE.out]; simp [hlt2])
          have HOY := Lib.hid hoy
          clear hc2 hoy
          generalize hyb : sy[b]?.getD 0 = yb at c6 HOY
          have HYB := Lib.hid hyb
          clear hyb
          gi_wp2_with fail
          refine ⟨trivial,fun _ => by omega,(callsIn_wide.2 (at_any xs ys vs X Y V cx cy cv xa yb wr HT.out (HRR.out.kb hw0 (HKW.out.trans HKQ.out)) HOX.out HOY.out)).mono ?_⟩
          rintro e W3 ⟨rfl,hbW3⟩
          have hJ3 := HJ.out _ _ _ none HJB.out ⟨hbW3.os,hbW3.tape,hbW3.output,hbW3.size,fun k hk _ => hbW3.block k hk⟩ (fun r e => by cases e)
          have HKB3 : Hid (KB n1 n2 W2 W3) := HKB.out.trans (KB.of_below hbW3)
          have hlen := done_len xs ys vs sx sy a b hlt hlt2
          obtain ⟨fn,tmps,assign,body,hy',hR⟩ := HYD.out _ (ptAt xs ys vs xa yb) W3 hJ3 hlen
          rw [enc_at HT.out HOX.out HOY.out] at hy'
          have HDS := Lib.hid (done_succ xs ys vs sx sy a b hlt2)
          rw [HXA.out,HYB.out] at HDS
          generalize donePts xs ys vs sx sy a b = pre at *
          generalize ptAt xs ys vs xa yb = pt at *
          generalize atN xs ys vs xa yb = an at *
          generalize atD xs ys xa yb = ad at *
          have HR := Lib.hid hR
          clear hJ3 hlen hbW3 hR
          gi_wp2_with fail
          refine ⟨fun _ => by omega,HR.out.mono ?_⟩
          rintro e W4 (⟨rfl,hJ4,hk4⟩ | ⟨rfl,hJx4⟩)
          · have HJ4 := Lib.hid hJ4
            have HK4 := Lib.hid (HKB3.out.trans hk4)
            clear hJ4 hk4
            gi_wp2_with fail
            go_roundw
            case rel => exact ⟨b + 1,by omega,by go_num,by rw [HDS.out]; exact HJ4.out,HK4.out⟩
            case measure => simp [intOf]; omega
          · have HP := Lib.hid (done_pre xs ys vs sx sy a (b + 1) hlt)
            rw [HDS.out] at HP
            have HX4 := Lib.hid hJx4
            clear hJx4
            gi_wp2_with fail
            refine bodyPost_ret (results_none rfl _ _ _) rfl ?_
            exact ⟨⟨_,rfl⟩,.inr ⟨_,by rw [HSXE.out,HSYE.out]; exact HP.out,HX4.out⟩⟩
        · obtain rfl : b = sy.length := by omega
          have HDR := Lib.hid (done_row xs ys vs sx sy a hlt)
          gi_wp2_with fail
          go_roundw
          case rel => exact ⟨a + 1,by omega,by go_num,by rw [HSYE.out,← HDR.out]; exact HJB.out,HKA2.out.trans HKB.out⟩
          case measure => simp [intOf]; omega
    · obtain rfl : a = sx.length := by omega
      gi_wp2_with fail
      go_end0
      exact ⟨⟨_,rfl⟩,.inl ⟨_,rfl,by rw [← done_all,HSXE.out]; exact HJA.out⟩⟩
end Go.Proofs.YtbncpngjclabhaaGreat
