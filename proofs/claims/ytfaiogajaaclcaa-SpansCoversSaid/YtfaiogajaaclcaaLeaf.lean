/- The contracts of the small functions of package spans (floor, within, valid, spanned, Check ..): what each returns; old memory stays. -/
import Derived.Test.YtfaiogajaaclcaaRows
import Derived.Test.YtfaiogajaaclcaaMem
namespace Go.Proofs.Ytfaiogajaaclcaa
open Go.RowKit

def wB (a b c : Int) : Bool := decide (b ≤ a) && decide (a ≤ c)
theorem within_any (a b c : Int) (w : World) :
    Calls Try.prog 71 #[.int .i64 a, .int .i64 b, .int .i64 c] w fun e w' => e = .returned (.bool (wB a b c)) ∧ w' = w := by
  by_cases h1 : b ≤ a <;> by_cases h2 : a ≤ c
  all_goals
    go_enter Try.func71, Try.ntmps71
    go_wp2
    go_ret
    simp [wB, h1, h2]
def vB (x : Int × Int) : Bool := wB x.1 (-1000000) x.2 && decide (x.2 ≤ 1000000)
set_option maxHeartbeats 400000 in
theorem valid_any (x : Int × Int) (w : World) :
    Calls Try.prog 104 #[.agg #[.int .i64 x.1, .int .i64 x.2]] w fun e w' => e = .returned (.bool (vB x)) ∧ Below w.heap.size w w' := by
  obtain ⟨lo, hi⟩ := x
  show Calls Try.prog 104 #[.agg #[.int .i64 lo, .int .i64 hi]] w _
  have key : ∀ b : Bool, wB lo (-1000000) hi = b → Calls Try.prog 104 #[.agg #[.int .i64 lo, .int .i64 hi]] w fun e w' => e = .returned (.bool (b && decide (hi ≤ 1000000))) ∧ Below w.heap.size w w' := by
    intro b hb
    have H := Lib.hid hb
    clear hb
    cases b
    all_goals
      go_enter Try.func104, Try.ntmps104
      go_wp2_with (go_at_call 71; refine (within_any _ _ _ _).mono ?_; rintro e w' ⟨rfl, rfl⟩; rw [H.out])
      go_ret
      exact ⟨by simp, (Below.refl _ _).alloc (Nat.le_refl _) _⟩
  exact key _ rfl
set_option maxHeartbeats 400000 in
theorem spanned1_any (x : Int × Int) (w : World) :
    Calls Try.prog 103 #[.agg #[.int .i64 x.1, .int .i64 x.2]] w fun e w' => e = .returned (.bool (!vB x)) ∧ Below w.heap.size w w' := by
  obtain ⟨lo, hi⟩ := x
  show Calls Try.prog 103 #[.agg #[.int .i64 lo, .int .i64 hi]] w _
  go_enter Try.func103, Try.ntmps103
  go_wp2_with (go_at_call 104; refine (valid_any (_, _) _).mono ?_; rintro e w' ⟨rfl, hb⟩)
  go_ret
  exact ⟨rfl, ((Below.refl _ _).alloc (Nat.le_refl _) _).trans (hb.mono (by simp))⟩

def Enters (P : Program) (g : Nat) : Prop := ∀ (args : Array Value) (w : World), (callFunc g args).run P w = .ok (.enter g args) w
/-- the first index at which p holds, from k on -/
def idxP {α : Type} (p : α → Bool) : List α → Nat → Int
  | [], _ => -1
  | x :: xs, k => if p x then (k : Int) else idxP p xs (k + 1)
theorem idxP_ge {α : Type} (p : α → Bool) (l : List α) (k : Nat) : decide (0 ≤ idxP p l k) = l.any p := by
  induction l generalizing k with
  | nil => simp [idxP]
  | cons x xs ih => unfold idxP; by_cases h : p x = true <;> simp [h, ih]
theorem idxP_drop {α : Type} (p : α → Bool) (l : List α) (d : α) (k : Nat) (h : k < l.length) : idxP p (l.drop k) k = if p (l[k]?.getD d) then (k : Int) else idxP p (l.drop (k + 1)) (k + 1) := by
  rw [List.drop_eq_getElem_cons h]
  simp [idxP, h]
set_option maxHeartbeats 400000 in
theorem indexFuncSpan (g : Nat) (p : Int × Int → Bool) (A : Option Addr) (l : List (Int × Int)) (c : Nat) (w : World) (hl : l.length ≤ 4611686018427387904) (hA : Sps w A l) (he : Enters Try.prog g)
   (hg : ∀ (x : Int × Int) (w' : World), Calls Try.prog g #[.agg #[.int .i64 x.1, .int .i64 x.2]] w' fun e w'' => e = .returned (.bool (p x)) ∧ Below w'.heap.size w' w'') :
   Calls Try.prog 114 #[.slice A l.length c, .func (.func g) #[] #[]] w fun e w' => e = .returned (.int .i64 (idxP p l 0)) ∧ Below w.heap.size w w' := by
  have HG := Lib.hid hg
  have HA := Lib.hid hA
  clear hg hA
  unfold Enters at he
  go_enter Try.func114, Try.ntmps114
  go_wp2
  go_loopw [5, 8] (fun _ i wr => ∃ k : Nat, k ≤ l.length ∧ i = .int .i64 k ∧ idxP p (l.drop k) k = idxP p l 0 ∧ Below w.heap.size w wr) (fun _ i _ => l.length - (intOf i).toNat)
  case atStart => exact ⟨0, by omega, rfl, by simp, Below.refl _ _⟩
  case round =>
    obtain ⟨k, hk, rfl, hp, hb⟩ := hrel
    have HP := Lib.hid hp
    clear hp
    by_cases hlt : k < l.length
    · obtain ⟨b, off, rfl, hbl, hc⟩ := HA.out (by omega)
      have h1 := (hb.cell (p := ⟨b, off + k * 2, none⟩) hbl).trans (hc k hlt).1
      have h2 := (hb.cell (p := ⟨b, off + k * 2 + 1, none⟩) hbl).trans (hc k hlt).2
      have hd := Lib.hid (idxP_drop p l (0, 0) k hlt)
      clear hc
      generalize hx : l[k]?.getD (0, 0) = x at h1 h2
      have HX := Lib.hid hx
      clear hx
      go_wp2_with fail
      refine (HG.out x _).mono ?_
      rintro e w1 ⟨rfl, hb1⟩
      have hb2 := hb.trans (hb1.mono hb.size)
      clear hb1
      by_cases hpx : p x = true
      · rw [hpx]
        go_wp2
        go_ret
        refine ⟨?_, hb2⟩
        rw [← HP.out, hd.out, HX.out, if_pos hpx]; rfl
      · have hpx' : p x = false := by simpa using hpx
        rw [hpx']
        go_wp2
        go_roundw
        case rel => exact ⟨k + 1, by omega, by go_num, by rw [← HP.out, hd.out, HX.out, if_neg hpx], hb2⟩
        case measure => simp [intOf]; omega
    · go_wp2
      go_ret
      refine ⟨?_, hb⟩
      rw [← HP.out, List.drop_eq_nil_of_le (by omega)]; rfl
set_option maxHeartbeats 400000 in
theorem containsFuncSpan (g : Nat) (p : Int × Int → Bool) (A : Option Addr) (l : List (Int × Int)) (c : Nat) (w : World) (hl : l.length ≤ 4611686018427387904) (hA : Sps w A l) (he : Enters Try.prog g)
   (hg : ∀ (x : Int × Int) (w' : World), Calls Try.prog g #[.agg #[.int .i64 x.1, .int .i64 x.2]] w' fun e w'' => e = .returned (.bool (p x)) ∧ Below w'.heap.size w' w'') :
   Calls Try.prog 102 #[.slice A l.length c, .func (.func g) #[] #[]] w fun e w' => e = .returned (.bool (l.any p)) ∧ Below w.heap.size w w' := by
  have H := Lib.hid (indexFuncSpan g p A l c w hl hA he hg)
  clear hg hA he
  go_enter Try.func102, Try.ntmps102
  go_wp2_with fail
  refine H.out.mono ?_
  rintro e w1 ⟨rfl, hb1⟩
  go_wp2
  go_ret
  exact ⟨by rw [← idxP_ge p l 0]; rfl, hb1⟩

theorem enters_spanned1 : Enters Try.prog 103 := fun _ _ => by kernel_rfl
def spErr (l : List (Int × Int)) : Int := if l.any (fun x => !vB x) then 10 else 0
set_option maxHeartbeats 400000 in
theorem spanned_any (A : Option Addr) (l : List (Int × Int)) (c : Nat) (w : World) (hl : l.length ≤ 4611686018427387904) (hA : Sps w A l) :
   Calls Try.prog 72 #[.slice A l.length c] w fun e w' => e = .returned (.int .i64 (spErr l)) ∧ Below w.heap.size w w' := by
  have H := Lib.hid (containsFuncSpan 103 (fun x => !vB x) A l c w hl hA enters_spanned1 (fun x w' => spanned1_any x w'))
  clear hA
  by_cases h : l.any (fun x => !vB x) = true
  · have E := Lib.hid h
    have R : Hid (spErr l = 10) := by unfold Hid spErr; rw [if_pos h]
    clear h
    go_enter Try.func72, Try.ntmps72
    go_wp2_with fail
    refine H.out.mono ?_
    rintro e w1 ⟨rfl, hb1⟩
    rw [E.out]
    go_wp2
    go_ret
    exact ⟨by rw [R.out]; rfl, hb1⟩
  · have R : Hid (spErr l = 0) := by unfold Hid spErr; rw [if_neg h]
    have h' : l.any (fun x => !vB x) = false := by simpa using h
    have E := Lib.hid h'
    clear h h'
    go_enter Try.func72, Try.ntmps72
    go_wp2_with fail
    refine H.out.mono ?_
    rintro e w1 ⟨rfl, hb1⟩
    rw [E.out]
    go_wp2
    go_ret
    exact ⟨by rw [R.out]; rfl, hb1⟩
def boxErr (l : List (Int × Int)) : Int := if wB l.length 1 3 then spErr l else 10
set_option maxHeartbeats 400000 in
theorem check_any (A : Option Addr) (l : List (Int × Int)) (c : Nat) (w : World) (hl : l.length ≤ 4611686018427387904) (hA : Sps w A l) :
   Calls Try.prog 23 #[.slice A l.length c] w fun e w' => e = .returned (.int .i64 (boxErr l)) ∧ Below w.heap.size w w' := by
  have H := Lib.hid (spanned_any A l c w hl hA)
  clear hA
  by_cases h : wB l.length 1 3 = true
  · have E := Lib.hid h
    have R : Hid (boxErr l = spErr l) := by unfold Hid boxErr; rw [if_pos h]
    clear h
    go_enter Try.func23, Try.ntmps23
    go_wp2_with (go_at_call 71; refine (within_any _ _ _ _).mono ?_; rintro e w' ⟨rfl, rfl⟩; rw [E.out])
    refine H.out.mono ?_
    rintro e w1 ⟨rfl, hb1⟩
    go_wp2
    go_ret
    exact ⟨by rw [R.out]; rfl, hb1⟩
  · have R : Hid (boxErr l = 10) := by unfold Hid boxErr; rw [if_neg h]
    have h' : wB l.length 1 3 = false := by simpa using h
    have E := Lib.hid h'
    clear h h'
    go_enter Try.func23, Try.ntmps23
    go_wp2_with (go_at_call 71; refine (within_any _ _ _ _).mono ?_; rintro e w' ⟨rfl, rfl⟩; rw [E.out])
    go_ret
    exact ⟨by rw [R.out]; rfl, Below.refl _ _⟩
end Go.Proofs.Ytfaiogajaaclcaa
