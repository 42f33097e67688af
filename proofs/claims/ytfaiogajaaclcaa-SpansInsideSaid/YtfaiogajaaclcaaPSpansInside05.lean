/- Texts of the law SpansInside, part 5. No conditions. -/
import Derived.Test.YtfaiogajaaclcaaPSpansInside04
import Derived.Deep.RegionWith
import Derived.Deep.RegionLawGrows
import Derived.Deep.RegionHeld3
import Derived.Deep.DeepCutAuto
/- The contracts of Meet and Hull, and of what the reference has for them. -/
namespace Go.Proofs.Ytfaiogajaaclcaa
open Go.RowKit

theorem from_any (a b c : Int) (w : World) :
    Calls Try.prog 34 #[.int .i64 a, .int .i64 b, .int .i64 c] w fun e w' => e = .returned (.bool (wB a b c)) ∧ w' = w := by
  by_cases h1 : b ≤ a <;> by_cases h2 : a ≤ c
  all_goals
    go_enter Try.func34, Try.ntmps34
    go_wp2
    go_ret
    simp [wB, h1, h2]
theorem vB_eq (lo hi : Int) : vB (lo, hi) = (wB lo (-1000000) 1000000 && wB hi lo 1000000) := by
  rw [Bool.eq_iff_iff, vB_iff, Bool.and_eq_true, wB_iff, wB_iff]
  constructor
  · rintro ⟨h1, h2, h3⟩; simp only at h1 h2 h3; omega
  · rintro ⟨⟨h1, h2⟩, h3, h4⟩; simp only; omega
set_option maxHeartbeats 400000 in
theorem rvalid_any (x : Int × Int) (w : World) :
    Calls Try.prog 49 #[.agg #[.int .i64 x.1, .int .i64 x.2]] w fun e w' => e = .returned (.bool (vB x)) ∧ Below w.heap.size w w' := by
  obtain ⟨lo, hi⟩ := x
  show Calls Try.prog 49 #[.agg #[.int .i64 lo, .int .i64 hi]] w _
  have key : ∀ b : Bool, wB lo (-1000000) 1000000 = b → Calls Try.prog 49 #[.agg #[.int .i64 lo, .int .i64 hi]] w fun e w' => e = .returned (.bool (b && wB hi lo 1000000)) ∧ Below w.heap.size w w' := by
    intro b hb
    have H := Lib.hid hb
    clear hb
    cases b
    all_goals
      go_enter Try.func49, Try.ntmps49
      go_wp2_with fail
      refine (from_any _ _ _ _).mono ?_
      rintro e w' ⟨rfl, rfl⟩
      rw [H.out]
    · go_wp2_with fail
      go_ret
      exact ⟨by simp, (Below.refl _ _).alloc (Nat.le_refl _) _⟩
    · go_wp2_with fail
      refine (from_any _ _ _ _).mono ?_
      rintro e w' ⟨rfl, rfl⟩
      go_wp2_with fail
      go_ret
      exact ⟨by simp, (Below.refl _ _).alloc (Nat.le_refl _) _⟩
  rw [vB_eq]
  exact key _ rfl
theorem spErr2 (a b : Int × Int) : spErr [a, b] = if vB a && vB b then 0 else 10 := by
  unfold spErr
  cases h1 : vB a <;> cases h2 : vB b <;> simp [h1, h2]
set_option maxHeartbeats 400000 in
theorem two_any (a b : Int × Int) (w : World) :
    Calls Try.prog 88 #[.agg #[.int .i64 a.1, .int .i64 a.2], .agg #[.int .i64 b.1, .int .i64 b.2]] w fun e w' => e = .returned (.int .i64 (spErr [a, b])) ∧ Below w.heap.size w w' := by
  obtain ⟨a1, a2⟩ := a
  obtain ⟨b1, b2⟩ := b
  show Calls Try.prog 88 #[.agg #[.int .i64 a1, .int .i64 a2], .agg #[.int .i64 b1, .int .i64 b2]] w _
  have HE := Lib.hid (spErr2 (a1, a2) (b1, b2))
  have HB0 := Lib.hid (show Below w.heap.size w ((w.alloc (.cells #[.int .i64 a1, .int .i64 a2] 27)).alloc (.cells #[.int .i64 b1, .int .i64 b2] 27)) from ((Below.refl _ w).alloc (Nat.le_refl _) _).alloc (by simp) _)
  go_enter Try.func88, Try.ntmps88
  go_wp2_with fail
  refine (rvalid_any (a1, a2) _).mono ?_
  rintro e w1 ⟨rfl, hb1⟩
  have c0 : w1.cell? ⟨w.heap.size + 1, 0, none⟩ = some (.int .i64 b1) := (hb1.cell (p := ⟨w.heap.size + 1, 0, none⟩) (by simp)).trans (by simp)
  have c1 : w1.cell? ⟨w.heap.size + 1, 1, none⟩ = some (.int .i64 b2) := (hb1.cell (p := ⟨w.heap.size + 1, 1, none⟩) (by simp)).trans (by simp)
  have HB1 := Lib.hid (HB0.out.trans (hb1.mono HB0.out.size))
  clear hb1
  by_cases h1 : vB (a1, a2) = true
  · rw [h1] at HE ⊢
    clear h1
    go_wp2_with fail
    refine (rvalid_any (b1, b2) _).mono ?_
    rintro e w2 ⟨rfl, hb2⟩
    have HB2 := Lib.hid (HB1.out.trans (hb2.mono HB1.out.size))
    clear hb2
    by_cases h2 : vB (b1, b2) = true
    · rw [h2] at HE ⊢
      clear h2
      go_wp2_with fail
      go_ret
      exact ⟨by rw [HE.out]; rfl, HB2.out⟩
    · have h2' : vB (b1, b2) = false := by simpa using h2
      rw [h2'] at HE ⊢
      clear h2 h2'
      go_wp2_with fail
      go_ret
      exact ⟨by rw [HE.out]; rfl, HB2.out⟩
  · have h1' : vB (a1, a2) = false := by simpa using h1
    rw [h1'] at HE ⊢
    clear h1 h1'
    go_wp2_with fail
    go_ret
    exact ⟨by rw [HE.out]; rfl, HB1.out⟩

theorem cells2 {W : World} {B : Nat} {t : TypeId} {a b : Value} (h : W.heap[B]? = some (.cells #[a, b] t)) :
    (W.cell? ⟨B, 0, none⟩ = some a ∧ W.cell? ⟨B, 1, none⟩ = some b) ∧ (W.frozen? ⟨B, 0, none⟩ = false ∧ W.frozen? ⟨B, 1, none⟩ = false) := by
  refine ⟨⟨?_, ?_⟩, ?_, ?_⟩
  · rw [cell_of_row W _ 0 _ _ _ h]; rfl
  · rw [cell_of_row W _ 1 _ _ _ h]; rfl
  all_goals simp [World.frozen?, h]
theorem set2_below {n : Nat} {w w1 : World} {B : Nat} (h : Below n w w1) (hB : n ≤ B) (a b : Value) : Below n w ((w1.setCell ⟨B, 0, none⟩ a).setCell ⟨B, 1, none⟩ b) :=
  (h.setCell (p := ⟨B, 0, none⟩) hB _).setCell (p := ⟨B, 1, none⟩) hB _
theorem below_alloc {w w1 : World} (h : Below w.heap.size w w1) (o : Obj) : Below w.heap.size w (w1.alloc o) := h.alloc h.size o
/-- Go's max and min as the walk has them -/
def mx (a b : Int) : Int := if a < b then b else a
def mn (a b : Int) : Int := if b < a then b else a
theorem mx_eq (a b : Int) : mx a b = max a b := by unfold mx; split <;> omega
theorem mn_eq (a b : Int) : mn a b = min a b := by unfold mn; split <;> omega
end Go.Proofs.Ytfaiogajaaclcaa
/- The contracts of Far, and of the reference's knots and CheckTable. -/
namespace Go.Proofs.Ytfaiogajaaclcaa
open Go.RowKit

/-- one box of a table at the head of a call -/
theorem cells3 {W : World} {B : Nat} {t : TypeId} {a b c : Value} (h : W.heap[B]? = some (.cells #[a, b, c] t)) :
    (W.cell? ⟨B, 0, none⟩ = some a ∧ W.cell? ⟨B, 1, none⟩ = some b ∧ W.cell? ⟨B, 2, none⟩ = some c) ∧ (W.frozen? ⟨B, 0, none⟩ = false ∧ W.frozen? ⟨B, 1, none⟩ = false ∧ W.frozen? ⟨B, 2, none⟩ = false) := by
  refine ⟨⟨?_, ?_, ?_⟩, ?_, ?_, ?_⟩
  · rw [cell_of_row W _ 0 _ _ _ h]; rfl
  · rw [cell_of_row W _ 1 _ _ _ h]; rfl
  · rw [cell_of_row W _ 2 _ _ _ h]; rfl
  all_goals simp [World.frozen?, h]
theorem blk' {W W' : World} {B : Nat} {o : Obj} (hb : Below W.heap.size W W') (h : W.heap[B]? = some o) : W'.heap[B]? = some o := (hb.block _ (Array.getElem?_eq_some_iff.1 h).1).trans h
theorem blk_new' (W : World) (o : Obj) : (W.alloc o).heap[W.heap.size]? = some o := World.alloc_heap_new W o
theorem cell_b' {W W' : World} {B o : Nat} {v : Value} (hb : Below W.heap.size W W') (h : W.cell? ⟨B, o, none⟩ = some v) : W'.cell? ⟨B, o, none⟩ = some v := by
  obtain ⟨ob, ho, _⟩ := cells_of_cell h
  exact (hb.cell (p := ⟨B, o, none⟩) (Array.getElem?_eq_some_iff.1 ho).1).trans h
def rowFar (vs : List (List Int)) : Bool := vs.any (fun r => decide (15 < r.length))
def farB (xs ys : List Int) (vs : List (List Int)) : Bool := decide (15 < xs.length) || decide (15 < ys.length) || decide (15 < vs.length) || rowFar vs
theorem rowFar_drop (vs : List (List Int)) (k : Nat) (h : k < vs.length) : rowFar (vs.drop k) = (decide (15 < (vs[k]?.getD []).length) || rowFar (vs.drop (k + 1))) := by
  unfold rowFar
  rw [List.drop_eq_getElem_cons h, List.any_cons, show vs[k]?.getD [] = vs[k] by simp [h]]
set_option maxHeartbeats 1000000 in
theorem far_any (xs ys : List Int) (vs : List (List Int)) (X Y V : Option Addr) (cx cy cv : Nat) (w : World) (hS : TSm xs ys vs) (hR : TabR w X Y V cx cy cv xs ys vs) :
   Calls Try.prog 17 #[.agg #[.slice X xs.length cx, .slice Y ys.length cy, .slice V vs.length cv]] w fun e w' => e = .returned (.bool (farB xs ys vs)) ∧ Below w.heap.size w w' := by
  obtain ⟨sx, sy, sv, _⟩ := hS
  unfold maxLen at sx sy sv
  have HV := Lib.hid hR.hV
  have HB := Lib.hid (show Below w.heap.size w (w.alloc (.cells #[.slice X xs.length cx, .slice Y ys.length cy, .slice V vs.length cv] 25)) from (Below.refl _ w).alloc (Nat.le_refl _) _)
  clear hR
  by_cases h1 : 15 < xs.length
  · have HF : Hid (farB xs ys vs = true) := by unfold Hid farB; simp [h1]
    go_enter Try.func17, Try.ntmps17
    go_wp2_with fail
    go_ret
    exact ⟨by rw [HF.out]; rfl, HB.out⟩
  · by_cases h2 : 15 < ys.length
    · have HF : Hid (farB xs ys vs = true) := by unfold Hid farB; simp [h2]
      go_enter Try.func17, Try.ntmps17
      go_wp2_with fail
      go_ret
      exact ⟨by rw [HF.out]; rfl, HB.out⟩
    · by_cases h3 : 15 < vs.length
      · have HF : Hid (farB xs ys vs = true) := by unfold Hid farB; simp [h3]
        go_enter Try.func17, Try.ntmps17
        go_wp2_with fail
        go_ret
        exact ⟨by rw [HF.out]; rfl, HB.out⟩
      · have HF : Hid (farB xs ys vs = rowFar vs) := by unfold Hid farB; simp [h1, h2, h3]
        have d1 : decide (15 < xs.length) = false := decide_eq_false h1
        have d2 : decide (15 < ys.length) = false := decide_eq_false h2
        have d3 : decide (15 < vs.length) = false := decide_eq_false h3
        go_enter Try.func17, Try.ntmps17
        go_wp2_with fail
        go_loop [3] (fun i => ∃ k : Nat, k ≤ vs.length ∧ i = .int .i64 k ∧ rowFar (vs.drop k) = rowFar vs) (fun i => vs.length - (intOf i).toNat)
        case atStart => exact ⟨0, by omega, rfl, by simp⟩
        case round =>
          obtain ⟨k, hk, rfl, hp⟩ := hrel
          have HP := Lib.hid hp
          clear hp
          by_cases hlt : k < vs.length
          · obtain ⟨b, off, rfl, hbl, hc⟩ := HV.out (by omega)
            obtain ⟨B, c, hc1, _⟩ := hc k hlt
            have HD := Lib.hid (rowFar_drop vs k hlt)
            clear hc
            generalize hr : vs[k]?.getD [] = r at hc1
            have HR := Lib.hid hr
            clear hr
            by_cases hl : 15 < r.length
            · go_wp2_with fail
              go_ret
              exact ⟨by rw [HF.out, ← HP.out, HD.out, HR.out, decide_eq_true hl]; rfl, HB.out⟩
            · go_wp2_with fail
              go_round
              case rel => exact ⟨k + 1, by omega, by go_num, by rw [← HP.out, HD.out, HR.out, decide_eq_false hl]; simp⟩
              case measure => simp [intOf]; omega
          · go_wp2_with fail
            go_ret
            exact ⟨by rw [HF.out, ← HP.out, List.drop_eq_nil_of_le (by omega)]; rfl, HB.out⟩
set_option maxRecDepth 100000 in
set_option maxHeartbeats 2000000 in
theorem knots_any (A : Option Addr) (l : List Int) (c : Nat) (w : World) (hl : l.length ≤ maxLen) (hA : Ints w A l) :
    Calls Try.prog 64 #[.slice A l.length c] w fun e w' => e = .returned (.bool (axB l)) ∧ Below w.heap.size w w' := by
  unfold maxLen at hl
  by_cases hw : wB l.length 2 12 = true
  · have E := Lib.hid hw
    obtain ⟨h2, h12⟩ := wB_iff.1 hw
    have R : Hid (axB l = axFrom none l) := by unfold Hid axB; rw [hw]; rfl
    obtain ⟨b, off, rfl, hbl, hc⟩ := hA (by omega)
    have HC := Lib.hid hc
    have HB0 := Lib.hid (Below.refl w.heap.size w)
    clear hw hc hA
    go_enter Try.func64, Try.ntmps64
    go_wp2_with fail
    refine (from_any _ _ _ _).mono ?_
    rintro e w' ⟨rfl, rfl⟩
    rw [E.out]
    go_wp2_with fail
    go_loopw [3] (fun i wr => ∃ k : Nat, k ≤ l.length ∧ i = .int .i64 k ∧ axFrom (prev l k) (l.drop k) = axFrom none l ∧ (0 < k → -1000000 ≤ l[k-1]?.getD 0 ∧ l[k-1]?.getD 0 ≤ 1000000) ∧ Below w'.heap.size w' wr) (fun i _ => l.length - (intOf i).toNat)
    case atStart => exact ⟨0, by omega, rfl, by simp [prev], by omega, Below.refl _ _⟩
    case round =>
      obtain ⟨k, hk, rfl, hp, hbd, hbr⟩ := hrel
      have HP := Lib.hid hp
      have HBD := Lib.hid hbd
      have HBR := Lib.hid hbr
      clear hp hbd hbr
      by_cases hlt : k < l.length
      · have hd := Lib.hid (axFrom_drop l k hlt)
        have h1 := (HBR.out.cell (p := ⟨b, off + k, none⟩) hbl).trans (HC.out k hlt)
        generalize hx : l[k]?.getD 0 = x at h1
        have HX := Lib.hid hx
        have t1 : (k : Int) < (l.length : Int) := by omega
        have t2 : (0 : Int) ≤ (k : Int) := by omega
        clear hx
        by_cases hv : wB x (-1000000) 1000000 = true
        · have hvb := wB_iff.1 hv
          have HV := Lib.hid hv
          clear hv
          have HQ1 : Hid (∀ W, Calls Try.prog 34 #[.int .i64 x, .int .i64 (-1000000), .int .i64 1000000] W fun e w' => e = .returned (.bool true) ∧ w' = W) := fun W => by have := from_any x (-1000000) 1000000 W; rw [HV.out] at this; exact this
          by_cases hk0 : k = 0
          · subst hk0
            simp only [Nat.add_zero] at h1
            go_wp2_with fail
            go_quiet ((go_at_call 34; first | (with_reducible exact Calls.quiet_of_same (HQ1.out _))))
            go_wp2_with fail
            go_roundw
            case rel => exact ⟨1, by omega, by go_num, by rw [← HP.out, hd.out, HX.out, HV.out]; simp, fun _ => by simpa [HX.out] using hvb, Below.drewN' HBR.out _⟩
            case measure => simp [intOf]; omega
          · obtain ⟨j, rfl⟩ : ∃ j, k = j + 1 := ⟨k - 1, by omega⟩
            have h3 := (HBR.out.cell (p := ⟨b, off + j, none⟩) hbl).trans (HC.out j (by omega))
            have hyb := HBD.out (by omega)
            simp only [Nat.add_sub_cancel] at hyb
            generalize hy : l[j]?.getD 0 = y at h3 hyb
            have HY := Lib.hid hy
            clear hy hk0
            have u1 : IntKind.i64.wrap ((j : Int) + 1 - 1) = (j : Int) := by rw [IntWalk.i64_in _ (by omega)]; omega
            have u2 : IntKind.i64.wrap (x - y) = x - y := IntWalk.i64_in _ (by omega)
            have t3 : (0 : Int) < (j : Int) + 1 := by omega
            have t4 : (j : Int) < (l.length : Int) := by omega
            have t5 : (j : Int) + 1 < (l.length : Int) := by omega
            have t6 : (0 : Int) ≤ (j : Int) + 1 := by omega
            have t7 : ((j : Int) + 1).toNat = j + 1 := by omega
            by_cases hv2 : wB (x - y) 1 10000 = true
            · have HV2 := Lib.hid hv2
              clear hv2
              have HQ2 : Hid (∀ W, Calls Try.prog 34 #[.int .i64 (x - y), .int .i64 1, .int .i64 10000] W fun e w' => e = .returned (.bool true) ∧ w' = W) := fun W => by have := from_any (x - y) 1 10000 W; rw [HV2.out] at this; exact this
              go_wp2_with fail
              go_quiet ((go_at_call 34; first | (with_reducible exact Calls.quiet_of_same (HQ1.out _)) | (with_reducible exact Calls.quiet_of_same (HQ2.out _))))
              go_wp2_with fail
              go_roundw
              case rel => exact ⟨j + 1 + 1, by omega, by go_num, by rw [← HP.out, hd.out, HX.out, HV.out]; simp [HY.out, HV2.out], fun _ => by simpa [HX.out] using hvb, Below.drewN' HBR.out _⟩
              case measure => simp [intOf]; omega
            · have hv3 : wB (x - y) 1 10000 = false := by simpa using hv2
              have HV2 := Lib.hid hv3
              clear hv2 hv3
              have HQ2 : Hid (∀ W, Calls Try.prog 34 #[.int .i64 (x - y), .int .i64 1, .int .i64 10000] W fun e w' => e = .returned (.bool false) ∧ w' = W) := fun W => by have := from_any (x - y) 1 10000 W; rw [HV2.out] at this; exact this
              go_wp2_with fail
              go_quiet ((go_at_call 34; first | (with_reducible exact Calls.quiet_of_same (HQ1.out _)) | (with_reducible exact Calls.quiet_of_same (HQ2.out _))))
              go_wp2_with fail
              go_ret
              exact ⟨by rw [R.out, ← HP.out, hd.out, HX.out, HV.out]; simp [HY.out, HV2.out], Below.drewN' HBR.out _⟩
        · have hv3 : wB x (-1000000) 1000000 = false := by simpa using hv
          have HV := Lib.hid hv3
          clear hv hv3
          have HQ1 : Hid (∀ W, Calls Try.prog 34 #[.int .i64 x, .int .i64 (-1000000), .int .i64 1000000] W fun e w' => e = .returned (.bool false) ∧ w' = W) := fun W => by have := from_any x (-1000000) 1000000 W; rw [HV.out] at this; exact this
          go_wp2_with fail
          go_quiet ((go_at_call 34; first | (with_reducible exact Calls.quiet_of_same (HQ1.out _))))
          go_wp2_with fail
          go_ret
          exact ⟨by rw [R.out, ← HP.out, hd.out, HX.out, HV.out]; simp, Below.drewN' HBR.out _⟩
      · go_wp2_with fail
        go_ret
        exact ⟨by rw [R.out, ← HP.out, List.drop_eq_nil_of_le (by omega)]; simp [axFrom], HBR.out⟩
  · have hw' : wB l.length 2 12 = false := by simpa using hw
    have E := Lib.hid hw'
    have R : Hid (axB l = false) := by unfold Hid axB; rw [hw']; rfl
    clear hw hw' hA
    go_enter Try.func64, Try.ntmps64
    go_wp2_with fail
    refine (from_any _ _ _ _).mono ?_
    rintro e w' ⟨rfl, rfl⟩
    rw [E.out]
    go_wp2_with fail
    go_ret
    exact ⟨by rw [R.out]; rfl, Below.refl _ _⟩
end Go.Proofs.Ytfaiogajaaclcaa
/- The contracts of the reference's part, Between and Value. -/
namespace Go.Proofs.Ytfaiogajaaclcaa
open Go.RowKit

set_option maxHeartbeats 400000 in
theorem between_any (A : Option Addr) (l : List Int) (c : Nat) (lo hi : Int) (w : World) (h1 : 1 ≤ l.length) (hl : l.length ≤ 1000000) (hA : Ints w A l) :
    Calls Try.prog 69 #[.slice A l.length c, .agg #[.int .i64 lo, .int .i64 hi]] w fun e w' => e = .returned (.bool (liesB l (lo, hi))) ∧ Below w.heap.size w w' := by
  obtain ⟨b, off, rfl, hbl, hc⟩ := hA (by omega)
  have c0 := hc 0 (by omega)
  have c1 := hc (l.length - 1) (by omega)
  simp only [Nat.add_zero] at c0
  have hR : liesB l (lo, hi) = (decide (l[0]?.getD 0 ≤ lo) && decide (hi ≤ l[l.length - 1]?.getD 0)) := rfl
  generalize l[0]?.getD 0 = a at *
  generalize l[l.length - 1]?.getD 0 = z at *
  have t1 : ((l.length : Int) - 1).toNat = l.length - 1 := by omega
  have t2 : (0 : Int) ≤ (l.length : Int) - 1 := by omega
  have t3 : (l.length : Int) - 1 < (l.length : Int) := by omega
  have t4 : (0 : Int) < (l.length : Int) := by omega
  have u1 : IntKind.i64.wrap ((l.length : Int) - 1) = (l.length : Int) - 1 := IntWalk.i64_in _ (by omega)
  have HR := Lib.hid hR
  have hB : ∀ (o : Obj) (n : Nat), Below w.heap.size w ((w.alloc o).drewN n) := fun o n => Below.drewN' ((Below.refl _ w).alloc (Nat.le_refl _) _) n
  have HB := Lib.hid hB
  clear hR hc hA hB
  by_cases g1 : a ≤ lo
  · have g1' : decide (a ≤ lo) = true := by simpa using g1
    by_cases g2 : hi ≤ z
    · have g2' : decide (hi ≤ z) = true := by simpa using g2
      go_enter Try.func69, Try.ntmps69
      go_wp2_with fail
      go_quiet (fail)
      go_wp2_with fail
      go_ret
      exact ⟨by rw [HR.out, g1', g2']; rfl, HB.out _ _⟩
    · have g2' : decide (hi ≤ z) = false := by simpa using g2
      go_enter Try.func69, Try.ntmps69
      go_wp2_with fail
      go_quiet (fail)
      go_wp2_with fail
      go_ret
      exact ⟨by rw [HR.out, g1', g2']; rfl, HB.out _ _⟩
  · have g1' : decide (a ≤ lo) = false := by simpa using g1
    go_enter Try.func69, Try.ntmps69
    go_wp2_with fail
    go_quiet (fail)
    go_wp2_with fail
    go_ret
    exact ⟨by rw [HR.out, g1']; rfl, HB.out _ _⟩

def PartAt (l : List Int) (x : Int) (i : Nat) : Prop := i + 2 ≤ l.length ∧ (0 < i → l[i]?.getD 0 ≤ x) ∧ (i + 2 < l.length → x < l[i+1]?.getD 0)
instance (l : List Int) (x : Int) (i : Nat) : Decidable (PartAt l x i) := by unfold PartAt; exact inferInstance
end Go.Proofs.Ytfaiogajaaclcaa
/- Plain laws of fractions, and that the reference's value of a table is the program's. -/
namespace Go.Proofs.Ytfaiogajaaclcaa

theorem floor_cross {n d m f : Int} (hd : 1 ≤ d) (hf : 1 ≤ f) (h : n * f = m * d) : n / d = m / f := by
  have h1 : n * f / (d * f) = n / d := Int.mul_ediv_mul_of_pos_left n d (by omega)
  have h2 : m * d / (f * d) = m / f := Int.mul_ediv_mul_of_pos_left m f (by omega)
  rw [← h1, ← h2, h, Int.mul_comm f d]
theorem ceil_cross {n d m f : Int} (hd : 1 ≤ d) (hf : 1 ≤ f) (h : n * f = m * d) : -(-n / d) = -(-m / f) := by
  rw [floor_cross (n := -n) (m := -m) hd hf (by rw [Int.neg_mul, Int.neg_mul, h])]
theorem cmpV_sign {n d m f : Int} (hd : 1 ≤ d) (hf : 1 ≤ f) : (cmpV n d m f < 0 ↔ n * f < m * d) ∧ (0 < cmpV n d m f ↔ m * d < n * f) := by
  have r1 := rem_bd n d hd
  have r2 := rem_bd m f hf
  have hC : cmpV n d m f = if n / d - m / f = 0 then (if (n - n / d * d) * f - (m - m / f * f) * d = 0 then 0 else (n - n / d * d) * f - (m - m / f * f) * d) else n / d - m / f := rfl
  rw [hC]
  clear hC
  generalize n / d = a at *
  generalize m / f = b at *
  have hdf : 1 ≤ d * f := by
    have := Int.mul_le_mul hd hf (by omega) (by omega : (0 : Int) ≤ d)
    omega
  have e1 : n * f - m * d = (a - b) * (d * f) + ((n - a * d) * f - (m - b * f) * d) := by grind
  have p1 : (n - a * d) * f ≤ (d - 1) * f := Int.mul_le_mul_of_nonneg_right (by omega) (by omega)
  have p2 : 0 ≤ (n - a * d) * f := Int.mul_nonneg (by omega) (by omega)
  have p3 : (m - b * f) * d ≤ (f - 1) * d := Int.mul_le_mul_of_nonneg_right (by omega) (by omega)
  have p4 : 0 ≤ (m - b * f) * d := Int.mul_nonneg (by omega) (by omega)
  have p5 : (d - 1) * f = d * f - f := by rw [Int.sub_mul]; omega
  have p6 : (f - 1) * d = d * f - d := by rw [Int.sub_mul, Int.mul_comm f d]; omega
  by_cases h0 : a - b = 0
  · rw [if_pos h0]
    rw [h0, Int.zero_mul] at e1
    split <;> constructor <;> omega
  · rw [if_neg h0]
    rcases Int.lt_or_gt_of_ne h0 with hlt | hgt
    · have p7 : (a - b) * (d * f) ≤ (-1) * (d * f) := Int.mul_le_mul_of_nonneg_right (by omega) (by omega)
      constructor <;> omega
    · have p7 : 1 * (d * f) ≤ (a - b) * (d * f) := Int.mul_le_mul_of_nonneg_right (by omega) (by omega)
      constructor <;> omega
end Go.Proofs.Ytfaiogajaaclcaa
/- The contract of the reference's CheckTable. -/
namespace Go.Proofs.Ytfaiogajaaclcaa
open Go.RowKit

def outI (x : Int) : Bool := !wB x (-1000000) 1000000
theorem any_drop {α : Type} (p : α → Bool) (l : List α) (d : α) (k : Nat) (h : k < l.length) : (l.drop k).any p = (p (l[k]?.getD d) || (l.drop (k + 1)).any p) := by
  rw [List.drop_eq_getElem_cons h, List.any_cons, show l[k]?.getD d = l[k] by simp [h]]
set_option maxRecDepth 100000 in
set_option maxHeartbeats 4000000 in
theorem rcheckTable_any (xs ys : List Int) (vs : List (List Int)) (X Y V : Option Addr) (cx cy cv : Nat) (w : World) (hS : TSm xs ys vs) (hR : TabR w X Y V cx cy cv xs ys vs) :
   Calls Try.prog 18 #[.agg #[.slice X xs.length cx, .slice Y ys.length cy, .slice V vs.length cv]] w fun e w' => e = .returned (.int .i64 (tabErr xs ys vs)) ∧ Below w.heap.size w w' := by
  have HXx := Lib.hid hR.hX
  have HYy := Lib.hid hR.hY
  have HVv := Lib.hid hR.hV
  have HSX := Lib.hid hS.x
  have HSY := Lib.hid hS.y
  have hsv := hS.v
  unfold maxLen at hsv
  have HBk0 := Lib.hid (blk_new' w (.cells #[.slice X xs.length cx, .slice Y ys.length cy, .slice V vs.length cv] 25))
  have HB0 := Lib.hid (show Below w.heap.size w (w.alloc (.cells #[.slice X xs.length cx, .slice Y ys.length cy, .slice V vs.length cv] 25)) from (Below.refl _ w).alloc (Nat.le_refl _) _)
  clear hR hS
  go_enter Try.func18, Try.ntmps18
  go_wp2_with fail
  refine (knots_any X xs cx _ HSX.out (HXx.out.below HB0.out)).mono ?_
  rintro e w1 ⟨rfl, hb1⟩
  have HBk1 := Lib.hid (blk' hb1 HBk0.out)
  have HB1 := Lib.hid (HB0.out.trans (hb1.mono HB0.out.size))
  obtain ⟨⟨c0, c1, c2⟩, _⟩ := cells3 HBk1.out
  clear hb1
  by_cases hx : axB xs = true
  · rw [hx]
    have EX := Lib.hid hx
    clear hx
    go_wp2_with fail
    refine (knots_any Y ys cy _ HSY.out (HYy.out.below HB1.out)).mono ?_
    rintro e w2 ⟨rfl, hb2⟩
    have HBk2 := Lib.hid (blk' hb2 HBk1.out)
    have HB2 := Lib.hid (HB1.out.trans (hb2.mono HB1.out.size))
    clear c0 c1 c2 hb2
    obtain ⟨⟨c0, c1, c2⟩, _⟩ := cells3 HBk2.out
    by_cases hy : axB ys = true
    · rw [hy]
      have EY := Lib.hid hy
      clear hy
      by_cases hn : ((vs.length : Int) != (xs.length : Int)) = true
      · have R : Hid (tabErr xs ys vs = 11) := by unfold Hid tabErr tabB; rw [hn]; simp
        go_wp2_with fail
        go_ret
        exact ⟨by rw [R.out]; rfl, HB2.out⟩
      · have hn' : ((vs.length : Int) != (xs.length : Int)) = false := by simpa using hn
        have R : Hid (tabErr xs ys vs = if vs.any (rowBad ys.length) then 11 else 0) := by unfold Hid tabErr tabB; rw [hn', EX.out, EY.out]; cases vs.any (rowBad ys.length) <;> rfl
        clear hn
        go_wp2_with fail
        clear c0 c1 c2
        go_loopw [3, 4] (fun i _ wr => ∃ k : Nat, k ≤ vs.length ∧ i = .int .i64 k ∧ (vs.drop k).any (rowBad ys.length) = vs.any (rowBad ys.length) ∧ Below w2.heap.size w2 wr) (fun i _ _ => vs.length - (intOf i).toNat)
        case atStart => exact ⟨0, by omega, rfl, by simp, Below.refl _ _⟩
        case round =>
          obtain ⟨k, hk, rfl, hp, hbr⟩ := hrel
          obtain ⟨wo, rfl⟩ : ∃ wo : World, wo = wr := ⟨_, rfl⟩
          have HP := Lib.hid hp
          have HBR := Lib.hid hbr
          obtain ⟨⟨c0, c1, c2⟩, _⟩ := cells3 (blk' hbr HBk2.out)
          clear hp hbr
          by_cases hlt : k < vs.length
          · obtain ⟨b, off, rfl, hbl, hc⟩ := HVv.out (by omega)
            obtain ⟨B, d, hc1, hB⟩ := hc k hlt
            have HBB := Lib.hid (HB2.out.trans (HBR.out.mono HB2.out.size))
            have h1 := (HBB.out.cell (p := ⟨b, off + k, none⟩) hbl).trans hc1
            have HI := Lib.hid (hB.below HBB.out)
            have HD := Lib.hid (any_drop (rowBad ys.length) vs [] k hlt)
            clear hc hc1 hB
            generalize hr : vs[k]?.getD [] = r at h1 HI HD
            clear hr
            have t1 : (k : Int) < (vs.length : Int) := by omega
            have t2 : (0 : Int) ≤ (k : Int) := by omega
            by_cases hl : ((r.length : Int) != (ys.length : Int)) = true
            · have HRB : Hid (rowBad ys.length r = true) := by unfold Hid rowBad; rw [hl]; rfl
              go_wp2_with fail
              go_quiet (fail)
              go_wp2_with fail
              go_ret
              exact ⟨by rw [R.out, ← HP.out, HD.out, HRB.out]; rfl, Below.drewN' HBB.out _⟩
            · have hl' : ((r.length : Int) != (ys.length : Int)) = false := by simpa using hl
              have HRB : Hid (rowBad ys.length r = r.any outI) := by unfold Hid rowBad; rw [hl']; rfl
              clear hl
              have hry : r.length ≤ 9223372036854775807 := by
                have := HSY.out
                unfold maxLen at this
                simp at hl'
                omega
              go_wp2_with fail
              go_quiet (fail)
              go_wp2_with fail
              go_loopw [4] (fun i wq => ∃ j : Nat, j ≤ r.length ∧ i = .int .i64 j ∧ (r.drop j).any outI = r.any outI ∧ Below wo.heap.size wo wq) (fun i _ => r.length - (intOf i).toNat)
              case atStart => exact ⟨0, by omega, rfl, by simp, Below.drewN' (Below.refl _ _) _⟩
              case round =>
                obtain ⟨j, hj, rfl, hp2, hbq⟩ := hrel
                have HP2 := Lib.hid hp2
                have HBQ := Lib.hid hbq
                have HBQ2 := Lib.hid (HBB.out.trans (hbq.mono HBB.out.size))
                obtain ⟨⟨e0, e1, e2⟩, _⟩ := cells3 (blk' hbq (blk' HBR.out HBk2.out))
                have h2 := cell_b' hbq h1
                clear hp2 hbq
                by_cases hlt2 : j < r.length
                · obtain ⟨b2, off2, rfl, hbl2, hc2⟩ := HI.out (by omega)
                  have h3 := cell_b' HBQ.out (hc2 j hlt2)
                  have HD2 := Lib.hid (any_drop outI r 0 j hlt2)
                  clear hc2
                  generalize hx2 : r[j]?.getD 0 = x at h3 HD2
                  clear hx2
                  go_wp2_with fail
                  refine (from_any _ _ _ _).mono ?_
                  rintro e w' ⟨rfl, rfl⟩
                  by_cases hv : wB x (-1000000) 1000000 = true
                  · rw [hv]
                    have HO : Hid (outI x = false) := by unfold Hid outI; rw [hv]; rfl
                    clear hv
                    go_wp2_with fail
                    go_roundw
                    case rel => exact ⟨j + 1, by omega, by go_num, by rw [← HP2.out, HD2.out, HO.out]; simp, HBQ.out⟩
                    case measure => simp [intOf]; omega
                  · have hv' : wB x (-1000000) 1000000 = false := by simpa using hv
                    rw [hv']
                    have HO : Hid (outI x = true) := by unfold Hid outI; rw [hv']; rfl
                    clear hv hv'
                    go_wp2_with fail
                    go_ret
                    exact ⟨by rw [R.out, ← HP.out, HD.out, HRB.out, ← HP2.out, HD2.out, HO.out]; rfl, HBQ2.out⟩
                · have HZ : Hid (rowBad ys.length r = false) := by unfold Hid; rw [HRB.out, ← HP2.out, List.drop_eq_nil_of_le (by omega)]; rfl
                  go_wp2_with fail
                  go_roundw
                  case rel => exact ⟨k + 1, by omega, by go_num, by rw [← HP.out, HD.out, HZ.out]; simp, HBR.out.trans (HBQ.out.mono HBR.out.size)⟩
                  case measure => simp [intOf]; omega
          · go_wp2_with fail
            go_ret
            exact ⟨by rw [R.out, ← HP.out, List.drop_eq_nil_of_le (by omega)]; rfl, HB2.out.trans (HBR.out.mono HB2.out.size)⟩
    · have hy' : axB ys = false := by simpa using hy
      rw [hy']
      have R : Hid (tabErr xs ys vs = 11) := by unfold Hid tabErr tabB; rw [hy']; simp
      clear hy hy'
      go_wp2_with fail
      go_ret
      exact ⟨by rw [R.out]; rfl, HB2.out⟩
  · have hx' : axB xs = false := by simpa using hx
    rw [hx']
    have R : Hid (tabErr xs ys vs = 11) := by unfold Hid tabErr tabB; rw [hx']; simp
    clear hx hx'
    go_wp2_with fail
    go_ret
    exact ⟨by rw [R.out]; rfl, HB1.out⟩
end Go.Proofs.Ytfaiogajaaclcaa
/- The law SpansMeets: it returns true; old memory stays. -/
namespace Go.Proofs.Ytfaiogajaaclcaa
open Go.RowKit

theorem blk_lt {W : World} {B : Nat} {o : Obj} (h : W.heap[B]? = some o) : B < W.heap.size := (Array.getElem?_eq_some_iff.1 h).1
end Go.Proofs.Ytfaiogajaaclcaa
/- The contracts of Add, Times, Part, and of what the reference has for them. -/
namespace Go.Proofs.Ytfaiogajaaclcaa
open Go.RowKit

theorem cell_b {W W' : World} {B o : Nat} {v : Value} (hb : Below W.heap.size W W') (h : W.cell? ⟨B, o, none⟩ = some v) : W'.cell? ⟨B, o, none⟩ = some v := by
  obtain ⟨ob, ho, _⟩ := cells_of_cell h
  exact (hb.cell (p := ⟨B, o, none⟩) (blk_lt ho)).trans h
theorem froz_b {W W' : World} {B o : Nat} {v : Value} (hb : Below W.heap.size W W') (h : W.cell? ⟨B, o, none⟩ = some v) (hf : W.frozen? ⟨B, o, none⟩ = false) : W'.frozen? ⟨B, o, none⟩ = false := by
  obtain ⟨ob, ho, _⟩ := cells_of_cell h
  exact (hb.frozen (p := ⟨B, o, none⟩) (blk_lt ho)).trans hf
end Go.Proofs.Ytfaiogajaaclcaa
/- The reference's CheckBound, corners and less. -/
namespace Go.Proofs.Ytfaiogajaaclcaa
open Go.RowKit

set_option maxRecDepth 100000 in
set_option maxHeartbeats 2000000 in
theorem rcb_any (xs ys : List Int) (vs : List (List Int)) (X Y V : Option Addr) (cx cy cv : Nat) (x y : Int × Int) (w : World) (hS : TSm xs ys vs) (hR : TabR w X Y V cx cy cv xs ys vs) :
   Calls Try.prog 41 #[.agg #[.slice X xs.length cx, .slice Y ys.length cy, .slice V vs.length cv], .agg #[.int .i64 x.1, .int .i64 x.2], .agg #[.int .i64 y.1, .int .i64 y.2]] w fun e w' => e = .returned (.int .i64 (cpErr xs ys vs x y)) ∧ Below w.heap.size w w' := by
  obtain ⟨xl, xh⟩ := x
  obtain ⟨yl, yh⟩ := y
  show Calls Try.prog 41 #[.agg #[.slice X xs.length cx, .slice Y ys.length cy, .slice V vs.length cv], .agg #[.int .i64 xl, .int .i64 xh], .agg #[.int .i64 yl, .int .i64 yh]] w _
  have HS := Lib.hid hS
  have HE : Hid (cpErr xs ys vs (xl, xh) (yl, yh) = if tabB xs ys vs then (if spErr [(xl, xh), (yl, yh)] != 0 then spErr [(xl, xh), (yl, yh)] else if liesB xs (xl, xh) && liesB ys (yl, yh) then 0 else 1) else 11) := rfl
  obtain ⟨W0, hW0⟩ : ∃ W0, (((w.alloc (.cells #[.slice X xs.length cx, .slice Y ys.length cy, .slice V vs.length cv] 25)).alloc (.cells #[.int .i64 xl, .int .i64 xh] 27)).alloc (.cells #[.int .i64 yl, .int .i64 yh] 27)) = W0 := ⟨_, rfl⟩
  have HB : Hid (Below w.heap.size w W0) := by
    unfold Hid; rw [← hW0]
    repeat (first | exact Below.refl _ _ | refine Below.alloc ?_ (by simp <;> omega) _)
  have ha : W0.heap[w.heap.size]? = some (.cells #[.slice X xs.length cx, .slice Y ys.length cy, .slice V vs.length cv] 25) := by
    rw [← hW0]; simp only [heap_alloc_at, World.size_alloc]; repeat (first | rw [if_pos trivial] | rw [if_neg (by omega)])
  have hb : W0.heap[w.heap.size + 1]? = some (.cells #[.int .i64 xl, .int .i64 xh] 27) := by
    rw [← hW0]; simp only [heap_alloc_at, World.size_alloc]; repeat (first | rw [if_pos trivial] | rw [if_neg (by omega)])
  have hc : W0.heap[w.heap.size + 1 + 1]? = some (.cells #[.int .i64 yl, .int .i64 yh] 27) := by
    rw [← hW0]; simp only [heap_alloc_at, World.size_alloc]; repeat (first | rw [if_pos trivial] | rw [if_neg (by omega)])
  obtain ⟨⟨c0, c1, c2⟩, _⟩ := cells3 ha
  obtain ⟨⟨p0, p1⟩, _⟩ := cells2 hb
  obtain ⟨⟨q0, q1⟩, _⟩ := cells2 hc
  have HR := Lib.hid (hR.below HB.out)
  have HW0 := Lib.hid hW0
  clear hW0 ha hb hc hS hR
  go_enter Try.func41, Try.ntmps41
  go_wp2_with fail
  rw [HW0.out]
  refine (rcheckTable_any xs ys vs X Y V cx cy cv _ HS.out HR.out).mono ?_
  rintro e w1 ⟨rfl, hb1⟩
  replace c0 := cell_b hb1 c0
  replace c1 := cell_b hb1 c1
  replace c2 := cell_b hb1 c2
  replace p0 := cell_b hb1 p0
  replace p1 := cell_b hb1 p1
  replace q0 := cell_b hb1 q0
  replace q1 := cell_b hb1 q1
  replace HR := Lib.hid (HR.out.below hb1)
  replace HB := Lib.hid (HB.out.trans (hb1.mono HB.out.size))
  clear hb1
  by_cases ht : tabB xs ys vs = true
  · have hte : tabErr xs ys vs = 0 := by unfold tabErr; rw [if_pos ht]
    rw [hte]
    rw [if_pos ht] at HE
    have hx2 := (tbl_of ht).ax.two
    have hx12 := (tbl_of ht).ax.twelve
    have hy2 := (tbl_of ht).ay.two
    have hy12 := (tbl_of ht).ay.twelve
    clear ht hte
    go_wp2_with fail
    refine (two_any (xl, xh) (yl, yh) _).mono ?_
    rintro e w2 ⟨rfl, hb2⟩
    replace c0 := cell_b hb2 c0
    replace c1 := cell_b hb2 c1
    replace c2 := cell_b hb2 c2
    replace p0 := cell_b hb2 p0
    replace p1 := cell_b hb2 p1
    replace q0 := cell_b hb2 q0
    replace q1 := cell_b hb2 q1
    replace HR := Lib.hid (HR.out.below hb2)
    replace HB := Lib.hid (HB.out.trans (hb2.mono HB.out.size))
    clear hb2
    by_cases hs : (spErr [(xl, xh), (yl, yh)] != 0) = true
    · rw [if_pos hs] at HE
      generalize spErr [(xl, xh), (yl, yh)] = se at *
      go_wp2_with fail
      go_ret
      exact ⟨by rw [HE.out]; rfl, HB.out⟩
    · have hs' : spErr [(xl, xh), (yl, yh)] = 0 := by simpa using hs
      rw [if_neg hs] at HE
      rw [hs']
      clear hs hs'
      go_wp2_with fail
      refine (between_any X xs cx xl xh _ (by omega) (by omega) HR.out.hX).mono ?_
      rintro e w3 ⟨rfl, hb3⟩
      replace c0 := cell_b hb3 c0
      replace c1 := cell_b hb3 c1
      replace c2 := cell_b hb3 c2
      replace p0 := cell_b hb3 p0
      replace p1 := cell_b hb3 p1
      replace q0 := cell_b hb3 q0
      replace q1 := cell_b hb3 q1
      replace HR := Lib.hid (HR.out.below hb3)
      replace HB := Lib.hid (HB.out.trans (hb3.mono HB.out.size))
      clear hb3
      by_cases l1 : liesB xs (xl, xh) = true
      · rw [l1] at HE ⊢
        clear l1
        go_wp2_with fail
        refine (between_any Y ys cy yl yh _ (by omega) (by omega) HR.out.hY).mono ?_
        rintro e w4 ⟨rfl, hb4⟩
        replace c0 := cell_b hb4 c0
        replace c1 := cell_b hb4 c1
        replace c2 := cell_b hb4 c2
        replace p0 := cell_b hb4 p0
        replace p1 := cell_b hb4 p1
        replace q0 := cell_b hb4 q0
        replace q1 := cell_b hb4 q1
        replace HR := Lib.hid (HR.out.below hb4)
        replace HB := Lib.hid (HB.out.trans (hb4.mono HB.out.size))
        clear hb4
        by_cases l2 : liesB ys (yl, yh) = true
        · rw [l2] at HE ⊢
          clear l2
          go_wp2_with fail
          go_ret
          exact ⟨by rw [HE.out]; rfl, HB.out⟩
        · have l2' : liesB ys (yl, yh) = false := by simpa using l2
          rw [l2'] at HE ⊢
          clear l2 l2'
          go_wp2_with fail
          go_ret
          exact ⟨by rw [HE.out]; rfl, HB.out⟩
      · have l1' : liesB xs (xl, xh) = false := by simpa using l1
        rw [l1'] at HE ⊢
        clear l1 l1'
        go_wp2_with fail
        go_ret
        exact ⟨by rw [HE.out]; rfl, HB.out⟩
  · have hte : tabErr xs ys vs = 11 := by unfold tabErr; rw [if_neg ht]
    rw [hte]
    rw [if_neg ht] at HE
    clear ht hte
    go_wp2_with fail
    go_ret
    exact ⟨by rw [HE.out]; rfl, HB.out⟩
end Go.Proofs.Ytfaiogajaaclcaa
/- A copy of a slice, append([]T{}, l...): a new slice of equal elements; nothing old is written. -/
namespace Go.Proofs.Ytfaiogajaaclcaa
open Go.RowKit

section
variable {P : Program} (w : World)
/-- what a copy owes: a new slice of so many elements, its cells as given -/
structure Copied (e : TypeId) (size m : Nat) (news : List Value) (w : World) (A : Option Addr) (c : Nat) (w' : World) : Prop where
  len : m ≤ c
  below : Below w.heap.size w w'
  own : 0 < m → w'.ownsRow w.heap.size e size (.slice A m c) m news
end
end Go.Proofs.Ytfaiogajaaclcaa
/- The contract of the reference's Copy: an equal table in new memory; nothing old is written. -/
namespace Go.Proofs.Ytfaiogajaaclcaa
open Go.RowKit

/-- a slice of ints in a row of its own -/
def OwnI (base : Nat) (w : World) (A : Option Addr) (c : Nat) (l : List Int) : Prop := 0 < l.length → w.ownsRow base 3 1 (.slice A l.length c) l.length (IV l)
theorem OwnI.ints {base : Nat} {w : World} {A : Option Addr} {c : Nat} {l : List Int} (h : OwnI base w A c l) : Ints w A l := fun hl => by
  obtain ⟨A', c', e, hI, _⟩ := ints_of_own (h hl)
  cases e
  exact hI hl
theorem grown_of_below {W W' : World} (hb : Below W.heap.size W W') : W.grownBy W' none := ⟨hb.os, hb.tape, hb.output, hb.size, fun k hk _ => hb.block k hk⟩
/-- a step that turns no block of ints keeps it -/
theorem OwnI.step {base : Nat} {W W' : World} {A : Option Addr} {c : Nat} {l : List Int} {row : Option Nat} (h : OwnI base W A c l) (hg : W.grownBy W' row) (hr : ∀ g cs fz, row = some g → W.heap[g]? = some (.cells cs 3 fz) → False) : OwnI base W' A c l := fun hl => by
  have h1 := h hl
  refine h1.kept hg ?_
  obtain ⟨_, ⟨e, _⟩ | ⟨g, cap, cur, e, hb, hgb, _⟩⟩ := h1
  · left; rw [e]; rfl
  · right
    intro e'
    rw [e] at e'
    exact hr g _ _ (by simpa [Value.ownBlock] using e'.symm) hgb
theorem OwnI.below {base : Nat} {W W' : World} {A : Option Addr} {c : Nat} {l : List Int} (h : OwnI base W A c l) (hb : Below W.heap.size W W') : OwnI base W' A c l := h.step (grown_of_below hb) (fun g cs fz e => by cases e)
theorem OwnI.mono {b1 b2 : Nat} {w : World} {A : Option Addr} {c : Nat} {l : List Int} (h : OwnI b1 w A c l) (hb : b2 ≤ b1) : OwnI b2 w A c l := fun hl => by
  obtain ⟨h1, ⟨e, h0⟩ | ⟨g, cap, cur, e, hbg, rest⟩⟩ := h hl
  · exact ⟨h1, .inl ⟨e, h0⟩⟩
  · exact ⟨h1, .inr ⟨g, cap, cur, e, by omega, rest⟩⟩
/-- rows, each in a row of its own -/
def OwnRows (base : Nat) (w : World) (rs : List Value) (l : List (List Int)) : Prop := rs.length = l.length ∧ ∀ k, k < l.length → ∃ B c, rs[k]? = some (.slice B (l[k]?.getD []).length c) ∧ (l[k]?.getD []).length ≤ c ∧ OwnI base w B c (l[k]?.getD [])
theorem OwnRows.step {base : Nat} {W W' : World} {rs : List Value} {l : List (List Int)} {row : Option Nat} (h : OwnRows base W rs l) (hg : W.grownBy W' row) (hr : ∀ g cs fz, row = some g → W.heap[g]? = some (.cells cs 3 fz) → False) : OwnRows base W' rs l :=
  ⟨h.1, fun k hk => by obtain ⟨B, c, h1, h2, h3⟩ := h.2 k hk; exact ⟨B, c, h1, h2, h3.step hg hr⟩⟩
/-- nil slices have no room -/
def MatN (w : World) (A : Option Addr) (l : List (List Int)) : Prop :=
  0 < l.length → ∃ b off, A = some ⟨b, off, none⟩ ∧ b < w.heap.size ∧ ∀ k, k < l.length → ∃ B c, w.cell? ⟨b, off + k, none⟩ = some (.slice B (l[k]?.getD []).length c) ∧ Ints w B (l[k]?.getD []) ∧ (B = none → c = 0)
structure TabN (w : World) (X Y V : Option Addr) (cx cy cv : Nat) (xs ys : List Int) (vs : List (List Int)) : Prop where
  nx : X = none → cx = 0
  ny : Y = none → cy = 0
  mv : MatN w V vs
theorem MatN.below {w w' : World} {A : Option Addr} {l : List (List Int)} (h : MatN w A l) (hb : Below w.heap.size w w') : MatN w' A l := fun hl => by
  obtain ⟨b, off, e, hlt, hc⟩ := h hl
  refine ⟨b, off, e, Nat.lt_of_lt_of_le hlt hb.size, fun k hk => ?_⟩
  obtain ⟨B, c, h1, h2, h3⟩ := hc k hk
  exact ⟨B, c, (hb.cell (p := ⟨b, off + k, none⟩) hlt).trans h1, h2.below hb, h3⟩
theorem TabN.below {w w' : World} {X Y V : Option Addr} {cx cy cv : Nat} {xs ys : List Int} {vs : List (List Int)} (h : TabN w X Y V cx cy cv xs ys vs) (hb : Below w.heap.size w w') : TabN w' X Y V cx cy cv xs ys vs := ⟨h.nx, h.ny, h.mv.below hb⟩
end Go.Proofs.Ytfaiogajaaclcaa
/- The reference's bound: it is the program's. -/
namespace Go.Proofs.Ytfaiogajaaclcaa
open Go.RowKit

theorem ptAt_is {xs ys : List Int} {vs : List (List Int)} {x y : Int} (hT : Tbl xs ys vs) (hx : OnAx xs x) (hy : OnAx ys y) :
    (ptAt xs ys vs x y).n = atN xs ys vs x y ∧ (ptAt xs ys vs x y).d = atD xs ys x y ∧ (ptAt xs ys vs x y).x = x ∧ (ptAt xs ys vs x y).y = y := by
  unfold ptAt mkPt
  rw [dif_pos (at_bd hT hx hy)]
  exact ⟨rfl, rfl, rfl, rfl⟩
theorem floor_mono {n d m f : Int} (hd : 1 ≤ d) (hf : 1 ≤ f) (h : n * f ≤ m * d) : n / d ≤ m / f := by
  have h1 : n * f / (d * f) = n / d := Int.mul_ediv_mul_of_pos_left n d (by omega)
  have h2 : m * d / (f * d) = m / f := Int.mul_ediv_mul_of_pos_left m f (by omega)
  rw [← h1, ← h2, Int.mul_comm f d]
  exact Int.ediv_le_ediv (Int.mul_pos (by omega) (by omega)) h
theorem step_low (l p : Pt) : mn (l.n / l.d) (p.n / p.d) = (if cmpV p.n p.d l.n l.d < 0 then p else l).n / (if cmpV p.n p.d l.n l.d < 0 then p else l).d := by
  have h := (cmpV_sign (n := p.n) (m := l.n) p.ok.1 l.ok.1).1
  rw [mn_eq]
  by_cases c : cmpV p.n p.d l.n l.d < 0
  · rw [if_pos c]
    have := floor_mono (n := p.n) (m := l.n) p.ok.1 l.ok.1 (by have := h.1 c; omega)
    omega
  · rw [if_neg c]
    have := floor_mono (n := l.n) (m := p.n) l.ok.1 p.ok.1 (by have := fun q => c (h.2 q); omega)
    omega
theorem step_top (m p : Pt) : mx (-(-m.n / m.d)) (-(-p.n / p.d)) = -(-(if 0 < cmpV p.n p.d m.n m.d then p else m).n / (if 0 < cmpV p.n p.d m.n m.d then p else m).d) := by
  have h := (cmpV_sign (n := p.n) (m := m.n) p.ok.1 m.ok.1).2
  rw [mx_eq]
  by_cases c : 0 < cmpV p.n p.d m.n m.d
  · rw [if_pos c]
    have := floor_mono (n := -p.n) (m := -m.n) p.ok.1 m.ok.1 (by have := h.1 c; rw [Int.neg_mul, Int.neg_mul]; omega)
    omega
  · rw [if_neg c]
    have := floor_mono (n := -m.n) (m := -p.n) m.ok.1 p.ok.1 (by have := fun q => c (h.2 q); rw [Int.neg_mul, Int.neg_mul]; omega)
    omega
end Go.Proofs.Ytfaiogajaaclcaa
/- What came in or was made, as lists of numbers, in both tongues; old contracts as abstract ones. -/
namespace Go.Proofs.Ytfaiogajaaclcaa
open Go.RowKit Lift

section
variable {w : World} {β : Bet} {Z : Blk}
theorem rep_ints {v : Value} {l : List Int} (h : Rep w β Z v (.list (ints l))) : ∃ A c, v = .slice A l.length c ∧ Ints w A l ∧ l.length ≤ c := by
  generalize hd : D.list (ints l) = d at h
  cases h with
  | list0 A c =>
    have : l = [] := by simpa [ints] using hd
    subst this
    exact ⟨A, c, rfl, fun h => by simp at h, by simp⟩
  | list b off c sz L vs hz hb hc hs hcell hrep =>
    cases hd
    refine ⟨_, c, by rw [ints_len], fun hl => ⟨b, off, rfl, hb, fun k hk => ?_⟩, by rw [← ints_len l]; exact hc⟩
    have hk' : k < (ints l).length := by rw [ints_len]; exact hk
    have hg := ints_get l k hk'
    have hsz : sz = 1 := by rw [← hs _ (List.getElem_mem hk'), hg]; rfl
    have h0 : 0 < (ints l)[k].length := by rw [hg]; simp
    have h1 := hcell k 0 hk' h0
    have h2 := hrep k 0 hk' h0
    rw [getElem_of_eq hk' hg 0 h0 (by simp)] at h2
    simp only [List.getElem_cons_zero] at h2
    rw [h1.trans (congrArg some h2.val_eq.symm) |>.symm, hsz]
    simp
  | _ => cases hd
theorem rep_mat {v : Value} {l : List (List Int)} (h : Rep w β Z v (.list (rows l))) : ∃ A c, v = .slice A l.length c ∧ Mat w A l := by
  generalize hd : D.list (rows l) = d at h
  cases h with
  | list0 A c =>
    have : l = [] := by simpa [rows] using hd
    subst this
    exact ⟨A, c, rfl, fun h => by simp at h⟩
  | list b off c sz L vs hz hb hc hs hcell hrep =>
    cases hd
    refine ⟨_, c, by rw [rows_len], fun hl => ⟨b, off, rfl, hb, fun k hk => ?_⟩⟩
    have hk' : k < (rows l).length := by rw [rows_len]; exact hk
    have hg := rows_get l k hk'
    have hsz : sz = 1 := by rw [← hs _ (List.getElem_mem hk'), hg]; rfl
    have h0 : 0 < (rows l)[k].length := by rw [hg]; simp
    have h1 := hcell k 0 hk' h0
    have h2 := hrep k 0 hk' h0
    rw [getElem_of_eq hk' hg 0 h0 (by simp)] at h2
    simp only [List.getElem_cons_zero] at h2
    obtain ⟨A, cc, e1, e2, _⟩ := rep_ints h2
    refine ⟨A, cc, ?_, e2⟩
    rw [hsz, e1] at h1
    simpa using h1
  | _ => cases hd
theorem rep_agg {v : Value} {l : List D} (h : Rep w β Z v (.agg l)) : ∃ cs : Array Value, v = .agg cs ∧ cs.size = l.length ∧ ∀ i (h : i < l.length), Rep w β Z (cs.getD i undef) l[i] := by
  cases h with
  | agg cs _ h1 h2 => exact ⟨cs, rfl, h1, h2⟩
theorem rep_tab {v : Value} {xs ys : List Int} {vs : List (List Int)} (h : Rep w β Z v (tabD xs ys vs)) : ∃ X Y V cx cy cv, v = .agg #[.slice X xs.length cx, .slice Y ys.length cy, .slice V vs.length cv] ∧ TabR w X Y V cx cy cv xs ys vs := by
  obtain ⟨cs, rfl, h1, h2⟩ := rep_agg h
  obtain ⟨X, cx, e0, hX, lx⟩ := rep_ints (h2 0 (by simp))
  obtain ⟨Y, cy, e1, hY, ly⟩ := rep_ints (h2 1 (by simp))
  obtain ⟨V, cv, e2, hV⟩ := rep_mat (h2 2 (by simp))
  refine ⟨X, Y, V, cx, cy, cv, ?_, ⟨hX, hY, hV, lx, ly⟩⟩
  rw [← e0, ← e1, ← e2]
  congr 1
  apply Array.ext
  · simpa using h1
  · intro i h3 h4
    have h5 : i < 3 := by simpa using h4
    match i, h5 with
    | 0, _ => simp [h3]
    | 1, _ => simp [h3]
    | 2, _ => simp [h3]
theorem rep_sp {v : Value} {x : Int × Int} (h : Rep w β Z v (spD x)) : v = .agg #[.int .i64 x.1, .int .i64 x.2] := by
  obtain ⟨cs, rfl, h1, h2⟩ := rep_agg h
  have e0 := (h2 0 (by simp)).val_eq
  have e1 := (h2 1 (by simp)).val_eq
  rw [e0, e1]
  congr 1
  apply Array.ext
  · simpa using h1
  · intro i h3 h4
    have h5 : i < 2 := by simpa using h4
    match i, h5 with
    | 0, _ => simp [h3]
    | 1, _ => simp [h3]
end
theorem args1 {vs : Array Value} (h : vs.size = 1) : vs = #[vs.getD 0 undef] := by
  apply Array.ext
  · simpa using h
  · intro i h3 h4
    have h5 : i < 1 := by simpa using h4
    match i, h5 with
    | 0, _ => simp [h3]
theorem args2 {vs : Array Value} (h : vs.size = 2) : vs = #[vs.getD 0 undef, vs.getD 1 undef] := by
  apply Array.ext
  · simpa using h
  · intro i h3 h4
    have h5 : i < 2 := by simpa using h4
    match i, h5 with
    | 0, _ => simp [h3]
    | 1, _ => simp [h3]
theorem args3 {vs : Array Value} (h : vs.size = 3) : vs = #[vs.getD 0 undef, vs.getD 1 undef, vs.getD 2 undef] := by
  apply Array.ext
  · simpa using h
  · intro i h3 h4
    have h5 : i < 3 := by simpa using h4
    match i, h5 with
    | 0, _ => simp [h3]
    | 1, _ => simp [h3]
    | 2, _ => simp [h3]
end Go.Proofs.Ytfaiogajaaclcaa
/- Old contracts as abstract ones: tables and bounds. No conditions. -/
namespace Go.Proofs.Ytfaiogajaaclcaa
open Go.RowKit Lift

theorem flat_sp (x : Int × Int) (w : World) (β : Bet) (Z : Blk) : Rep w β Z (.agg #[.int .i64 x.1, .int .i64 x.2]) (spD x) :=
  .agg _ _ rfl fun i hi => by
    have : i < 2 := by simpa using hi
    match i, this with
    | 0, _ => exact .val _
    | 1, _ => exact .val _
theorem flat_sp1 (x : Int × Int) (e : Int) (w : World) (β : Bet) (Z : Blk) : Rep w β Z (.tuple #[.agg #[.int .i64 x.1, .int .i64 x.2], .int .i64 e]) (.tup [spD x, dI e]) :=
  .tup _ _ rfl fun i hi => by
    have : i < 2 := by simpa using hi
    match i, this with
    | 0, _ => exact flat_sp x w β Z
    | 1, _ => exact .val _
theorem Tbl.sz {xs ys : List Int} {vs : List (List Int)} (h : Tbl xs ys vs) : TSz xs ys vs := by
  have h1 := h.ax.twelve
  have h2 := h.ay.twelve
  have h3 := h.len
  refine ⟨by omega, by omega, by omega, fun r hr => ?_⟩
  obtain ⟨k, hk, rfl⟩ := List.getElem_of_mem hr
  have := h.row k hk
  simp only [List.getElem?_eq_getElem hk, Option.getD_some] at this
  omega
section
variable {xs ys : List Int} {vs : List (List Int)}
theorem bound_ac (x y : Int × Int) (hS : TSz xs ys vs) : AC Try.prog 27 [tabD xs ys vs, spD x, spD y] [] [] (.tup [spD (boundR xs ys vs x y).1, dI (boundR xs ys vs x y).2]) :=
  ac_of_calls ⟨Try.f27, Try.func27, by decide, rfl⟩ (flat_sp1 _ _) fun w us β Z hs hr => by
    obtain ⟨X, Y, V, cx, cy, cv, e, hR⟩ := rep_tab (hr 0 (by simp))
    rw [args3 hs, e, rep_sp (hr 1 (by simp)), rep_sp (hr 2 (by simp))]
    exact bound_any xs ys vs X Y V cx cy cv x y w hS hR
end
end Go.Proofs.Ytfaiogajaaclcaa
/- The contracts of spans.At and of the reference's At. -/
namespace Go.Proofs.Ytfaiogajaaclcaa
open Go.RowKit

def atR (xs ys : List Int) (vs : List (List Int)) (x y : Int) : (Int × Int) × Int :=
  if tabB xs ys vs then (if liesB xs (x, x) && liesB ys (y, y) then ((atN xs ys vs x y / atD xs ys x y, -(-atN xs ys vs x y / atD xs ys x y)), 0) else ((0, 0), 1)) else ((0, 0), 11)
set_option maxRecDepth 100000 in
set_option maxHeartbeats 2000000 in
theorem atFn_any (xs ys : List Int) (vs : List (List Int)) (X Y V : Option Addr) (cx cy cv : Nat) (x y : Int) (w : World) (hS : TSz xs ys vs) (hSM : TSm xs ys vs) (hR : TabR w X Y V cx cy cv xs ys vs) :
   Calls Try.prog 31 #[.agg #[.slice X xs.length cx, .slice Y ys.length cy, .slice V vs.length cv], .int .i64 x, .int .i64 y] w fun e w' =>
     e = .returned (.tuple #[.agg #[.int .i64 (atR xs ys vs x y).1.1, .int .i64 (atR xs ys vs x y).1.2], .int .i64 (atR xs ys vs x y).2]) ∧ Below w.heap.size w w' := by
  have HS := Lib.hid hS
  have HSM := Lib.hid hSM
  have HE : Hid (atR xs ys vs x y = if tabB xs ys vs then (if liesB xs (x, x) && liesB ys (y, y) then ((atN xs ys vs x y / atD xs ys x y, -(-atN xs ys vs x y / atD xs ys x y)), 0) else ((0, 0), 1)) else ((0, 0), 11)) := rfl
  obtain ⟨W0, hW0⟩ : ∃ W0, ((w.alloc (.cells #[.slice X xs.length cx, .slice Y ys.length cy, .slice V vs.length cv] 25)).alloc (.cells #[.int .i64 0, .int .i64 0] 27)) = W0 := ⟨_, rfl⟩
  have HB : Hid (Below w.heap.size w W0) := by
    unfold Hid; rw [← hW0]
    repeat (first | exact Below.refl _ _ | refine Below.alloc ?_ (by simp <;> omega) _)
  have ha : W0.heap[w.heap.size]? = some (.cells #[.slice X xs.length cx, .slice Y ys.length cy, .slice V vs.length cv] 25) := by
    rw [← hW0]; simp only [heap_alloc_at, World.size_alloc]; repeat (first | rw [if_pos trivial] | rw [if_neg (by omega)])
  have hb : W0.heap[w.heap.size + 1]? = some (.cells #[.int .i64 0, .int .i64 0] 27) := by
    rw [← hW0]; simp only [heap_alloc_at, World.size_alloc]; repeat (first | rw [if_pos trivial] | rw [if_neg (by omega)])
  have HR := Lib.hid (hR.below HB.out)
  have HW0 := Lib.hid hW0
  obtain ⟨⟨c0, c1, c2⟩, _⟩ := cells3 ha
  obtain ⟨⟨d0, d1⟩, f0, f1⟩ := cells2 hb
  have zb := blk_lt hb
  clear hW0 ha hb hS hSM hR
  go_enter Try.func31, Try.ntmps31
  go_wp2_with fail
  rw [HW0.out]
  refine (checkTableR xs ys vs X Y V cx cy cv _ HS.out HR.out).mono ?_
  rintro e w1 ⟨rfl, hb1⟩
  replace c0 := cell_b hb1 c0
  replace c1 := cell_b hb1 c1
  replace c2 := cell_b hb1 c2
  replace f0 := froz_b hb1 d0 f0
  replace f1 := froz_b hb1 d1 f1
  replace d0 := cell_b hb1 d0
  replace d1 := cell_b hb1 d1
  replace zb := Nat.lt_of_lt_of_le zb hb1.size
  replace HR := Lib.hid (HR.out.below hb1)
  replace HB := Lib.hid (HB.out.trans (hb1.mono HB.out.size))
  clear hb1
  by_cases ht : tabB xs ys vs = true
  · have HT := Lib.hid (tbl_of ht)
    have hte : tabErr xs ys vs = 0 := by unfold tabErr; rw [if_pos ht]
    rw [hte]
    rw [if_pos ht] at HE
    have hx2 := (tbl_of ht).ax.two
    have hx12 := (tbl_of ht).ax.twelve
    have hy2 := (tbl_of ht).ay.two
    have hy12 := (tbl_of ht).ay.twelve
    clear ht hte
    go_wp2_with fail
    refine (lies_any X xs cx x x _ (by omega) (by omega) HR.out.hX).mono ?_
    rintro e w2 ⟨rfl, hb2⟩
    replace c0 := cell_b hb2 c0
    replace c1 := cell_b hb2 c1
    replace c2 := cell_b hb2 c2
    replace f0 := froz_b hb2 d0 f0
    replace f1 := froz_b hb2 d1 f1
    replace d0 := cell_b hb2 d0
    replace d1 := cell_b hb2 d1
    replace zb := Nat.lt_of_lt_of_le zb hb2.size
    replace HR := Lib.hid (HR.out.below hb2)
    replace HB := Lib.hid (HB.out.trans (hb2.mono HB.out.size))
    clear hb2
    by_cases l1 : liesB xs (x, x) = true
    · rw [l1]
      have L1 := Lib.hid l1
      clear l1
      go_wp2_with fail
      refine (lies_any Y ys cy y y _ (by omega) (by omega) HR.out.hY).mono ?_
      rintro e w3 ⟨rfl, hb3⟩
      replace c0 := cell_b hb3 c0
      replace c1 := cell_b hb3 c1
      replace c2 := cell_b hb3 c2
      replace f0 := froz_b hb3 d0 f0
      replace f1 := froz_b hb3 d1 f1
      replace d0 := cell_b hb3 d0
      replace d1 := cell_b hb3 d1
      replace zb := Nat.lt_of_lt_of_le zb hb3.size
      replace HR := Lib.hid (HR.out.below hb3)
      replace HB := Lib.hid (HB.out.trans (hb3.mono HB.out.size))
      clear hb3
      by_cases l2 : liesB ys (y, y) = true
      · rw [l2]
        have hox : OnAx xs x := liesB_iff.1 L1.out
        have hoy : OnAx ys y := liesB_iff.1 l2
        have HOX := Lib.hid hox
        have HOY := Lib.hid hoy
        rw [L1.out, l2] at HE
        replace HE : Hid (atR xs ys vs x y = ((atN xs ys vs x y / atD xs ys x y, -(-atN xs ys vs x y / atD xs ys x y)), 0)) := HE.out
        clear l2 hox hoy
        have vb := at_bd HT.out HOX.out HOY.out
        go_wp2_with fail
        refine (at_any xs ys vs X Y V cx cy cv x y _ HT.out HR.out HOX.out HOY.out).mono ?_
        rintro e w4 ⟨rfl, hb4⟩
        generalize atN xs ys vs x y = n at *
        generalize atD xs ys x y = d at *
        replace c0 := cell_b hb4 c0
        replace c1 := cell_b hb4 c1
        replace c2 := cell_b hb4 c2
        replace f0 := froz_b hb4 d0 f0
        replace f1 := froz_b hb4 d1 f1
        replace d0 := cell_b hb4 d0
        replace d1 := cell_b hb4 d1
        replace zb := Nat.lt_of_lt_of_le zb hb4.size
        replace HR := Lib.hid (HR.out.below hb4)
        replace HB := Lib.hid (HB.out.trans (hb4.mono HB.out.size))
        clear hb4
        go_wp2_with fail
        refine wp_region_tail 11 (by kernel_rfl) (by kernel_rfl) ?_
        simp only [List.take_succ_cons, List.take_zero, List.drop_succ_cons, List.drop_zero]
        iterate 4 still_step
        still_call (floor_any _ _ _ (by omega) (by omega) (by omega) (by omega))
        iterate 4 still_step
        still_call (ceil_any _ _ _ (by omega) (by omega) (by omega) (by omega))
        still_step
        refine wpStill_nil ?_
        go_wp2_with fail
        refine bodyPost_ret (v := .tuple #[.agg #[.int .i64 (n / d), .int .i64 (-(-n / d))], .int .i64 0]) (by simp [results, Try.results31, go_sem, d0, d1, zb]) rfl ⟨by rw [HE.out], ?_⟩
        exact (below_alloc (set2_below HB.out (by omega) _ _) _).drew
      · have l2' : liesB ys (y, y) = false := by simpa using l2
        rw [l2']
        rw [L1.out, l2'] at HE
        replace HE : Hid (atR xs ys vs x y = ((0, 0), 1)) := HE.out
        clear l2 l2'
        go_wp2_with fail
        refine bodyPost_ret (v := .tuple #[.agg #[.int .i64 0, .int .i64 0], .int .i64 1]) (by simp [results, Try.results31, go_sem, d0, d1]) rfl ⟨by rw [HE.out], set2_below HB.out (by omega) _ _⟩
    · have l1' : liesB xs (x, x) = false := by simpa using l1
      rw [l1']
      rw [l1'] at HE
      replace HE : Hid (atR xs ys vs x y = ((0, 0), 1)) := HE.out
      clear l1 l1'
      go_wp2_with fail
      refine bodyPost_ret (v := .tuple #[.agg #[.int .i64 0, .int .i64 0], .int .i64 1]) (by simp [results, Try.results31, go_sem, d0, d1]) rfl ⟨by rw [HE.out], set2_below HB.out (by omega) _ _⟩
  · have hte : tabErr xs ys vs = 11 := by unfold tabErr; rw [if_neg ht]
    rw [hte]
    rw [if_neg ht] at HE
    clear ht hte
    go_wp2_with fail
    refine bodyPost_ret (v := .tuple #[.agg #[.int .i64 0, .int .i64 0], .int .i64 11]) (by simp [results, Try.results31, go_sem, d0, d1]) rfl ⟨by rw [HE.out], set2_below HB.out (by omega) _ _⟩
end Go.Proofs.Ytfaiogajaaclcaa
/- The old contract of spans.At as an abstract one. No conditions. -/
namespace Go.Proofs.Ytfaiogajaaclcaa
open Go.RowKit Lift

theorem at_ac' {xs ys : List Int} {vs : List (List Int)} (x y : Int) (hS : TSm xs ys vs) (hZ : TSz xs ys vs) : AC Try.prog 31 [tabD xs ys vs, dI x, dI y] [] [] (.tup [spD (atR xs ys vs x y).1, dI (atR xs ys vs x y).2]) :=
  ac_of_calls ⟨Try.f31, Try.func31, by decide, rfl⟩ (flat_sp1 _ _) fun w us β Z hs hr => by
    obtain ⟨X, Y, V, cx, cy, cv, e, hR⟩ := rep_tab (hr 0 (by simp))
    rw [args3 hs, e, ← (hr 1 (by simp)).val_eq, ← (hr 2 (by simp)).val_eq]
    exact atFn_any xs ys vs X Y V cx cy cv x y w hZ hS hR
end Go.Proofs.Ytfaiogajaaclcaa
/- The law SpansEach: it returns true; old memory stays. -/
namespace Go.Proofs.Ytfaiogajaaclcaa
open Go.RowKit

/-- a number brought into a span -/
def inSp (n lo hi : Int) : Int := lo + n % (hi - lo + 1)
theorem inSp_bd (n lo hi : Int) (h : lo ≤ hi) : lo ≤ inSp n lo hi ∧ inSp n lo hi ≤ hi := by
  unfold inSp
  have e1 := Int.emod_nonneg n (show hi - lo + 1 ≠ 0 by omega)
  have e2 := Int.emod_lt_of_pos n (show 0 < hi - lo + 1 by omega)
  omega
theorem tmod_twice (n d : Int) (hd : 1 ≤ d) : (n.tmod d + d).tmod d = n % d := by
  have e5 := Int.tmod_lt_of_pos n (show 0 < d by omega)
  have e6 := Int.lt_tmod_of_pos n (show 0 < d by omega)
  rw [Int.tmod_eq_emod_of_nonneg (by omega)]
  rw [Int.add_emod_right]
  have e1 := Int.mul_tdiv_add_tmod n d
  have : n.tmod d = n - d * (n.tdiv d) := by omega
  rw [this, Int.sub_mul_emod_self_left]
set_option maxHeartbeats 1000000 in
theorem lwithin_any (n lo hi : Int) (w : World) (h1 : -1000000 ≤ lo) (h2 : lo ≤ hi) (h3 : hi ≤ 1000000) :
    Calls Try.prog 42 #[.int .i64 n, .agg #[.int .i64 lo, .int .i64 hi]] w fun e w' => e = .returned (.int .i64 (inSp n lo hi)) ∧ Below w.heap.size w w' := by
  have HI : Hid (inSp n lo hi = lo + n % (hi - lo + 1)) := rfl
  go_enter Try.func42, Try.ntmps42
  go_wp2_with fail
  generalize hd : hi - lo + 1 = d at *
  have hd1 : 1 ≤ d := by omega
  have hd2 : d ≤ 2000001 := by omega
  have HT := Lib.hid (tmod_twice n d hd1)
  have e5 := Int.tmod_lt_of_pos n (show 0 < d by omega)
  have e6 := Int.lt_tmod_of_pos n (show 0 < d by omega)
  have e7 := Int.emod_nonneg n (show d ≠ 0 by omega)
  have e8 := Int.emod_lt_of_pos n (show 0 < d by omega)
  have z : (d == 0) = false := by rw [beq_eq_false_iff_ne]; omega
  have u1 : IntKind.i64.wrap (n.tmod d) = n.tmod d := IntWalk.i64_in _ (by omega)
  have u2 : IntKind.i64.wrap (n.tmod d + d) = n.tmod d + d := IntWalk.i64_in _ (by omega)
  have u3 : (n.tmod d + d).tmod d = n % d := HT.out
  have u4 : IntKind.i64.wrap (n % d) = n % d := IntWalk.i64_in _ (by omega)
  have u5 : IntKind.i64.wrap (lo + n % d) = lo + n % d := IntWalk.i64_in _ (by omega)
  have HB := Lib.hid (show ∀ q, Below w.heap.size w ((w.alloc (.cells #[.int .i64 lo, .int .i64 hi] 27)).drewN q) from fun q => Below.drewN' ((Below.refl _ w).alloc (Nat.le_refl _) _) q)
  clear hd
  go_quiet (fail)
  clear u1 u2 u3 u4 u5
  go_wp2_with fail
  go_ret
  exact ⟨by rw [HI.out]; rfl, HB.out _⟩
end Go.Proofs.Ytfaiogajaaclcaa
/- Old contracts as abstract ones: the worst point, the check of a bound, the law's helpers. No conditions. -/
namespace Go.Proofs.Ytfaiogajaaclcaa
open Go.RowKit Lift

theorem in_tab' {S : Nat → Prop} (xs ys : List Int) (vs : List (List Int)) : In S (tabD xs ys vs) := .agg _ (by intro d hd; simp at hd; rcases hd with rfl | rfl | rfl <;> exact .list _)
theorem flat_3 (a b c : Int) (w : World) (β : Bet) (Z : Blk) : Rep w β Z (.tuple #[.int .i64 a, .int .i64 b, .int .i64 c]) (.tup [dI a, dI b, dI c]) :=
  .tup _ _ rfl fun i hi => by
    have : i < 3 := by simpa using hi
    match i, this with
    | 0, _ => exact .val _
    | 1, _ => exact .val _
    | 2, _ => exact .val _
theorem works_ac : AC Try.prog 19 [] [] [] (dB true) :=
  ac_of_calls ⟨Try.f19, Try.func19, by decide, rfl⟩ (fun _ _ _ => .val _) fun w vs β Z hs hr => by
    obtain rfl : vs = #[] := Array.size_eq_zero_iff.1 (by simpa using hs)
    exact works_any w
theorem lwithin_ac (n : Int) (a : Int × Int) (h1 : -1000000 ≤ a.1) (h2 : a.1 ≤ a.2) (h3 : a.2 ≤ 1000000) : AC Try.prog 42 [dI n, spD a] [] [] (dI (inSp n a.1 a.2)) :=
  ac_of_calls ⟨Try.f42, Try.func42, by decide, rfl⟩ (fun _ _ _ => .val _) fun w us β Z hs hr => by
    rw [args2 hs, ← (hr 0 (by simp)).val_eq, rep_sp (hr 1 (by simp))]
    exact lwithin_any n a.1 a.2 w h1 h2 h3
section
variable {xs ys : List Int} {vs : List (List Int)}
theorem far_ac (hS : TSm xs ys vs) : AC Try.prog 17 [tabD xs ys vs] [] [] (dB (farB xs ys vs)) :=
  ac_of_calls ⟨Try.f17, Try.func17, by decide, rfl⟩ (fun _ _ _ => .val _) fun w us β Z hs hr => by
    obtain ⟨X, Y, V, cx, cy, cv, e, hR⟩ := rep_tab (hr 0 (by simp))
    rw [args1 hs, e]
    exact far_any xs ys vs X Y V cx cy cv w hS hR
theorem rcb_ac (x y : Int × Int) (hS : TSm xs ys vs) : AC Try.prog 41 [tabD xs ys vs, spD x, spD y] [] [] (dI (cpErr xs ys vs x y)) :=
  ac_of_calls ⟨Try.f41, Try.func41, by decide, rfl⟩ (fun _ _ _ => .val _) fun w us β Z hs hr => by
    obtain ⟨X, Y, V, cx, cy, cv, e, hR⟩ := rep_tab (hr 0 (by simp))
    rw [args3 hs, e, rep_sp (hr 1 (by simp)), rep_sp (hr 2 (by simp))]
    exact rcb_any xs ys vs X Y V cx cy cv x y w hS hR
theorem worst_ac (x y : Int × Int) (hS : TSz xs ys vs) : AC Try.prog 29 [tabD xs ys vs, spD x, spD y] [] [] (.tup [dI (worstR xs ys vs x y).1.1, dI (worstR xs ys vs x y).1.2, dI (worstR xs ys vs x y).2]) :=
  ac_of_calls ⟨Try.f29, Try.func29, by decide, rfl⟩ (flat_3 _ _ _) fun w us β Z hs hr => by
    obtain ⟨X, Y, V, cx, cy, cv, e, hR⟩ := rep_tab (hr 0 (by simp))
    rw [args3 hs, e, rep_sp (hr 1 (by simp)), rep_sp (hr 2 (by simp))]
    exact worst_any xs ys vs X Y V cx cy cv x y w hS hR
end
end Go.Proofs.Ytfaiogajaaclcaa
/- What is known when the table is not far. No conditions. -/
namespace Go.Proofs.Ytfaiogajaaclcaa
open Go.RowKit

theorem farB_no {xs ys : List Int} {vs : List (List Int)} (h : farB xs ys vs = false) : (xs.length ≤ 15 ∧ ys.length ≤ 15 ∧ vs.length ≤ 15) ∧ ∀ r ∈ vs, r.length ≤ 15 := by
  unfold farB rowFar at h
  simp only [Bool.or_eq_false_iff, decide_eq_false_iff_not, List.any_eq_false, decide_eq_true_eq] at h
  obtain ⟨⟨⟨h1, h2⟩, h3⟩, h4⟩ := h
  exact ⟨⟨by omega, by omega, by omega⟩, fun r hr => by have := h4 r hr; omega⟩
theorem tsz_no {xs ys : List Int} {vs : List (List Int)} (h : farB xs ys vs = false) : TSz xs ys vs := by
  obtain ⟨⟨h1, h2, h3⟩, h4⟩ := farB_no h
  exact ⟨by omega, by omega, by omega, fun r hr => by have := h4 r hr; omega⟩
end Go.Proofs.Ytfaiogajaaclcaa
/- At each point of a box the value of a table lies between the ends of its bound. In numbers; no conditions. -/
namespace Go.Proofs.Ytfaiogajaaclcaa

def flo (xs ys : List Int) (vs : List (List Int)) (x y : Int) : Int := atN xs ys vs x y / atD xs ys x y
def cei (xs ys : List Int) (vs : List (List Int)) (x y : Int) : Int := -(-(atN xs ys vs x y) / atD xs ys x y)
theorem Axis.cell_or {l : List Int} (h : Axis l) {x : Int} {i : Nat} (hi : i + 2 ≤ l.length) (h1 : l[i]?.getD 0 ≤ x) (h2 : x ≤ l[i+1]?.getD 0) : cellI l x = i ∨ (i = cellI l x + 1 ∧ x = l[i]?.getD 0) := by
  by_cases hc : 0 < i → l[i]?.getD 0 < x
  · exact .inl (h.cellI_eq ⟨hi, hc, fun _ => h2⟩)
  · have hpos : 0 < i := by
      rcases Nat.eq_zero_or_pos i with h0 | h0
      · exact absurd (fun hh => by omega) hc
      · exact h0
    have hx : x = l[i]?.getD 0 := by
      by_cases hlt : l[i]?.getD 0 < x
      · exact absurd (fun _ => hlt) hc
      · omega
    obtain ⟨j, rfl⟩ := Nat.exists_eq_succ_of_ne_zero (by omega : i ≠ 0)
    refine .inr ⟨?_, hx⟩
    have := h.cellI_eq (x := x) (i := j) ⟨by omega, fun _ => by have := h.gap j (by omega); simp only [Nat.succ_eq_add_one] at hx; omega, fun _ => by simp only [Nat.succ_eq_add_one] at hx; omega⟩
    rw [this]
def nX (xs ys : List Int) (vs : List (List Int)) (i k : Nat) (x y : Int) : Int := numF (xs[i+1]?.getD 0 - x) (x - xs[i]?.getD 0) (ys[k+1]?.getD 0 - y) (y - ys[k]?.getD 0)
    ((vs[i]?.getD [])[k]?.getD 0) ((vs[i+1]?.getD [])[k]?.getD 0) ((vs[i]?.getD [])[k+1]?.getD 0) ((vs[i+1]?.getD [])[k+1]?.getD 0)
def dX (xs ys : List Int) (i k : Nat) : Int := (xs[i+1]?.getD 0 - xs[i]?.getD 0) * (ys[k+1]?.getD 0 - ys[k]?.getD 0)
theorem dX_pos {xs ys : List Int} (hx : Axis xs) (hy : Axis ys) {i k : Nat} (hi : i + 2 ≤ xs.length) (hk : k + 2 ≤ ys.length) : 1 ≤ dX xs ys i k := by
  have h1 := hx.gap i (by omega)
  have h2 := hy.gap k (by omega)
  unfold dX
  have := Int.mul_le_mul h1.1 h2.1 (by omega) (by omega)
  omega
/-- the value by whatever part of the axes that the point lies on -/
theorem val_any {xs ys : List Int} {vs : List (List Int)} (hT : Tbl xs ys vs) {x y : Int} {i k : Nat} (hi : i + 2 ≤ xs.length) (hk : k + 2 ≤ ys.length) (x1 : xs[i]?.getD 0 ≤ x) (x2 : x ≤ xs[i+1]?.getD 0) (y1 : ys[k]?.getD 0 ≤ y) (y2 : y ≤ ys[k+1]?.getD 0) :
    atN xs ys vs x y * dX xs ys i k = nX xs ys vs i k x y * atD xs ys x y := by
  have hx := hT.ax.cell_or hi x1 x2
  have hy := hT.ay.cell_or hk y1 y2
  unfold atN atD nX dX numF denF
  simp only
  clear x1 x2 y1 y2
  generalize cellI xs x = i' at *
  generalize cellI ys y = k' at *
  rcases hx with rfl | ⟨rfl, hx2⟩ <;> rcases hy with rfl | ⟨rfl, hy2⟩
  · grind
  · generalize xs[i']?.getD 0 = x0 at *
    generalize xs[i'+1]?.getD 0 = x1 at *
    generalize ys[k']?.getD 0 = y0 at *
    generalize ys[k'+1]?.getD 0 = y1 at *
    generalize ys[k'+1+1]?.getD 0 = y2 at *
    subst hy2
    grind
  · generalize xs[i']?.getD 0 = x0 at *
    generalize xs[i'+1]?.getD 0 = x1 at *
    generalize xs[i'+1+1]?.getD 0 = x2 at *
    generalize ys[k']?.getD 0 = y0 at *
    generalize ys[k'+1]?.getD 0 = y1 at *
    subst hx2
    grind
  · generalize xs[i']?.getD 0 = x0 at *
    generalize xs[i'+1]?.getD 0 = x1 at *
    generalize xs[i'+1+1]?.getD 0 = x2 at *
    generalize ys[k']?.getD 0 = y0 at *
    generalize ys[k'+1]?.getD 0 = y1 at *
    generalize ys[k'+1+1]?.getD 0 = y2 at *
    subst hx2 hy2
    grind
/-- neighbours among the stops of a span -/
theorem stops_near {l : List Int} (h : Axis l) {lo hi x : Int} (h1 : l[0]?.getD 0 ≤ lo) (h2 : hi ≤ l[l.length-1]?.getD 0) (h3 : lo ≤ x) (h4 : x ≤ hi) :
    ∃ (i : Nat) (x1 x2 : Int), i + 2 ≤ l.length ∧ x1 ∈ stopsL l lo hi ∧ x2 ∈ stopsL l lo hi ∧ l[i]?.getD 0 ≤ x1 ∧ x1 ≤ x ∧ x ≤ x2 ∧ x2 ≤ l[i+1]?.getD 0 := by
  obtain ⟨c1, c2, c3⟩ := h.cellI_at x
  generalize cellI l x = i at *
  have a1 : l[i]?.getD 0 ≤ x := by
    rcases Nat.eq_zero_or_pos i with h0 | h0
    · subst h0; omega
    · have := c2 h0; omega
  have a2 : x ≤ l[i+1]?.getD 0 := by
    by_cases hlt : i + 2 < l.length
    · exact c3 hlt
    · have : l.length - 1 = i + 1 := by omega
      rw [this] at h2; omega
  have m1 : l[i]?.getD 0 ∈ l := by simp [show i < l.length by omega]
  have m2 : l[i+1]?.getD 0 ∈ l := by simp [show i + 1 < l.length by omega]
  have hmem : ∀ z, z = lo ∨ (z ∈ l ∧ lo < z ∧ z < hi) ∨ (lo < hi ∧ z = hi) → z ∈ stopsL l lo hi := by
    intro z hz
    unfold stopsL midL
    simp only [List.cons_append, List.mem_cons, List.mem_append, List.mem_filter, Bool.and_eq_true, decide_eq_true_eq]
    rcases hz with hz | ⟨hz1, hz2, hz3⟩ | ⟨hz1, hz2⟩
    · exact .inl hz
    · exact .inr (.inl ⟨hz1, hz2, hz3⟩)
    · exact .inr (.inr (by rw [if_pos hz1]; simp [hz2]))
  refine ⟨i, max lo (l[i]?.getD 0), min hi (l[i+1]?.getD 0), c1, ?_, ?_, by omega, by omega, by omega, by omega⟩
  · by_cases q1 : l[i]?.getD 0 ≤ lo
    · exact hmem _ (.inl (by omega))
    · by_cases q2 : l[i]?.getD 0 < hi
      · have e : max lo (l[i]?.getD 0) = l[i]?.getD 0 := by omega
        rw [e]; exact hmem _ (.inr (.inl ⟨m1, by omega, q2⟩))
      · exact hmem _ (.inr (.inr ⟨by omega, by omega⟩))
  · by_cases q1 : hi ≤ l[i+1]?.getD 0
    · by_cases q2 : lo < hi
      · exact hmem _ (.inr (.inr ⟨q2, by omega⟩))
      · exact hmem _ (.inl (by omega))
    · by_cases q2 : lo < l[i+1]?.getD 0
      · have e : min hi (l[i+1]?.getD 0) = l[i+1]?.getD 0 := by omega
        rw [e]; exact hmem _ (.inr (.inl ⟨m2, q2, by omega⟩))
      · exact hmem _ (.inl (by omega))
/-- linear between two points: between the two values -/
theorem lin {P Q b a x1 x x2 : Int} (h1 : x1 ≤ x) (h2 : x ≤ x2) :
    ((b - x1) * P + (x1 - a) * Q ≤ (b - x) * P + (x - a) * Q ∧ (b - x) * P + (x - a) * Q ≤ (b - x2) * P + (x2 - a) * Q) ∨
    ((b - x2) * P + (x2 - a) * Q ≤ (b - x) * P + (x - a) * Q ∧ (b - x) * P + (x - a) * Q ≤ (b - x1) * P + (x1 - a) * Q) := by
  have e1 : ((b - x) * P + (x - a) * Q) - ((b - x1) * P + (x1 - a) * Q) = (x - x1) * (Q - P) := by grind
  have e2 : ((b - x2) * P + (x2 - a) * Q) - ((b - x) * P + (x - a) * Q) = (x2 - x) * (Q - P) := by grind
  by_cases hq : 0 ≤ Q - P
  · have p1 := Int.mul_nonneg (by omega : 0 ≤ x - x1) hq
    have p2 := Int.mul_nonneg (by omega : 0 ≤ x2 - x) hq
    exact .inl ⟨by omega, by omega⟩
  · have p1 := Int.mul_nonneg (by omega : 0 ≤ x - x1) (by omega : 0 ≤ -(Q - P))
    have p2 := Int.mul_nonneg (by omega : 0 ≤ x2 - x) (by omega : 0 ≤ -(Q - P))
    rw [Int.mul_neg] at p1 p2
    exact .inr ⟨by omega, by omega⟩
theorem fc_mono {n m D : Int} (hD : 1 ≤ D) (h : n ≤ m) : n / D ≤ m / D ∧ -(-n / D) ≤ -(-m / D) := by
  have h1 := Int.ediv_le_ediv (by omega : 0 < D) h
  have h2 := Int.ediv_le_ediv (by omega : 0 < D) (by omega : -m ≤ -n)
  exact ⟨h1, by omega⟩
theorem fc_eq {xs ys : List Int} {vs : List (List Int)} (hT : Tbl xs ys vs) {x y : Int} {i k : Nat} (hx : OnAx xs x) (hy : OnAx ys y) (hi : i + 2 ≤ xs.length) (hk : k + 2 ≤ ys.length) (x1 : xs[i]?.getD 0 ≤ x) (x2 : x ≤ xs[i+1]?.getD 0) (y1 : ys[k]?.getD 0 ≤ y) (y2 : y ≤ ys[k+1]?.getD 0) :
    flo xs ys vs x y = nX xs ys vs i k x y / dX xs ys i k ∧ cei xs ys vs x y = -(-(nX xs ys vs i k x y) / dX xs ys i k) := by
  have hv := val_any hT hi hk x1 x2 y1 y2
  have hb := at_bd hT hx hy
  have hd := dX_pos hT.ax hT.ay hi hk
  exact ⟨floor_cross hb.1 hd hv, ceil_cross hb.1 hd hv⟩
theorem onAx_in {l : List Int} (h : Axis l) {i : Nat} (hi : i + 2 ≤ l.length) {x : Int} (h1 : l[i]?.getD 0 ≤ x) (h2 : x ≤ l[i+1]?.getD 0) : OnAx l x :=
  ⟨by have := h.mono 0 i (by omega) (by omega); omega, by have := h.mono (i + 1) (l.length - 1) (by omega) (by omega); omega⟩
/-- a value lies between those at four stops around it -/
theorem inside {xs ys : List Int} {vs : List (List Int)} (hT : Tbl xs ys vs) {X Y : Int × Int} {x y L H : Int} (a1 : xs[0]?.getD 0 ≤ X.1) (a2 : X.2 ≤ xs[xs.length-1]?.getD 0) (a3 : X.1 ≤ x) (a4 : x ≤ X.2) (b1 : ys[0]?.getD 0 ≤ Y.1) (b2 : Y.2 ≤ ys[ys.length-1]?.getD 0) (b3 : Y.1 ≤ y) (b4 : y ≤ Y.2)
    (hall : ∀ u ∈ stopsL xs X.1 X.2, ∀ v ∈ stopsL ys Y.1 Y.2, L ≤ flo xs ys vs u v ∧ cei xs ys vs u v ≤ H) : L ≤ flo xs ys vs x y ∧ cei xs ys vs x y ≤ H := by
  obtain ⟨i, x1, x2, hi, hx1, hx2, c1, c2, c3, c4⟩ := stops_near hT.ax a1 a2 a3 a4
  obtain ⟨k, y1, y2, hk, hy1, hy2, d1, d2, d3, d4⟩ := stops_near hT.ay b1 b2 b3 b4
  have hD := dX_pos hT.ax hT.ay hi hk
  have val : ∀ u v, xs[i]?.getD 0 ≤ u → u ≤ xs[i+1]?.getD 0 → ys[k]?.getD 0 ≤ v → v ≤ ys[k+1]?.getD 0 → flo xs ys vs u v = nX xs ys vs i k u v / dX xs ys i k ∧ cei xs ys vs u v = -(-(nX xs ys vs i k u v) / dX xs ys i k) :=
    fun u v p1 p2 p3 p4 => fc_eq hT (onAx_in hT.ax hi p1 p2) (onAx_in hT.ay hk p3 p4) hi hk p1 p2 p3 p4
  have hx : ∀ v, (nX xs ys vs i k x1 v ≤ nX xs ys vs i k x v ∧ nX xs ys vs i k x v ≤ nX xs ys vs i k x2 v) ∨ (nX xs ys vs i k x2 v ≤ nX xs ys vs i k x v ∧ nX xs ys vs i k x v ≤ nX xs ys vs i k x1 v) := fun v => by
    have e : ∀ z, nX xs ys vs i k z v = (xs[i+1]?.getD 0 - z) * ((ys[k+1]?.getD 0 - v) * ((vs[i]?.getD [])[k]?.getD 0) + (v - ys[k]?.getD 0) * ((vs[i]?.getD [])[k+1]?.getD 0)) + (z - xs[i]?.getD 0) * ((ys[k+1]?.getD 0 - v) * ((vs[i+1]?.getD [])[k]?.getD 0) + (v - ys[k]?.getD 0) * ((vs[i+1]?.getD [])[k+1]?.getD 0)) := fun z => by
      unfold nX numF; grind
    rw [e, e, e]
    exact lin c2 c3
  have hy : ∀ u, (nX xs ys vs i k u y1 ≤ nX xs ys vs i k u y ∧ nX xs ys vs i k u y ≤ nX xs ys vs i k u y2) ∨ (nX xs ys vs i k u y2 ≤ nX xs ys vs i k u y ∧ nX xs ys vs i k u y ≤ nX xs ys vs i k u y1) := fun u => by
    have e : ∀ z, nX xs ys vs i k u z = (ys[k+1]?.getD 0 - z) * ((xs[i+1]?.getD 0 - u) * ((vs[i]?.getD [])[k]?.getD 0) + (u - xs[i]?.getD 0) * ((vs[i+1]?.getD [])[k]?.getD 0)) + (z - ys[k]?.getD 0) * ((xs[i+1]?.getD 0 - u) * ((vs[i]?.getD [])[k+1]?.getD 0) + (u - xs[i]?.getD 0) * ((vs[i+1]?.getD [])[k+1]?.getD 0)) := fun z => by
      unfold nX numF; grind
    rw [e, e, e]
    exact lin d2 d3
  have at4 : ∀ u v, u ∈ stopsL xs X.1 X.2 → v ∈ stopsL ys Y.1 Y.2 → xs[i]?.getD 0 ≤ u → u ≤ xs[i+1]?.getD 0 → ys[k]?.getD 0 ≤ v → v ≤ ys[k+1]?.getD 0 → L ≤ nX xs ys vs i k u v / dX xs ys i k ∧ -(-(nX xs ys vs i k u v) / dX xs ys i k) ≤ H := fun u v hu hv p1 p2 p3 p4 => by
    have := hall u hu v hv
    rwa [(val u v p1 p2 p3 p4).1, (val u v p1 p2 p3 p4).2] at this
  have row : ∀ u, u ∈ stopsL xs X.1 X.2 → xs[i]?.getD 0 ≤ u → u ≤ xs[i+1]?.getD 0 → L ≤ nX xs ys vs i k u y / dX xs ys i k ∧ -(-(nX xs ys vs i k u y) / dX xs ys i k) ≤ H := fun u hu p1 p2 => by
    have q1 := at4 u y1 hu hy1 p1 p2 d1 (by omega)
    have q2 := at4 u y2 hu hy2 p1 p2 (by omega) d4
    rcases hy u with ⟨r1, r2⟩ | ⟨r1, r2⟩
    · have s1 := fc_mono hD r1; have s2 := fc_mono hD r2; omega
    · have s1 := fc_mono hD r1; have s2 := fc_mono hD r2; omega
  rw [(val x y (by omega) (by omega) (by omega) (by omega)).1, (val x y (by omega) (by omega) (by omega) (by omega)).2]
  have q1 := row x1 hx1 c1 (by omega)
  have q2 := row x2 hx2 (by omega) c4
  rcases hx y with ⟨r1, r2⟩ | ⟨r1, r2⟩
  · have s1 := fc_mono hD r1; have s2 := fc_mono hD r2; omega
  · have s1 := fc_mono hD r1; have s2 := fc_mono hD r2; omega
end Go.Proofs.Ytfaiogajaaclcaa
/- The ends of a bound: no value at a point of the box is beyond them, and each is one. In numbers; no conditions. -/
namespace Go.Proofs.Ytfaiogajaaclcaa

theorem stepE_low (l p : Pt) : (if cmpV p.n p.d l.n l.d < 0 then p else l).n / (if cmpV p.n p.d l.n l.d < 0 then p else l).d ≤ l.n / l.d ∧ (if cmpV p.n p.d l.n l.d < 0 then p else l).n / (if cmpV p.n p.d l.n l.d < 0 then p else l).d ≤ p.n / p.d := by
  rw [← step_low l p, mn_eq]; omega
theorem stepE_top (m p : Pt) : -(-m.n / m.d) ≤ -(-(if 0 < cmpV p.n p.d m.n m.d then p else m).n / (if 0 < cmpV p.n p.d m.n m.d then p else m).d) ∧ -(-p.n / p.d) ≤ -(-(if 0 < cmpV p.n p.d m.n m.d then p else m).n / (if 0 < cmpV p.n p.d m.n m.d then p else m).d) := by
  rw [← step_top m p, mx_eq]; omega
theorem fold_ext : ∀ (ps : List Pt) (l0 m0 l m : Pt), ps.foldl stepE (some (l0, m0)) = some (l, m) →
    (l = l0 ∨ l ∈ ps) ∧ (m = m0 ∨ m ∈ ps) ∧ l.n / l.d ≤ l0.n / l0.d ∧ -(-m0.n / m0.d) ≤ -(-m.n / m.d) ∧ ∀ p ∈ ps, l.n / l.d ≤ p.n / p.d ∧ -(-p.n / p.d) ≤ -(-m.n / m.d)
  | [], l0, m0, l, m, h => by
    simp only [List.foldl_nil, Option.some.injEq, Prod.mk.injEq] at h
    obtain ⟨rfl, rfl⟩ := h
    exact ⟨.inl rfl, .inl rfl, by omega, by omega, by simp⟩
  | q :: ps, l0, m0, l, m, h => by
    rw [List.foldl_cons, stepE_some] at h
    obtain ⟨h1, h2, h3, h4, h5⟩ := fold_ext ps _ _ l m h
    have a := stepE_low l0 q
    have b := stepE_top m0 q
    refine ⟨?_, ?_, by omega, by omega, fun p hp => ?_⟩
    · rcases h1 with h1 | h1
      · by_cases c : cmpV q.n q.d l0.n l0.d < 0
        · rw [if_pos c] at h1; exact .inr (h1 ▸ List.mem_cons_self ..)
        · rw [if_neg c] at h1; exact .inl h1
      · exact .inr (List.mem_cons_of_mem _ h1)
    · rcases h2 with h2 | h2
      · by_cases c : 0 < cmpV q.n q.d m0.n m0.d
        · rw [if_pos c] at h2; exact .inr (h2 ▸ List.mem_cons_self ..)
        · rw [if_neg c] at h2; exact .inl h2
      · exact .inr (List.mem_cons_of_mem _ h2)
    · rcases List.mem_cons.1 hp with rfl | hp
      · exact ⟨by omega, by omega⟩
      · exact h5 p hp
theorem extr_is {ps : List Pt} {l m : Pt} (h : extrE ps = some (l, m)) : l ∈ ps ∧ m ∈ ps ∧ ∀ p ∈ ps, l.n / l.d ≤ p.n / p.d ∧ -(-p.n / p.d) ≤ -(-m.n / m.d) := by
  cases ps with
  | nil => simp [extrE] at h
  | cons q ps =>
    have h' : ps.foldl stepE (some (q, q)) = some (l, m) := h
    obtain ⟨h1, h2, h3, h4, h5⟩ := fold_ext ps q q l m h'
    refine ⟨?_, ?_, fun p hp => ?_⟩
    · rcases h1 with rfl | h1
      · exact List.mem_cons_self ..
      · exact List.mem_cons_of_mem _ h1
    · rcases h2 with rfl | h2
      · exact List.mem_cons_self ..
      · exact List.mem_cons_of_mem _ h2
    · rcases List.mem_cons.1 hp with rfl | hp
      · exact ⟨h3, h4⟩
      · exact h5 p hp
theorem pts_mem {xs ys : List Int} {vs : List (List Int)} {x y : Int × Int} {p : Pt} : p ∈ pts xs ys vs x y ↔ ∃ u ∈ stopsL xs x.1 x.2, ∃ v ∈ stopsL ys y.1 y.2, p = ptAt xs ys vs u v := by
  unfold pts allPts rowPts
  simp only [List.mem_flatMap, List.mem_map]
  constructor
  · rintro ⟨u, hu, v, hv, rfl⟩; exact ⟨u, hu, v, hv, rfl⟩
  · rintro ⟨u, hu, v, hv, rfl⟩; exact ⟨u, hu, v, hv, rfl⟩
theorem stops_in {l : List Int} {lo hi x : Int} (h : lo ≤ hi) (hx : x ∈ stopsL l lo hi) : lo ≤ x ∧ x ≤ hi := by
  unfold stopsL midL at hx
  simp only [List.cons_append, List.mem_cons, List.mem_append, List.mem_filter, Bool.and_eq_true, decide_eq_true_eq] at hx
  rcases hx with rfl | ⟨_, h3, h4⟩ | h5
  · exact ⟨by omega, h⟩
  · omega
  · split at h5
    · simp at h5; omega
    · simp at h5
/-- what a bound is -/
structure BndIs (xs ys : List Int) (vs : List (List Int)) (x y b : Int × Int) : Prop where
  all : ∀ u v, x.1 ≤ u → u ≤ x.2 → y.1 ≤ v → v ≤ y.2 → b.1 ≤ flo xs ys vs u v ∧ cei xs ys vs u v ≤ b.2
  low : ∃ u v, x.1 ≤ u ∧ u ≤ x.2 ∧ y.1 ≤ v ∧ v ≤ y.2 ∧ flo xs ys vs u v = b.1
  top : cei xs ys vs (wst xs ys vs x y).1 (wst xs ys vs x y).2 = b.2 ∧ x.1 ≤ (wst xs ys vs x y).1 ∧ (wst xs ys vs x y).1 ≤ x.2 ∧ y.1 ≤ (wst xs ys vs x y).2 ∧ (wst xs ys vs x y).2 ≤ y.2
theorem bnd_is {xs ys : List Int} {vs : List (List Int)} {x y : Int × Int} (hO : OnT xs ys vs x y) : BndIs xs ys vs x y (bnd xs ys vs x y) := by
  obtain ⟨l, m, hlm⟩ := extrE_ne (pts xs ys vs x y) (allPts_ne xs ys vs x.1 x.2 y.1 y.2)
  obtain ⟨h1, h2, h3⟩ := extr_is hlm
  rw [bnd_eq hlm]
  have val : ∀ u v, u ∈ stopsL xs x.1 x.2 → v ∈ stopsL ys y.1 y.2 → flo xs ys vs u v = (ptAt xs ys vs u v).n / (ptAt xs ys vs u v).d ∧ cei xs ys vs u v = -(-(ptAt xs ys vs u v).n / (ptAt xs ys vs u v).d) ∧ (ptAt xs ys vs u v).x = u ∧ (ptAt xs ys vs u v).y = v := fun u v hu hv => by
    obtain ⟨e1, e2, e3, e4⟩ := ptAt_is (vs := vs) hO.t (OnAx_stops hO.x1 hO.x2 hO.x3 hu) (OnAx_stops hO.y1 hO.y2 hO.y3 hv)
    rw [e1, e2]
    exact ⟨rfl, rfl, e3, e4⟩
  refine ⟨fun u v u1 u2 v1 v2 => ?_, ?_, ?_⟩
  · refine inside hO.t hO.x1 hO.x2 u1 u2 hO.y1 hO.y2 v1 v2 fun a ha b hb => ?_
    obtain ⟨e1, e2, _, _⟩ := val a b ha hb
    rw [e1, e2]
    exact h3 _ (pts_mem.2 ⟨a, ha, b, hb, rfl⟩)
  · obtain ⟨a, ha, b, hb, rfl⟩ := pts_mem.1 h1
    obtain ⟨e1, e2, _, _⟩ := val a b ha hb
    exact ⟨a, b, (stops_in hO.x3 ha).1, (stops_in hO.x3 ha).2, (stops_in hO.y3 hb).1, (stops_in hO.y3 hb).2, e1⟩
  · rw [wst_eq hlm]
    obtain ⟨a, ha, b, hb, rfl⟩ := pts_mem.1 h2
    obtain ⟨e1, e2, e3, e4⟩ := val a b ha hb
    simp only [e3, e4]
    exact ⟨e2, (stops_in hO.x3 ha).1, (stops_in hO.x3 ha).2, (stops_in hO.y3 hb).1, (stops_in hO.y3 hb).2⟩
/-- a part of the box has no wider bound -/
theorem bnd_part {xs ys : List Int} {vs : List (List Int)} {x y x' y' : Int × Int} (hO : OnT xs ys vs x y) (hx1 : x.1 ≤ x'.1) (hx2 : x'.2 ≤ x.2) (hx3 : x'.1 ≤ x'.2) (hy1 : y.1 ≤ y'.1) (hy2 : y'.2 ≤ y.2) (hy3 : y'.1 ≤ y'.2) :
    (bnd xs ys vs x y).1 ≤ (bnd xs ys vs x' y').1 ∧ (bnd xs ys vs x' y').2 ≤ (bnd xs ys vs x y).2 := by
  have hO' : OnT xs ys vs x' y' := ⟨hO.t, by have := hO.x1; omega, by have := hO.x2; omega, hx3, by have := hO.y1; omega, by have := hO.y2; omega, hy3⟩
  have b := bnd_is hO
  have b' := bnd_is hO'
  obtain ⟨u, v, u1, u2, v1, v2, e⟩ := b'.low
  obtain ⟨e2, w1, w2, w3, w4⟩ := b'.top
  have p := (b.all u v (by omega) (by omega) (by omega) (by omega)).1
  have q := (b.all _ _ (by omega : x.1 ≤ (wst xs ys vs x' y').1) (by omega) (by omega : y.1 ≤ (wst xs ys vs x' y').2) (by omega)).2
  rw [e] at p
  rw [e2] at q
  exact ⟨p, q⟩
end Go.Proofs.Ytfaiogajaaclcaa
/- The law of the values inside a bound. No conditions. -/
set_option linter.unusedSimpArgs false
set_option linter.unusedVariables false
namespace Go.Proofs.Ytfaiogajaaclcaa
open Go.RowKit Lift

/-- what a box on a table has -/
theorem bd_zero {xs ys : List Int} {vs : List (List Int)} {x y : Int × Int} (h : cpErr xs ys vs x y = 0) : tabB xs ys vs = true ∧ vB x = true ∧ vB y = true := by
  unfold cpErr at h
  by_cases ht : tabB xs ys vs = true
  · rw [if_pos ht, spErr2] at h
    cases hx : vB x <;> cases hy : vB y <;> rw [hx, hy] at h <;> simp at h
    exact ⟨ht, rfl, rfl⟩
  · rw [if_neg ht] at h; omega
theorem cp_of {xs ys : List Int} {vs : List (List Int)} {x y : Int × Int} (ht : tabB xs ys vs = true) (hx : vB x = true) (hy : vB y = true) (lx : liesB xs x = true) (ly : liesB ys y = true) : cpErr xs ys vs x y = 0 := by
  unfold cpErr
  rw [if_pos ht, spErr2, hx, hy, lx, ly]
  rfl
set_option maxRecDepth 100000 in
set_option maxHeartbeats 1000000 in
theorem lawInside_ac (xs ys : List Int) (vs : List (List Int)) (X Y : Int × Int) (n0 n1 n2 n3 n4 n5 : Int) (hS : TSm xs ys vs) :
    AC Try.prog 9 [tabD xs ys vs, .agg [dI X.1, dI X.2, dI Y.1, dI Y.2, dI n0, dI n1, dI n2, dI n3, dI n4, dI n5]] [] [] (dB true) := by
  refine klaw01_SpansInside.ac (n0 := 0) (by simp) ⟨in_tab' _ _ _, .agg _ (by intro d hd; simp at hd; rcases hd with rfl | rfl | rfl | rfl | rfl | rfl | rfl | rfl | rfl | rfl <;> exact .val _), trivial⟩ trivial rfl ?_
  unfold claw01_SpansInside tabD
  have fa := far_ac hS
  have cb := rcb_ac X Y hS
  cases hf : farB xs ys vs with
  | true =>
    rw [hf] at fa
    (have hg : (987654321 : Nat) - 987654321 = 0 := rfl; have hr := hg; repeat' (first | refine aw_seq ?_ | (refine aw_skip ?_; repeat' (first | with_reducible refine thenQ_n ?_ | with_reducible refine blockQ_n ?_ | with_reducible refine thenQ_e ?_ | with_reducible refine blockQ_t ?_ | with_reducible refine blockQ_f (by decide) ?_)) | (refine aw_exit ?_; repeat' (first | with_reducible refine thenQ_n ?_ | with_reducible refine blockQ_n ?_ | with_reducible refine thenQ_e ?_ | with_reducible refine blockQ_t ?_ | with_reducible refine blockQ_f (by decide) ?_)) | refine aw_ret ?_ | refine aw_block ?_ | refine aw_condT rfl ?_ | refine aw_condF rfl ?_ | (refine aw_cond rfl (fun hg => ?_) (fun hg => ?_) <;> (try (have hq := hg; simp only [Bool.not_eq_true', Bool.not_eq_false', Bool.and_eq_true, Bool.and_eq_false_iff, Bool.or_eq_true, Bool.or_eq_false_iff, decide_eq_true_eq, decide_eq_false_iff_not, bne_iff_ne, beq_iff_eq, beq_eq_false_iff_ne, bne_eq_false_iff_eq, ne_eq, Int.not_lt, Int.not_le, Decidable.not_not] at hq)) <;> (try (have hr := hg; simp only [decide_eq_true_eq, decide_eq_false_iff_not] at hr)) <;> (try (exfalso; omega))) | (refine ag_bool (fun hg => ?_) (fun hg => ?_) <;> (try (have hq := hg; simp only [Bool.not_eq_true', Bool.not_eq_false', Bool.and_eq_true, Bool.and_eq_false_iff, Bool.or_eq_true, Bool.or_eq_false_iff, decide_eq_true_eq, decide_eq_false_iff_not, bne_iff_ne, beq_iff_eq, beq_eq_false_iff_ne, bne_eq_false_iff_eq, ne_eq, Int.not_lt, Int.not_le, Decidable.not_not] at hq)) <;> (try (have hr := hg; simp only [decide_eq_true_eq, decide_eq_false_iff_not] at hr)) <;> (try (exfalso; omega)) <;> simp (config := {maxSteps := 10000000}) (disch := first | exact okYes (by kernel_rfl) | omega) only [ARun_nil, ARun_none, ARun_some, ARun_skip, AOpRun, AGo_f, AGo_ok, AG_tt, AG_ff, AG_tf, AG_ft, AG_un, aexec, run1, asI, elems, base, opt1, fillD, splice, abin, ash, isSh, foldI, mn2, mx2, ↓eget_h, eget_c, eget_n, eput_c, eput_n, putO, ↓hget_h, hget_c, hget_n, hput_c, hput_n, hdel_c, hdel_n, hups, cond_true, cond_false,  ups, St.F, St.app, FSt.ev, dropE_c, dropE_n, inL_c, inL_n, envOf, thenQ, blockQ, D.isBot, D.isAgg, D.cells, D.leaf, scalarEq, eqCells, isB, Option.map, List.map, List.length, List.all, List.append, List.take, List.drop, List.cons_append, List.nil_append, List.append_nil, Option.isSome, List.getElem?_cons_zero, List.getElem?_cons_succ, if_true, if_false, true_and, and_true, Bool.not_true, Bool.not_false, Bool.true_or, Bool.false_or, Bool.or_true, Bool.or_false, Bool.false_eq_true, ↓reduceIte, Nat.reduceAdd, Nat.reduceMul, Nat.reduceEqDiff, Nat.reduceBEq, Nat.reduceSub, Nat.zero_add, Nat.reduceLeDiff, Nat.reduceGT, Nat.reduceLT, Nat.reduceBNe, okLog_f, reduceCtorEq, or_self, or_false, false_or, or_true, true_or, and_self, and_false, false_and, not_true_eq_false, not_false_eq_true, ne_eq, Bool.and_true, Bool.true_and, Bool.and_false, Bool.false_and, decide_eq_true_eq, decide_true, decide_false, Int.reduceBEq, Int.reduceBNe, Int.reduceLT, Int.reduceLE, Int.reduceAdd, Int.reduceSub, Int.reduceMul, Int.reduceNeg, Int.reduceEq, Int.toNat_zero, Int.reduceToNat, Int.zero_lt_one, Nat.zero_le, Int.le_refl, beq_self_eq_true, bne_self_eq_false, cast_lit, fits, wrap_in, Int.toNat_natCast, Int.natCast_nonneg, dI, dB, spD, hg, hr]) | ((first | refine aw_hide fun K hK => aw_region ?_ | refine acall0 (fa) ?_ | refine acall0 (works_ac) ?_ | refine ago_if (by omega) ?_ | skip); simp (config := {maxSteps := 10000000}) (disch := first | exact okYes (by kernel_rfl) | omega) only [ARun_nil, ARun_none, ARun_some, ARun_skip, AOpRun, AGo_f, AGo_ok, AG_tt, AG_ff, AG_tf, AG_ft, AG_un, aexec, run1, asI, elems, base, opt1, fillD, splice, abin, ash, isSh, foldI, mn2, mx2, ↓eget_h, eget_c, eget_n, eput_c, eput_n, putO, ↓hget_h, hget_c, hget_n, hput_c, hput_n, hdel_c, hdel_n, hups, cond_true, cond_false,  ups, St.F, St.app, FSt.ev, dropE_c, dropE_n, inL_c, inL_n, envOf, thenQ, blockQ, D.isBot, D.isAgg, D.cells, D.leaf, scalarEq, eqCells, isB, Option.map, List.map, List.length, List.all, List.append, List.take, List.drop, List.cons_append, List.nil_append, List.append_nil, Option.isSome, List.getElem?_cons_zero, List.getElem?_cons_succ, if_true, if_false, true_and, and_true, Bool.not_true, Bool.not_false, Bool.true_or, Bool.false_or, Bool.or_true, Bool.or_false, Bool.false_eq_true, ↓reduceIte, Nat.reduceAdd, Nat.reduceMul, Nat.reduceEqDiff, Nat.reduceBEq, Nat.reduceSub, Nat.zero_add, Nat.reduceLeDiff, Nat.reduceGT, Nat.reduceLT, Nat.reduceBNe, okLog_f, reduceCtorEq, or_self, or_false, false_or, or_true, true_or, and_self, and_false, false_and, not_true_eq_false, not_false_eq_true, ne_eq, Bool.and_true, Bool.true_and, Bool.and_false, Bool.false_and, decide_eq_true_eq, decide_true, decide_false, Int.reduceBEq, Int.reduceBNe, Int.reduceLT, Int.reduceLE, Int.reduceAdd, Int.reduceSub, Int.reduceMul, Int.reduceNeg, Int.reduceEq, Int.toNat_zero, Int.reduceToNat, Int.zero_lt_one, Nat.zero_le, Int.le_refl, beq_self_eq_true, bne_self_eq_false, cast_lit, fits, wrap_in, Int.toNat_natCast, Int.natCast_nonneg, dI, dB, spD, hg, hr]) | (subst hK; repeat' (first | with_reducible refine thenQ_n ?_ | with_reducible refine blockQ_n ?_ | with_reducible refine thenQ_e ?_ | with_reducible refine blockQ_t ?_ | with_reducible refine blockQ_f (by decide) ?_))))
    all_goals (refine end_to [] [] (by first | exact .inl rfl | exact .inr rfl) rfl (by kernel_rfl) (by kernel_rfl) (by kernel_rfl) ?_ ?_ <;> repeat' (first | exact trivial | exact vr_val _ | exact vr_list _ | exact vr_at _ | exact vr_nil | exact vr_cap0 | exact vr_vec _ _ _ _ rfl | exact vr_own _ _ _ _ _ rfl | exact vr_ptr _ _ _ rfl | exact vr_nilv _ _ _ rfl | exact vr_bot _ | exact vr_cap0v _ _ _ rfl | exact vr_cap0l | apply vr_agg | apply vr_tup | apply vr_fn | refine vr_yld _ _ _ rfl ?_ | exact Ren.bot _ | exact Ren.val _ | exact Ren.list _ | exact Ren.at_ _ | exact Ren.ptr _ _ _ rfl | refine Ren.yld _ _ _ _ _ rfl rfl (RenL.get ?_).2 (fun _ _ _ h => h) | refine vr_fl _ _ _ _ _ (by decide) rfl ?_ ?_ ?_ ?_ | refine And.intro ⟨_, rfl, .inl ⟨_, rfl, by decide, ?_⟩⟩ ?_ | refine And.intro ⟨_, rfl, _, rfl, by decide, ?_⟩ ?_ | refine And.intro ⟨_, rfl, .inr ⟨rfl, rfl, of_decide_eq_true (by kernel_rfl)⟩⟩ ?_ | apply And.intro | refine vr_valq ?_ | refine vr_listq ?_ | exact vrl_flat _ (by first | exact icells_in _ | exact rcells_in _ | exact scells_in _ | exact bcells_in _ | assumption)))
  | false =>
  rw [hf] at fa
  by_cases hc : cpErr xs ys vs X Y = 0
  case neg =>
    (have hg : (987654321 : Nat) - 987654321 = 0 := rfl; have hr := hg; repeat' (first | refine aw_seq ?_ | (refine aw_skip ?_; repeat' (first | with_reducible refine thenQ_n ?_ | with_reducible refine blockQ_n ?_ | with_reducible refine thenQ_e ?_ | with_reducible refine blockQ_t ?_ | with_reducible refine blockQ_f (by decide) ?_)) | (refine aw_exit ?_; repeat' (first | with_reducible refine thenQ_n ?_ | with_reducible refine blockQ_n ?_ | with_reducible refine thenQ_e ?_ | with_reducible refine blockQ_t ?_ | with_reducible refine blockQ_f (by decide) ?_)) | refine aw_ret ?_ | refine aw_block ?_ | refine aw_condT rfl ?_ | refine aw_condF rfl ?_ | (refine aw_cond rfl (fun hg => ?_) (fun hg => ?_) <;> (try (have hq := hg; simp only [Bool.not_eq_true', Bool.not_eq_false', Bool.and_eq_true, Bool.and_eq_false_iff, Bool.or_eq_true, Bool.or_eq_false_iff, decide_eq_true_eq, decide_eq_false_iff_not, bne_iff_ne, beq_iff_eq, beq_eq_false_iff_ne, bne_eq_false_iff_eq, ne_eq, Int.not_lt, Int.not_le, Decidable.not_not] at hq)) <;> (try (have hr := hg; simp only [decide_eq_true_eq, decide_eq_false_iff_not] at hr)) <;> (try (exfalso; omega))) | (refine ag_bool (fun hg => ?_) (fun hg => ?_) <;> (try (have hq := hg; simp only [Bool.not_eq_true', Bool.not_eq_false', Bool.and_eq_true, Bool.and_eq_false_iff, Bool.or_eq_true, Bool.or_eq_false_iff, decide_eq_true_eq, decide_eq_false_iff_not, bne_iff_ne, beq_iff_eq, beq_eq_false_iff_ne, bne_eq_false_iff_eq, ne_eq, Int.not_lt, Int.not_le, Decidable.not_not] at hq)) <;> (try (have hr := hg; simp only [decide_eq_true_eq, decide_eq_false_iff_not] at hr)) <;> (try (exfalso; omega)) <;> simp (config := {maxSteps := 10000000}) (disch := first | exact okYes (by kernel_rfl) | omega) only [ARun_nil, ARun_none, ARun_some, ARun_skip, AOpRun, AGo_f, AGo_ok, AG_tt, AG_ff, AG_tf, AG_ft, AG_un, aexec, run1, asI, elems, base, opt1, fillD, splice, abin, ash, isSh, foldI, mn2, mx2, ↓eget_h, eget_c, eget_n, eput_c, eput_n, putO, ↓hget_h, hget_c, hget_n, hput_c, hput_n, hdel_c, hdel_n, hups, cond_true, cond_false,  ups, St.F, St.app, FSt.ev, dropE_c, dropE_n, inL_c, inL_n, envOf, thenQ, blockQ, D.isBot, D.isAgg, D.cells, D.leaf, scalarEq, eqCells, isB, Option.map, List.map, List.length, List.all, List.append, List.take, List.drop, List.cons_append, List.nil_append, List.append_nil, Option.isSome, List.getElem?_cons_zero, List.getElem?_cons_succ, if_true, if_false, true_and, and_true, Bool.not_true, Bool.not_false, Bool.true_or, Bool.false_or, Bool.or_true, Bool.or_false, Bool.false_eq_true, ↓reduceIte, Nat.reduceAdd, Nat.reduceMul, Nat.reduceEqDiff, Nat.reduceBEq, Nat.reduceSub, Nat.zero_add, Nat.reduceLeDiff, Nat.reduceGT, Nat.reduceLT, Nat.reduceBNe, okLog_f, reduceCtorEq, or_self, or_false, false_or, or_true, true_or, and_self, and_false, false_and, not_true_eq_false, not_false_eq_true, ne_eq, Bool.and_true, Bool.true_and, Bool.and_false, Bool.false_and, decide_eq_true_eq, decide_true, decide_false, Int.reduceBEq, Int.reduceBNe, Int.reduceLT, Int.reduceLE, Int.reduceAdd, Int.reduceSub, Int.reduceMul, Int.reduceNeg, Int.reduceEq, Int.toNat_zero, Int.reduceToNat, Int.zero_lt_one, Nat.zero_le, Int.le_refl, beq_self_eq_true, bne_self_eq_false, cast_lit, fits, wrap_in, Int.toNat_natCast, Int.natCast_nonneg, dI, dB, spD, hg, hr]) | ((first | refine aw_hide fun K hK => aw_region ?_ | refine acall0 (fa) ?_ | refine acall0 (cb) ?_ | refine acall0 (works_ac) ?_ | refine ago_if (by omega) ?_ | skip); simp (config := {maxSteps := 10000000}) (disch := first | exact okYes (by kernel_rfl) | omega) only [ARun_nil, ARun_none, ARun_some, ARun_skip, AOpRun, AGo_f, AGo_ok, AG_tt, AG_ff, AG_tf, AG_ft, AG_un, aexec, run1, asI, elems, base, opt1, fillD, splice, abin, ash, isSh, foldI, mn2, mx2, ↓eget_h, eget_c, eget_n, eput_c, eput_n, putO, ↓hget_h, hget_c, hget_n, hput_c, hput_n, hdel_c, hdel_n, hups, cond_true, cond_false,  ups, St.F, St.app, FSt.ev, dropE_c, dropE_n, inL_c, inL_n, envOf, thenQ, blockQ, D.isBot, D.isAgg, D.cells, D.leaf, scalarEq, eqCells, isB, Option.map, List.map, List.length, List.all, List.append, List.take, List.drop, List.cons_append, List.nil_append, List.append_nil, Option.isSome, List.getElem?_cons_zero, List.getElem?_cons_succ, if_true, if_false, true_and, and_true, Bool.not_true, Bool.not_false, Bool.true_or, Bool.false_or, Bool.or_true, Bool.or_false, Bool.false_eq_true, ↓reduceIte, Nat.reduceAdd, Nat.reduceMul, Nat.reduceEqDiff, Nat.reduceBEq, Nat.reduceSub, Nat.zero_add, Nat.reduceLeDiff, Nat.reduceGT, Nat.reduceLT, Nat.reduceBNe, okLog_f, reduceCtorEq, or_self, or_false, false_or, or_true, true_or, and_self, and_false, false_and, not_true_eq_false, not_false_eq_true, ne_eq, Bool.and_true, Bool.true_and, Bool.and_false, Bool.false_and, decide_eq_true_eq, decide_true, decide_false, Int.reduceBEq, Int.reduceBNe, Int.reduceLT, Int.reduceLE, Int.reduceAdd, Int.reduceSub, Int.reduceMul, Int.reduceNeg, Int.reduceEq, Int.toNat_zero, Int.reduceToNat, Int.zero_lt_one, Nat.zero_le, Int.le_refl, beq_self_eq_true, bne_self_eq_false, cast_lit, fits, wrap_in, Int.toNat_natCast, Int.natCast_nonneg, dI, dB, spD, hg, hr]) | (subst hK; repeat' (first | with_reducible refine thenQ_n ?_ | with_reducible refine blockQ_n ?_ | with_reducible refine thenQ_e ?_ | with_reducible refine blockQ_t ?_ | with_reducible refine blockQ_f (by decide) ?_))))
    all_goals (refine end_to [] [] (by first | exact .inl rfl | exact .inr rfl) rfl (by kernel_rfl) (by kernel_rfl) (by kernel_rfl) ?_ ?_ <;> repeat' (first | exact trivial | exact vr_val _ | exact vr_list _ | exact vr_at _ | exact vr_nil | exact vr_cap0 | exact vr_vec _ _ _ _ rfl | exact vr_own _ _ _ _ _ rfl | exact vr_ptr _ _ _ rfl | exact vr_nilv _ _ _ rfl | exact vr_bot _ | exact vr_cap0v _ _ _ rfl | exact vr_cap0l | apply vr_agg | apply vr_tup | apply vr_fn | refine vr_yld _ _ _ rfl ?_ | exact Ren.bot _ | exact Ren.val _ | exact Ren.list _ | exact Ren.at_ _ | exact Ren.ptr _ _ _ rfl | refine Ren.yld _ _ _ _ _ rfl rfl (RenL.get ?_).2 (fun _ _ _ h => h) | refine vr_fl _ _ _ _ _ (by decide) rfl ?_ ?_ ?_ ?_ | refine And.intro ⟨_, rfl, .inl ⟨_, rfl, by decide, ?_⟩⟩ ?_ | refine And.intro ⟨_, rfl, _, rfl, by decide, ?_⟩ ?_ | refine And.intro ⟨_, rfl, .inr ⟨rfl, rfl, of_decide_eq_true (by kernel_rfl)⟩⟩ ?_ | apply And.intro | refine vr_valq ?_ | refine vr_listq ?_ | exact vrl_flat _ (by first | exact icells_in _ | exact rcells_in _ | exact scells_in _ | exact bcells_in _ | assumption)))
  rw [hc] at cb
  obtain ⟨⟨s1, s2, s3⟩, s4⟩ := farB_no hf
  have hZ := tsz_no hf
  have hO := cp_zero hc
  obtain ⟨ht, vx, vy⟩ := bd_zero hc
  have vX := vB_iff.1 vx
  have vY := vB_iff.1 vy
  have cp := rcopy_ac xs ys vs s1 s2 s3 s4
  have B := bnd_is hO
  have bo := bound_ac X Y hZ
  have bE : boundR xs ys vs X Y = (bnd xs ys vs X Y, 0) := by unfold boundR; rw [hc]; rfl
  rw [bE] at bo
  have wo := worst_ac X Y hZ
  have wE : worstR xs ys vs X Y = (wst xs ys vs X Y, 0) := by unfold worstR; rw [hc]; rfl
  rw [wE] at wo
  have ax1 := hO.x1; have ax2 := hO.x2; have ay1 := hO.y1; have ay2 := hO.y2
  have atE : ∀ u v, X.1 ≤ u → u ≤ X.2 → Y.1 ≤ v → v ≤ Y.2 → atR xs ys vs u v = ((flo xs ys vs u v, cei xs ys vs u v), 0) := fun u v u1 u2 v1 v2 => by
    have l1 : liesB xs (u, u) = true := liesB_iff.2 ⟨by simp only; omega, by simp only; omega⟩
    have l2 : liesB ys (v, v) = true := liesB_iff.2 ⟨by simp only; omega, by simp only; omega⟩
    unfold atR
    rw [if_pos ht, l1, l2]
    rfl
  have i0 := inSp_bd n0 X.1 X.2 vX.2.1
  have i1 := inSp_bd n1 Y.1 Y.2 vY.2.1
  have i2 := inSp_bd n2 X.1 X.2 vX.2.1
  have i3 := inSp_bd n3 X.1 X.2 vX.2.1
  have i4 := inSp_bd n4 Y.1 Y.2 vY.2.1
  have i5 := inSp_bd n5 Y.1 Y.2 vY.2.1
  have w0 := lwithin_ac n0 X (by omega) (by omega) (by omega)
  have w1 := lwithin_ac n1 Y (by omega) (by omega) (by omega)
  have w2 := lwithin_ac n2 X (by omega) (by omega) (by omega)
  have w3 := lwithin_ac n3 X (by omega) (by omega) (by omega)
  have w4 := lwithin_ac n4 Y (by omega) (by omega) (by omega)
  have w5 := lwithin_ac n5 Y (by omega) (by omega) (by omega)
  generalize inSp n0 X.1 X.2 = p0 at *
  generalize inSp n1 Y.1 Y.2 = p1 at *
  generalize inSp n2 X.1 X.2 = p2 at *
  generalize inSp n3 X.1 X.2 = p3 at *
  generalize inSp n4 Y.1 Y.2 = p4 at *
  generalize inSp n5 Y.1 Y.2 = p5 at *
  have a0 := at_ac' (xs := xs) (ys := ys) (vs := vs) p0 p1 hS hZ
  rw [atE p0 p1 (by omega) (by omega) (by omega) (by omega)] at a0
  have b0 := B.all p0 p1 (by omega) (by omega) (by omega) (by omega)
  obtain ⟨t1, t2, t3, t4, t5⟩ := B.top
  have a1 := at_ac' (xs := xs) (ys := ys) (vs := vs) (wst xs ys vs X Y).1 (wst xs ys vs X Y).2 hS hZ
  rw [atE _ _ t2 t3 t4 t5, t1] at a1
  obtain ⟨q1, hq1⟩ : ∃ z : Int, z = (if p3 < p2 then p3 else p2) := ⟨_, rfl⟩
  obtain ⟨q2, hq2⟩ : ∃ z : Int, z = (if p3 > p2 then p3 else p2) := ⟨_, rfl⟩
  obtain ⟨q3, hq3⟩ : ∃ z : Int, z = (if p5 < p4 then p5 else p4) := ⟨_, rfl⟩
  obtain ⟨q4, hq4⟩ : ∃ z : Int, z = (if p5 > p4 then p5 else p4) := ⟨_, rfl⟩
  have r1 : X.1 ≤ q1 ∧ q1 ≤ q2 ∧ q2 ≤ X.2 := by rw [hq1, hq2]; split <;> split <;> omega
  have r2 : Y.1 ≤ q3 ∧ q3 ≤ q4 ∧ q4 ≤ Y.2 := by rw [hq3, hq4]; split <;> split <;> omega
  have cS : cpErr xs ys vs (q1, q2) (q3, q4) = 0 := cp_of ht (vB_iff.2 ⟨by simp only; omega, by simp only; omega, by simp only; omega⟩) (vB_iff.2 ⟨by simp only; omega, by simp only; omega, by simp only; omega⟩) (liesB_iff.2 ⟨by simp only; omega, by simp only; omega⟩) (liesB_iff.2 ⟨by simp only; omega, by simp only; omega⟩)
  have bs := bound_ac (q1, q2) (q3, q4) hZ
  have bF : boundR xs ys vs (q1, q2) (q3, q4) = (bnd xs ys vs (q1, q2) (q3, q4), 0) := by unfold boundR; rw [cS]; rfl
  rw [bF] at bs
  have pt := bnd_part (x' := (q1, q2)) (y' := (q3, q4)) hO r1.1 r1.2.2 r1.2.1 r2.1 r2.2.2 r2.2.1
  have h1 := hq1.symm; have h2 := hq2.symm; have h3 := hq3.symm; have h4 := hq4.symm
  generalize flo xs ys vs p0 p1 = f0 at *
  generalize cei xs ys vs p0 p1 = c0 at *
  generalize bnd xs ys vs X Y = b at *
  generalize bnd xs ys vs (q1, q2) (q3, q4) = b' at *
  generalize flo xs ys vs (wst xs ys vs X Y).1 (wst xs ys vs X Y).2 = f1 at *
  generalize wst xs ys vs X Y = uv at *
  have d1 : decide (f0 < b.1) = false := decide_eq_false (by omega)
  have d2 : decide (c0 > b.2) = false := decide_eq_false (by omega)
  have d3 : decide (uv.1 < X.1) = false := decide_eq_false (by omega)
  have d4 : decide (uv.1 > X.2) = false := decide_eq_false (by omega)
  have d5 : decide (uv.2 < Y.1) = false := decide_eq_false (by omega)
  have d6 : decide (uv.2 > Y.2) = false := decide_eq_false (by omega)
  have d7 : decide (b'.1 ≥ b.1) = true := decide_eq_true (by omega)
  have d8 : decide (b'.2 ≤ b.2) = true := decide_eq_true (by omega)
  clear hq1 hq2 hq3 hq4 B atE t1 bE wE hO cS bF
  (have hg : (987654321 : Nat) - 987654321 = 0 := rfl; have hr := hg; repeat' (first | refine aw_seq ?_ | (refine aw_skip ?_; repeat' (first | with_reducible refine thenQ_n ?_ | with_reducible refine blockQ_n ?_ | with_reducible refine thenQ_e ?_ | with_reducible refine blockQ_t ?_ | with_reducible refine blockQ_f (by decide) ?_)) | (refine aw_exit ?_; repeat' (first | with_reducible refine thenQ_n ?_ | with_reducible refine blockQ_n ?_ | with_reducible refine thenQ_e ?_ | with_reducible refine blockQ_t ?_ | with_reducible refine blockQ_f (by decide) ?_)) | refine aw_ret ?_ | refine aw_block ?_ | refine aw_condT rfl ?_ | refine aw_condF rfl ?_ | (refine aw_cond rfl (fun hg => ?_) (fun hg => ?_) <;> (try (have hq := hg; simp only [Bool.not_eq_true', Bool.not_eq_false', Bool.and_eq_true, Bool.and_eq_false_iff, Bool.or_eq_true, Bool.or_eq_false_iff, decide_eq_true_eq, decide_eq_false_iff_not, bne_iff_ne, beq_iff_eq, beq_eq_false_iff_ne, bne_eq_false_iff_eq, ne_eq, Int.not_lt, Int.not_le, Decidable.not_not] at hq)) <;> (try (have hr := hg; simp only [decide_eq_true_eq, decide_eq_false_iff_not] at hr)) <;> (try (exfalso; omega))) | (refine ag_bool (fun hg => ?_) (fun hg => ?_) <;> (try (have hq := hg; simp only [Bool.not_eq_true', Bool.not_eq_false', Bool.and_eq_true, Bool.and_eq_false_iff, Bool.or_eq_true, Bool.or_eq_false_iff, decide_eq_true_eq, decide_eq_false_iff_not, bne_iff_ne, beq_iff_eq, beq_eq_false_iff_ne, bne_eq_false_iff_eq, ne_eq, Int.not_lt, Int.not_le, Decidable.not_not] at hq)) <;> (try (have hr := hg; simp only [decide_eq_true_eq, decide_eq_false_iff_not] at hr)) <;> (try (exfalso; omega)) <;> simp (config := {maxSteps := 10000000}) (disch := first | exact okYes (by kernel_rfl) | omega) only [ARun_nil, ARun_none, ARun_some, ARun_skip, AOpRun, AGo_f, AGo_ok, AG_tt, AG_ff, AG_tf, AG_ft, AG_un, aexec, run1, asI, elems, base, opt1, fillD, splice, abin, ash, isSh, foldI, mn2, mx2, ↓eget_h, eget_c, eget_n, eput_c, eput_n, putO, ↓hget_h, hget_c, hget_n, hput_c, hput_n, hdel_c, hdel_n, hups, cond_true, cond_false,  ups, St.F, St.app, FSt.ev, dropE_c, dropE_n, inL_c, inL_n, envOf, thenQ, blockQ, D.isBot, D.isAgg, D.cells, D.leaf, scalarEq, eqCells, isB, Option.map, List.map, List.length, List.all, List.append, List.take, List.drop, List.cons_append, List.nil_append, List.append_nil, Option.isSome, List.getElem?_cons_zero, List.getElem?_cons_succ, if_true, if_false, true_and, and_true, Bool.not_true, Bool.not_false, Bool.true_or, Bool.false_or, Bool.or_true, Bool.or_false, Bool.false_eq_true, ↓reduceIte, Nat.reduceAdd, Nat.reduceMul, Nat.reduceEqDiff, Nat.reduceBEq, Nat.reduceSub, Nat.zero_add, Nat.reduceLeDiff, Nat.reduceGT, Nat.reduceLT, Nat.reduceBNe, okLog_f, reduceCtorEq, or_self, or_false, false_or, or_true, true_or, and_self, and_false, false_and, not_true_eq_false, not_false_eq_true, ne_eq, Bool.and_true, Bool.true_and, Bool.and_false, Bool.false_and, decide_eq_true_eq, decide_true, decide_false, Int.reduceBEq, Int.reduceBNe, Int.reduceLT, Int.reduceLE, Int.reduceAdd, Int.reduceSub, Int.reduceMul, Int.reduceNeg, Int.reduceEq, Int.toNat_zero, Int.reduceToNat, Int.zero_lt_one, Nat.zero_le, Int.le_refl, beq_self_eq_true, bne_self_eq_false, cast_lit, fits, wrap_in, Int.toNat_natCast, Int.natCast_nonneg, dI, dB, spD, tabD, d1, d2, d3, d4, d5, d6, d7, d8, h1, h2, h3, h4, hg, hr]) | ((first | refine aw_hide fun K hK => aw_region ?_ | refine acall0 (fa) ?_ | refine acall0 (cb) ?_ | refine acall0 (cp) ?_ | refine acall0 (bo) ?_ | refine acall0 (w0) ?_ | refine acall0 (w1) ?_ | refine acall0 (w2) ?_ | refine acall0 (w3) ?_ | refine acall0 (w4) ?_ | refine acall0 (w5) ?_ | refine acall0 (a0) ?_ | refine acall0 (a1) ?_ | refine acall0 (wo) ?_ | refine acall0 (bs) ?_ | refine acall0 (works_ac) ?_ | refine ago_if (by omega) ?_ | skip); simp (config := {maxSteps := 10000000}) (disch := first | exact okYes (by kernel_rfl) | omega) only [ARun_nil, ARun_none, ARun_some, ARun_skip, AOpRun, AGo_f, AGo_ok, AG_tt, AG_ff, AG_tf, AG_ft, AG_un, aexec, run1, asI, elems, base, opt1, fillD, splice, abin, ash, isSh, foldI, mn2, mx2, ↓eget_h, eget_c, eget_n, eput_c, eput_n, putO, ↓hget_h, hget_c, hget_n, hput_c, hput_n, hdel_c, hdel_n, hups, cond_true, cond_false,  ups, St.F, St.app, FSt.ev, dropE_c, dropE_n, inL_c, inL_n, envOf, thenQ, blockQ, D.isBot, D.isAgg, D.cells, D.leaf, scalarEq, eqCells, isB, Option.map, List.map, List.length, List.all, List.append, List.take, List.drop, List.cons_append, List.nil_append, List.append_nil, Option.isSome, List.getElem?_cons_zero, List.getElem?_cons_succ, if_true, if_false, true_and, and_true, Bool.not_true, Bool.not_false, Bool.true_or, Bool.false_or, Bool.or_true, Bool.or_false, Bool.false_eq_true, ↓reduceIte, Nat.reduceAdd, Nat.reduceMul, Nat.reduceEqDiff, Nat.reduceBEq, Nat.reduceSub, Nat.zero_add, Nat.reduceLeDiff, Nat.reduceGT, Nat.reduceLT, Nat.reduceBNe, okLog_f, reduceCtorEq, or_self, or_false, false_or, or_true, true_or, and_self, and_false, false_and, not_true_eq_false, not_false_eq_true, ne_eq, Bool.and_true, Bool.true_and, Bool.and_false, Bool.false_and, decide_eq_true_eq, decide_true, decide_false, Int.reduceBEq, Int.reduceBNe, Int.reduceLT, Int.reduceLE, Int.reduceAdd, Int.reduceSub, Int.reduceMul, Int.reduceNeg, Int.reduceEq, Int.toNat_zero, Int.reduceToNat, Int.zero_lt_one, Nat.zero_le, Int.le_refl, beq_self_eq_true, bne_self_eq_false, cast_lit, fits, wrap_in, Int.toNat_natCast, Int.natCast_nonneg, dI, dB, spD, tabD, d1, d2, d3, d4, d5, d6, d7, d8, h1, h2, h3, h4, hg, hr]) | (subst hK; repeat' (first | with_reducible refine thenQ_n ?_ | with_reducible refine blockQ_n ?_ | with_reducible refine thenQ_e ?_ | with_reducible refine blockQ_t ?_ | with_reducible refine blockQ_f (by decide) ?_))))
  all_goals (refine end_to [] [] (by first | exact .inl rfl | exact .inr rfl) rfl (by kernel_rfl) (by kernel_rfl) (by kernel_rfl) ?_ ?_ <;> repeat' (first | exact trivial | exact vr_val _ | exact vr_list _ | exact vr_at _ | exact vr_nil | exact vr_cap0 | exact vr_vec _ _ _ _ rfl | exact vr_own _ _ _ _ _ rfl | exact vr_ptr _ _ _ rfl | exact vr_nilv _ _ _ rfl | exact vr_bot _ | exact vr_cap0v _ _ _ rfl | exact vr_cap0l | apply vr_agg | apply vr_tup | apply vr_fn | refine vr_yld _ _ _ rfl ?_ | exact Ren.bot _ | exact Ren.val _ | exact Ren.list _ | exact Ren.at_ _ | exact Ren.ptr _ _ _ rfl | refine Ren.yld _ _ _ _ _ rfl rfl (RenL.get ?_).2 (fun _ _ _ h => h) | refine vr_fl _ _ _ _ _ (by decide) rfl ?_ ?_ ?_ ?_ | refine And.intro ⟨_, rfl, .inl ⟨_, rfl, by decide, ?_⟩⟩ ?_ | refine And.intro ⟨_, rfl, _, rfl, by decide, ?_⟩ ?_ | refine And.intro ⟨_, rfl, .inr ⟨rfl, rfl, of_decide_eq_true (by kernel_rfl)⟩⟩ ?_ | apply And.intro | refine vr_valq ?_ | refine vr_listq ?_ | exact vrl_flat _ (by first | exact icells_in _ | exact rcells_in _ | exact scells_in _ | exact bcells_in _ | assumption)))
end Go.Proofs.Ytfaiogajaaclcaa
