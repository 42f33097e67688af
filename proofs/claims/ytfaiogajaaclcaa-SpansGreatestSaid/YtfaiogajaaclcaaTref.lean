/- The contracts of Far, and of the reference's knots and CheckTable. -/
import Derived.Test.YtfaiogajaaclcaaSp
import Derived.Test.YtfaiogajaaclcaaOpen
namespace Go.Proofs.Ytfaiogajaaclcaa
open Go.RowKit

/-- one box of a table at the head of a call -/
theorem cells3 {W : World} {B : Nat} {t : TypeId} {a b c : Value} (h : W.heap[B]? = some (.cells #[a, b, c] t)) :
    (W.cell? ⟨B, 0, none⟩ = some a ∧ W.cell? ⟨B, 1, none⟩ = some b ∧ W.cell? ⟨B, 2, none⟩ = some c) ∧ (W.frozen? ⟨B, 0, none⟩ = false ∧ W.frozen? ⟨B, 1, none⟩ = false ∧ W.frozen? ⟨B, 2, none⟩ = false) := by
  refine ⟨⟨?_, ?_, ?_⟩, ?_, ?_, ?_⟩
  · rw [cell_of_row W _ 0 _ _ _ h]; rfl
  · rw [cell_of_row W _ 1 _ _ _ h]; rfl
  · rw [cell_of_row W _ 2 _ _ _ h]; rfl
  all_goals simp [World.frozen?, h]
theorem blk' {W W' : World} {B : Nat} {o : Obj} (hb : Below W.heap.size W W') (h : W.heap[B]? = some o) : W'.heap[B]? = some o := (hb.block _ (Array.getElem?_eq_some_iff.1 h).1).trans h
theorem blk_new' (W : World) (o : Obj) : (W.alloc o).heap[W.heap.size]? = some o := World.alloc_heap_new W o
theorem cell_b' {W W' : World} {B o : Nat} {v : Value} (hb : Below W.heap.size W W') (h : W.cell? ⟨B, o, none⟩ = some v) : W'.cell? ⟨B, o, none⟩ = some v := by
  obtain ⟨ob, ho, _⟩ := cells_of_cell h
  exact (hb.cell (p := ⟨B, o, none⟩) (Array.getElem?_eq_some_iff.1 ho).1).trans h
def rowFar (vs : List (List Int)) : Bool := vs.any (fun r => decide (15 < r.length))
def farB (xs ys : List Int) (vs : List (List Int)) : Bool := decide (15 < xs.length) || decide (15 < ys.length) || decide (15 < vs.length) || rowFar vs
theorem rowFar_drop (vs : List (List Int)) (k : Nat) (h : k < vs.length) : rowFar (vs.drop k) = (decide (15 < (vs[k]?.getD []).length) || rowFar (vs.drop (k + 1))) := by
  unfold rowFar
  rw [List.drop_eq_getElem_cons h, List.any_cons, show vs[k]?.getD [] = vs[k] by simp [h]]
set_option maxHeartbeats 1000000 in
theorem far_any (xs ys : List Int) (vs : List (List Int)) (X Y V : Option Addr) (cx cy cv : Nat) (w : World) (hS : TSm xs ys vs) (hR : TabR w X Y V cx cy cv xs ys vs) :
   Calls Try.prog 17 #[.agg #[.slice X xs.length cx, .slice Y ys.length cy, .slice V vs.length cv]] w fun e w' => e = .returned (.bool (farB xs ys vs)) ∧ Below w.heap.size w w' := by
  obtain ⟨sx, sy, sv, _⟩ := hS
  unfold maxLen at sx sy sv
  have HV := Lib.hid hR.hV
  have HB := Lib.hid (show Below w.heap.size w (w.alloc (.cells #[.slice X xs.length cx, .slice Y ys.length cy, .slice V vs.length cv] 25)) from (Below.refl _ w).alloc (Nat.le_refl _) _)
  clear hR
  by_cases h1 : 15 < xs.length
  · have HF : Hid (farB xs ys vs = true) := by unfold Hid farB; simp [h1]
    go_enter Try.func17, Try.ntmps17
    go_wp2_with fail
    go_ret
    exact ⟨by rw [HF.out]; rfl, HB.out⟩
  · by_cases h2 : 15 < ys.length
    · have HF : Hid (farB xs ys vs = true) := by unfold Hid farB; simp [h2]
      go_enter Try.func17, Try.ntmps17
      go_wp2_with fail
      go_ret
      exact ⟨by rw [HF.out]; rfl, HB.out⟩
    · by_cases h3 : 15 < vs.length
      · have HF : Hid (farB xs ys vs = true) := by unfold Hid farB; simp [h3]
        go_enter Try.func17, Try.ntmps17
        go_wp2_with fail
        go_ret
        exact ⟨by rw [HF.out]; rfl, HB.out⟩
      · have HF : Hid (farB xs ys vs = rowFar vs) := by unfold Hid farB; simp [h1, h2, h3]
        have d1 : decide (15 < xs.length) = false := decide_eq_false h1
        have d2 : decide (15 < ys.length) = false := decide_eq_false h2
        have d3 : decide (15 < vs.length) = false := decide_eq_false h3
        go_enter Try.func17, Try.ntmps17
        go_wp2_with fail
        go_loop [3] (fun i => ∃ k : Nat, k ≤ vs.length ∧ i = .int .i64 k ∧ rowFar (vs.drop k) = rowFar vs) (fun i => vs.length - (intOf i).toNat)
        case atStart => exact ⟨0, by omega, rfl, by simp⟩
        case round =>
          obtain ⟨k, hk, rfl, hp⟩ := hrel
          have HP := Lib.hid hp
          clear hp
          by_cases hlt : k < vs.length
          · obtain ⟨b, off, rfl, hbl, hc⟩ := HV.out (by omega)
            obtain ⟨B, c, hc1, _⟩ := hc k hlt
            have HD := Lib.hid (rowFar_drop vs k hlt)
            clear hc
            generalize hr : vs[k]?.getD [] = r at hc1
            have HR := Lib.hid hr
            clear hr
            by_cases hl : 15 < r.length
            · go_wp2_with fail
              go_ret
              exact ⟨by rw [HF.out, ← HP.out, HD.out, HR.out, decide_eq_true hl]; rfl, HB.out⟩
            · go_wp2_with fail
              go_round
              case rel => exact ⟨k + 1, by omega, by go_num, by rw [← HP.out, HD.out, HR.out, decide_eq_false hl]; simp⟩
              case measure => simp [intOf]; omega
          · go_wp2_with fail
            go_ret
            exact ⟨by rw [HF.out, ← HP.out, List.drop_eq_nil_of_le (by omega)]; rfl, HB.out⟩
set_option maxRecDepth 100000 in
set_option maxHeartbeats 2000000 in
theorem knots_any (A : Option Addr) (l : List Int) (c : Nat) (w : World) (hl : l.length ≤ maxLen) (hA : Ints w A l) :
    Calls Try.prog 64 #[.slice A l.length c] w fun e w' => e = .returned (.bool (axB l)) ∧ Below w.heap.size w w' := by
  unfold maxLen at hl
  by_cases hw : wB l.length 2 12 = true
  · have E := Lib.hid hw
    obtain ⟨h2, h12⟩ := wB_iff.1 hw
    have R : Hid (axB l = axFrom none l) := by unfold Hid axB; rw [hw]; rfl
    obtain ⟨b, off, rfl, hbl, hc⟩ := hA (by omega)
    have HC := Lib.hid hc
    have HB0 := Lib.hid (Below.refl w.heap.size w)
    clear hw hc hA
    go_enter Try.func64, Try.ntmps64
    go_wp2_with fail
    refine (from_any _ _ _ _).mono ?_
    rintro e w' ⟨rfl, rfl⟩
    rw [E.out]
    go_wp2_with fail
    go_loopw [3] (fun i wr => ∃ k : Nat, k ≤ l.length ∧ i = .int .i64 k ∧ axFrom (prev l k) (l.drop k) = axFrom none l ∧ (0 < k → -1000000 ≤ l[k-1]?.getD 0 ∧ l[k-1]?.getD 0 ≤ 1000000) ∧ Below w'.heap.size w' wr) (fun i _ => l.length - (intOf i).toNat)
    case atStart => exact ⟨0, by omega, rfl, by simp [prev], by omega, Below.refl _ _⟩
    case round =>
      obtain ⟨k, hk, rfl, hp, hbd, hbr⟩ := hrel
      have HP := Lib.hid hp
      have HBD := Lib.hid hbd
      have HBR := Lib.hid hbr
      clear hp hbd hbr
      by_cases hlt : k < l.length
      · have hd := Lib.hid (axFrom_drop l k hlt)
        have h1 := (HBR.out.cell (p := ⟨b, off + k, none⟩) hbl).trans (HC.out k hlt)
        generalize hx : l[k]?.getD 0 = x at h1
        have HX := Lib.hid hx
        have t1 : (k : Int) < (l.length : Int) := by omega
        have t2 : (0 : Int) ≤ (k : Int) := by omega
        clear hx
        by_cases hv : wB x (-1000000) 1000000 = true
        · have hvb := wB_iff.1 hv
          have HV := Lib.hid hv
          clear hv
          have HQ1 : Hid (∀ W, Calls Try.prog 34 #[.int .i64 x, .int .i64 (-1000000), .int .i64 1000000] W fun e w' => e = .returned (.bool true) ∧ w' = W) := fun W => by have := from_any x (-1000000) 1000000 W; rw [HV.out] at this; exact this
          by_cases hk0 : k = 0
          · subst hk0
            simp only [Nat.add_zero] at h1
            go_wp2_with fail
            go_quiet ((go_at_call 34; first | (with_reducible exact Calls.quiet_of_same (HQ1.out _))))
            go_wp2_with fail
            go_roundw
            case rel => exact ⟨1, by omega, by go_num, by rw [← HP.out, hd.out, HX.out, HV.out]; simp, fun _ => by simpa [HX.out] using hvb, Below.drewN' HBR.out _⟩
            case measure => simp [intOf]; omega
          · obtain ⟨j, rfl⟩ : ∃ j, k = j + 1 := ⟨k - 1, by omega⟩
            have h3 := (HBR.out.cell (p := ⟨b, off + j, none⟩) hbl).trans (HC.out j (by omega))
            have hyb := HBD.out (by omega)
            simp only [Nat.add_sub_cancel] at hyb
            generalize hy : l[j]?.getD 0 = y at h3 hyb
            have HY := Lib.hid hy
            clear hy hk0
            have u1 : IntKind.i64.wrap ((j : Int) + 1 - 1) = (j : Int) := by rw [IntWalk.i64_in _ (by omega)]; omega
            have u2 : IntKind.i64.wrap (x - y) = x - y := IntWalk.i64_in _ (by omega)
            have t3 : (0 : Int) < (j : Int) + 1 := by omega
            have t4 : (j : Int) < (l.length : Int) := by omega
            have t5 : (j : Int) + 1 < (l.length : Int) := by omega
            have t6 : (0 : Int) ≤ (j : Int) + 1 := by omega
            have t7 : ((j : Int) + 1).toNat = j + 1 := by omega
            by_cases hv2 : wB (x - y) 1 10000 = true
            · have HV2 := Lib.hid hv2
              clear hv2
              have HQ2 : Hid (∀ W, Calls Try.prog 34 #[.int .i64 (x - y), .int .i64 1, .int .i64 10000] W fun e w' => e = .returned (.bool true) ∧ w' = W) := fun W => by have := from_any (x - y) 1 10000 W; rw [HV2.out] at this; exact this
              go_wp2_with fail
              go_quiet ((go_at_call 34; first | (with_reducible exact Calls.quiet_of_same (HQ1.out _)) | (with_reducible exact Calls.quiet_of_same (HQ2.out _))))
              go_wp2_with fail
              go_roundw
              case rel => exact ⟨j + 1 + 1, by omega, by go_num, by rw [← HP.out, hd.out, HX.out, HV.out]; simp [HY.out, HV2.out], fun _ => by simpa [HX.out] using hvb, Below.drewN' HBR.out _⟩
              case measure => simp [intOf]; omega
            · have hv3 : wB (x - y) 1 10000 = false := by simpa using hv2
              have HV2 := Lib.hid hv3
              clear hv2 hv3
              have HQ2 : Hid (∀ W, Calls Try.prog 34 #[.int .i64 (x - y), .int .i64 1, .int .i64 10000] W fun e w' => e = .returned (.bool false) ∧ w' = W) := fun W => by have := from_any (x - y) 1 10000 W; rw [HV2.out] at this; exact this
              go_wp2_with fail
              go_quiet ((go_at_call 34; first | (with_reducible exact Calls.quiet_of_same (HQ1.out _)) | (with_reducible exact Calls.quiet_of_same (HQ2.out _))))
              go_wp2_with fail
              go_ret
              exact ⟨by rw [R.out, ← HP.out, hd.out, HX.out, HV.out]; simp [HY.out, HV2.out], Below.drewN' HBR.out _⟩
        · have hv3 : wB x (-1000000) 1000000 = false := by simpa using hv
          have HV := Lib.hid hv3
          clear hv hv3
          have HQ1 : Hid (∀ W, Calls Try.prog 34 #[.int .i64 x, .int .i64 (-1000000), .int .i64 1000000] W fun e w' => e = .returned (.bool false) ∧ w' = W) := fun W => by have := from_any x (-1000000) 1000000 W; rw [HV.out] at this; exact this
          go_wp2_with fail
          go_quiet ((go_at_call 34; first | (with_reducible exact Calls.quiet_of_same (HQ1.out _))))
          go_wp2_with fail
          go_ret
          exact ⟨by rw [R.out, ← HP.out, hd.out, HX.out, HV.out]; simp, Below.drewN' HBR.out _⟩
      · go_wp2_with fail
        go_ret
        exact ⟨by rw [R.out, ← HP.out, List.drop_eq_nil_of_le (by omega)]; simp [axFrom], HBR.out⟩
  · have hw' : wB l.length 2 12 = false := by simpa using hw
    have E := Lib.hid hw'
    have R : Hid (axB l = false) := by unfold Hid axB; rw [hw']; rfl
    clear hw hw' hA
    go_enter Try.func64, Try.ntmps64
    go_wp2_with fail
    refine (from_any _ _ _ _).mono ?_
    rintro e w' ⟨rfl, rfl⟩
    rw [E.out]
    go_wp2_with fail
    go_ret
    exact ⟨by rw [R.out]; rfl, Below.refl _ _⟩
end Go.Proofs.Ytfaiogajaaclcaa
