/- Texts of the law TopCyclesCard, part 8. No conditions. -/
import Derived.Test.YtgibbaadjbohdaaDoorPTopCyclesCard07
import Derived.StillTailTactics
import Derived.Maps.AppendAt
import Derived.RangeFuncNested
import Derived.RangeFuncBound
import Derived.RangeFuncCalls
import Derived.RangeFuncLeaves
import Derived.Shelf.Abstract
import Derived.Shelf.RegionOpen
import Derived.OwnWalkIn
import Derived.TacticsInMore
import Derived.LoopNIn
import Derived.LoopIn
import Derived.ProofKit
import Derived.OpenShut
import Derived.ChangeOld
import Derived.Below
import Derived.Lib.SmallJoins
import Derived.Deep.Matrix
import Derived.Deep.RegionWith
import Derived.Deep.RegionLawGrows
import Derived.Deep.RegionHeld3
import Derived.Deep.DeepCutAuto
/- The contract of spans.at: the value of a valid table at a point on it, as a fraction; old memory stays. -/
namespace Go.Proofs.YtgibbaadjbohdaaDoor
open Go.RowKit

theorem wp_region_tail {P : Program} {id : Nat} {Q : Exit → Act → World → Prop} {a : Act} {w : World} {l : List Oper} (n : Nat) (hm : P.follows .mixedOrders = true) (hB : Region.lexTailB .any l.toArray n = true)
    (h : wpStill P l.toArray w.drew (fun a' => wpList P l.toArray Q (l.drop n) a' w.drew) (l.take n) a) : (Code.region id l.toArray true).wp P Q a w := wp_region_still_tail n hm hB h
def numF (a b c d z00 z10 z01 z11 : Int) : Int := a * c * z00 + b * c * z10 + a * d * z01 + b * d * z11
def denF (a b c d : Int) : Int := (a + b) * (c + d)
theorem mul_bd {a b A B : Int} (ha : 0 ≤ a) (ha' : a ≤ A) (hb : 0 ≤ b) (hb' : b ≤ B) : 0 ≤ a * b ∧ a * b ≤ A * B :=
  ⟨Int.mul_nonneg ha hb, Int.mul_le_mul ha' hb' hb (by omega)⟩
theorem mul_bd2 {a z A B : Int} (ha : 0 ≤ a) (ha' : a ≤ A) (hz : -B ≤ z) (hz' : z ≤ B) (hB : 0 ≤ B) : -(A * B) ≤ a * z ∧ a * z ≤ A * B := by
  have h1 : a * z ≤ a * B := Int.mul_le_mul_of_nonneg_left hz' ha
  have h2 : a * (-B) ≤ a * z := Int.mul_le_mul_of_nonneg_left hz ha
  have h3 : a * B ≤ A * B := Int.mul_le_mul_of_nonneg_right ha' hB
  rw [Int.mul_neg] at h2
  omega
structure TabR (w : World) (X Y V : Option Addr) (cx cy cv : Nat) (xs ys : List Int) (vs : List (List Int)) : Prop where
  hX : Ints w X xs
  hY : Ints w Y ys
  hV : Mat w V vs
  lx : xs.length ≤ cx
  ly : ys.length ≤ cy
theorem TabR.below {w w' : World} {X Y V : Option Addr} {cx cy cv : Nat} {xs ys : List Int} {vs : List (List Int)} (h : TabR w X Y V cx cy cv xs ys vs) (hb : Below w.heap.size w w') : TabR w' X Y V cx cy cv xs ys vs :=
  ⟨h.hX.below hb, h.hY.below hb, h.hV.below hb, h.lx, h.ly⟩
structure Tbl (xs ys : List Int) (vs : List (List Int)) : Prop where
  ax : Axis xs
  ay : Axis ys
  len : vs.length = xs.length
  row : ∀ k, k < vs.length → (vs[k]?.getD []).length = ys.length
  val : ∀ k j, k < vs.length → j < ys.length → -1000000 ≤ (vs[k]?.getD [])[j]?.getD 0 ∧ (vs[k]?.getD [])[j]?.getD 0 ≤ 1000000
theorem tbl_of {xs ys : List Int} {vs : List (List Int)} (h : tabB xs ys vs = true) : Tbl xs ys vs := by
  unfold tabB at h
  simp only [Bool.and_eq_true, Bool.not_eq_true', bne_eq_false_iff_eq, List.any_eq_false] at h
  obtain ⟨⟨⟨h1, h2⟩, h3⟩, h4⟩ := h
  have hr : ∀ k, k < vs.length → rowBad ys.length (vs[k]?.getD []) = false := fun k hk => by
    have := h4 (vs[k]?.getD []) (by simp [hk])
    simpa using this
  refine ⟨axis_of h1, axis_of h2, by omega, fun k hk => ?_, fun k j hk hj => ?_⟩
  · have := hr k hk
    unfold rowBad at this
    simp only [Bool.or_eq_false_iff, bne_eq_false_iff_eq] at this
    omega
  · have := hr k hk
    unfold rowBad at this
    simp only [Bool.or_eq_false_iff, bne_eq_false_iff_eq, List.any_eq_false] at this
    have h5 := this.2 ((vs[k]?.getD [])[j]?.getD 0) (by
      have : j < (vs[k]?.getD []).length := by omega
      simp [this])
    simp only [Bool.not_eq_true', Bool.not_eq_false] at h5
    exact wB_iff.1 h5
def atN (xs ys : List Int) (vs : List (List Int)) (x y : Int) : Int :=
  let i := cellI xs x; let k := cellI ys y
  numF (xs[i+1]?.getD 0 - x) (x - xs[i]?.getD 0) (ys[k+1]?.getD 0 - y) (y - ys[k]?.getD 0)
    ((vs[i]?.getD [])[k]?.getD 0) ((vs[i+1]?.getD [])[k]?.getD 0) ((vs[i]?.getD [])[k+1]?.getD 0) ((vs[i+1]?.getD [])[k+1]?.getD 0)
def atD (xs ys : List Int) (x y : Int) : Int :=
  let i := cellI xs x; let k := cellI ys y
  denF (xs[i+1]?.getD 0 - x) (x - xs[i]?.getD 0) (ys[k+1]?.getD 0 - y) (y - ys[k]?.getD 0)
set_option maxHeartbeats 2000000 in
set_option maxRecDepth 100000 in
theorem at_any (xs ys : List Int) (vs : List (List Int)) (X Y V : Option Addr) (cx cy cv : Nat) (x y : Int) (w : World)
   (hT : Tbl xs ys vs) (hR : TabR w X Y V cx cy cv xs ys vs) (hx : OnAx xs x) (hy : OnAx ys y) :
   Calls Tryd.prog 62 #[.agg #[.slice X xs.length cx, .slice Y ys.length cy, .slice V vs.length cv], .int .i64 x, .int .i64 y] w
     fun e w' => e = .returned (.agg #[.int .i64 (atN xs ys vs x y), .int .i64 (atD xs ys x y)]) ∧ Below w.heap.size w w' := by
  have q1 := hT.ax.cell_on hx
  have q2 := hT.ay.cell_on hy
  have hq1 : ∀ W, Below w.heap.size w W → Calls Tryd.prog 73 #[.slice X xs.length cx, .int .i64 x] W fun e w' => e = .returned (.int .i64 (cellI xs x)) ∧ w' = W :=
    fun W hb => cellI_any X xs cx x W hT.ax hR.lx (hR.hX.below hb)
  have hq2 : ∀ W, Below w.heap.size w W → Calls Tryd.prog 73 #[.slice Y ys.length cy, .int .i64 y] W fun e w' => e = .returned (.int .i64 (cellI ys y)) ∧ w' = W :=
    fun W hb => cellI_any Y ys cy y W hT.ay hR.ly (hR.hY.below hb)
  have hN : atN xs ys vs x y = numF (xs[cellI xs x + 1]?.getD 0 - x) (x - xs[cellI xs x]?.getD 0) (ys[cellI ys y + 1]?.getD 0 - y) (y - ys[cellI ys y]?.getD 0)
    ((vs[cellI xs x]?.getD [])[cellI ys y]?.getD 0) ((vs[cellI xs x + 1]?.getD [])[cellI ys y]?.getD 0) ((vs[cellI xs x]?.getD [])[cellI ys y + 1]?.getD 0) ((vs[cellI xs x + 1]?.getD [])[cellI ys y + 1]?.getD 0) := rfl
  have hD : atD xs ys x y = denF (xs[cellI xs x + 1]?.getD 0 - x) (x - xs[cellI xs x]?.getD 0) (ys[cellI ys y + 1]?.getD 0 - y) (y - ys[cellI ys y]?.getD 0) := rfl
  generalize cellI xs x = i at *
  generalize cellI ys y = k at *
  have t12x := hT.ax.twelve
  have t12y := hT.ay.twelve
  have lenv := hT.len
  have r0 := hT.row i (by omega)
  have r1 := hT.row (i+1) (by omega)
  have b00 := hT.val i k (by omega) (by omega)
  have b01 := hT.val i (k+1) (by omega) (by omega)
  have b10 := hT.val (i+1) k (by omega) (by omega)
  have b11 := hT.val (i+1) (k+1) (by omega) (by omega)
  obtain ⟨bx, ox, rfl, hbx, hcx⟩ := hR.hX (by omega)
  obtain ⟨bY, oy, rfl, hby, hcy⟩ := hR.hY (by omega)
  obtain ⟨bv, ov, rfl, hbv, hcv⟩ := hR.hV (by omega)
  obtain ⟨R0, c0, e0, hR0⟩ := hcv i (by omega)
  obtain ⟨R1, c1, e1, hR1⟩ := hcv (i+1) (by omega)
  obtain ⟨b0, o0, rfl, hb0, hc0⟩ := hR0 (by omega)
  obtain ⟨b1, o1, rfl, hb1, hc1⟩ := hR1 (by omega)
  have cx0 := hcx i (by omega)
  have cx1 := hcx (i+1) (by omega)
  have cy0 := hcy k (by omega)
  have cy1 := hcy (k+1) (by omega)
  have v00 := hc0 k (by omega)
  have v01 := hc0 (k+1) (by omega)
  have v10 := hc1 k (by omega)
  have v11 := hc1 (k+1) (by omega)
  rw [r0] at e0
  rw [r1] at e1
  generalize xs[i]?.getD 0 = x0 at *
  generalize xs[i+1]?.getD 0 = x1 at *
  generalize ys[k]?.getD 0 = y0 at *
  generalize ys[k+1]?.getD 0 = y1 at *
  generalize (vs[i]?.getD [])[k]?.getD 0 = z00 at *
  generalize (vs[i]?.getD [])[k+1]?.getD 0 = z01 at *
  generalize (vs[i+1]?.getD [])[k]?.getD 0 = z10 at *
  generalize (vs[i+1]?.getD [])[k+1]?.getD 0 = z11 at *
  obtain ⟨hi, hx0, hx1, hgx, _⟩ := q1
  obtain ⟨hk, hy0, hy1, hgy, _⟩ := q2
  have p1 := mul_bd (a := x1 - x) (b := y1 - y) (A := 10000) (B := 10000) (by omega) (by omega) (by omega) (by omega)
  have p2 := mul_bd (a := x - x0) (b := y1 - y) (A := 10000) (B := 10000) (by omega) (by omega) (by omega) (by omega)
  have p3 := mul_bd (a := x1 - x) (b := y - y0) (A := 10000) (B := 10000) (by omega) (by omega) (by omega) (by omega)
  have p4 := mul_bd (a := x - x0) (b := y - y0) (A := 10000) (B := 10000) (by omega) (by omega) (by omega) (by omega)
  have p5 := mul_bd (a := x1 - x + (x - x0)) (b := y1 - y + (y - y0)) (A := 10000) (B := 10000) (by omega) (by omega) (by omega) (by omega)
  have s1 := mul_bd2 (A := 100000000) (B := 1000000) p1.1 (by omega) b00.1 b00.2 (by omega)
  have s2 := mul_bd2 (A := 100000000) (B := 1000000) p2.1 (by omega) b10.1 b10.2 (by omega)
  have s3 := mul_bd2 (A := 100000000) (B := 1000000) p3.1 (by omega) b01.1 b01.2 (by omega)
  have s4 := mul_bd2 (A := 100000000) (B := 1000000) p4.1 (by omega) b11.1 b11.2 (by omega)
  have HN := Lib.hid hN
  have HD := Lib.hid hD
  have HQ1 := Lib.hid hq1
  have HQ2 := Lib.hid hq2
  have hlv : i + 1 < vs.length := by omega
  have hlv2 : vs.length ≤ 12 := by omega
  clear hN hD hq1 hq2 hcx hcy hcv hc0 hc1 hR0 hR1 hR hT hx hy lenv r0 r1 
  have hBd : ∀ (o1 o2 : Obj) (n : Nat), Below w.heap.size w (((w.alloc o1).alloc o2).drewN n) := fun o1 o2 n => Below.drewN' (((Below.refl _ w).alloc (Nat.le_refl _) _).alloc (by simp) _) n
  have HBd := Lib.hid hBd
  clear hBd
  go_enter Tryd.func62, Tryd.ntmps62
  go_wp2_with fail
  go_quiet ((go_at_call 73; first | (with_reducible exact Calls.quiet_of_same (HQ1.out _ (HBd.out _ _ _))) | (with_reducible exact Calls.quiet_of_same (HQ2.out _ (HBd.out _ _ _)))))
  go_wp2_with fail
  go_quiet (fail)
  go_wp2_with fail
  go_quiet (fail)
  go_wp2_with fail
  have t1 : ((i : Int) + 1).toNat = i + 1 := by omega
  have t2 : ((k : Int) + 1).toNat = k + 1 := by omega
  have t3 : (0 : Int) ≤ (i : Int) + 1 := by omega
  have t4 : (0 : Int) ≤ (k : Int) + 1 := by omega
  have t5 : (i : Int) < (vs.length : Int) := by omega
  have t6 : (i : Int) + 1 < (vs.length : Int) := by omega
  have t7 : (k : Int) < (ys.length : Int) := by omega
  have t8 : (k : Int) + 1 < (ys.length : Int) := by omega
  have u1 : IntKind.i64.wrap ((i : Int) + 1) = (i : Int) + 1 := IntWalk.i64_in _ (by omega)
  have u2 : IntKind.i64.wrap ((k : Int) + 1) = (k : Int) + 1 := IntWalk.i64_in _ (by omega)
  have u3 : IntKind.i64.wrap ((x1 - x) * (y1 - y)) = (x1 - x) * (y1 - y) := IntWalk.i64_in _ (by omega)
  have u4 : IntKind.i64.wrap ((x - x0) * (y1 - y)) = (x - x0) * (y1 - y) := IntWalk.i64_in _ (by omega)
  have u5 : IntKind.i64.wrap ((x1 - x) * (y - y0)) = (x1 - x) * (y - y0) := IntWalk.i64_in _ (by omega)
  have u6 : IntKind.i64.wrap ((x - x0) * (y - y0)) = (x - x0) * (y - y0) := IntWalk.i64_in _ (by omega)
  have u7 : IntKind.i64.wrap ((x1 - x) * (y1 - y) * z00) = (x1 - x) * (y1 - y) * z00 := IntWalk.i64_in _ (by omega)
  have u8 : IntKind.i64.wrap ((x - x0) * (y1 - y) * z10) = (x - x0) * (y1 - y) * z10 := IntWalk.i64_in _ (by omega)
  have u9 : IntKind.i64.wrap ((x1 - x) * (y - y0) * z01) = (x1 - x) * (y - y0) * z01 := IntWalk.i64_in _ (by omega)
  have u10 : IntKind.i64.wrap ((x - x0) * (y - y0) * z11) = (x - x0) * (y - y0) * z11 := IntWalk.i64_in _ (by omega)
  have u11 : IntKind.i64.wrap ((x1 - x) * (y1 - y) * z00 + (x - x0) * (y1 - y) * z10) = (x1 - x) * (y1 - y) * z00 + (x - x0) * (y1 - y) * z10 := IntWalk.i64_in _ (by omega)
  have u12 : IntKind.i64.wrap ((x1 - x) * (y1 - y) * z00 + (x - x0) * (y1 - y) * z10 + (x1 - x) * (y - y0) * z01) = (x1 - x) * (y1 - y) * z00 + (x - x0) * (y1 - y) * z10 + (x1 - x) * (y - y0) * z01 := IntWalk.i64_in _ (by omega)
  have u13 : IntKind.i64.wrap ((x1 - x) * (y1 - y) * z00 + (x - x0) * (y1 - y) * z10 + (x1 - x) * (y - y0) * z01 + (x - x0) * (y - y0) * z11) = (x1 - x) * (y1 - y) * z00 + (x - x0) * (y1 - y) * z10 + (x1 - x) * (y - y0) * z01 + (x - x0) * (y - y0) * z11 := IntWalk.i64_in _ (by omega)
  have u14 : IntKind.i64.wrap (x1 - x + (x - x0)) = x1 - x + (x - x0) := IntWalk.i64_in _ (by omega)
  have u15 : IntKind.i64.wrap (y1 - y + (y - y0)) = y1 - y + (y - y0) := IntWalk.i64_in _ (by omega)
  have u16 : IntKind.i64.wrap ((x1 - x + (x - x0)) * (y1 - y + (y - y0))) = (x1 - x + (x - x0)) * (y1 - y + (y - y0)) := IntWalk.i64_in _ (by omega)
  refine wp_region_tail 59 (by kernel_rfl) (by kernel_rfl) ?_
  simp only [List.take_succ_cons, List.take_zero, List.drop_succ_cons, List.drop_zero]
  repeat still_step
  refine wpStill_nil ?_
  clear t1 t2 t3 t4 t5 t6 t7 t8 u1 u2 u3 u4 u5 u6 u7 u8 u9 u10 u11 u12 u13 u14 u15 u16
  go_wp2_with fail
  refine bodyPost_ret (v := .agg #[.int .i64 (numF (x1 - x) (x - x0) (y1 - y) (y - y0) z00 z10 z01 z11), .int .i64 (denF (x1 - x) (x - x0) (y1 - y) (y - y0))]) (by simp [results, Tryd.results62, go_sem, numF, denF]) rfl ⟨?_, ?_⟩
  · rw [HN.out, HD.out]
  · repeat (first | exact HBd.out _ _ _ | refine Below.setCell ?_ (by simp) _ | refine Below.drew ?_)
end Go.Proofs.YtgibbaadjbohdaaDoor
/- The contract of spans.stops: the ends of a span and the knots within it, as a new slice; old memory stays. -/
namespace Go.Proofs.YtgibbaadjbohdaaDoor
open Go.RowKit

def IV (l : List Int) : List Value := l.map (Value.int .i64)
theorem IV_snoc (l : List Int) (x : Int) : IV (l ++ [x]) = IV l ++ [.int .i64 x] := by simp [IV]
theorem ints_of_own {w : World} {base : Nat} {e : TypeId} {v : Value} {l : List Int} (h : w.ownsRow base e 1 v l.length (IV l)) :
    ∃ A c, v = .slice A l.length c ∧ Ints w A l ∧ l.length ≤ c ∧ ∀ ad, A = some ad → base ≤ ad.block := by
  obtain ⟨h1, ⟨rfl, h0⟩ | ⟨g, cap, cur, rfl, hb, hg, hc, hm, hs, ht⟩⟩ := h
  · exact ⟨none, 0, by rw [h0], fun hl => by omega, by omega, fun ad h => by cases h⟩
  · refine ⟨some ⟨g, 0, none⟩, cap, rfl, fun _ => ⟨g, 0, rfl, ?_, fun k hk => ?_⟩, hc, fun ad h => by cases h; exact hb⟩
    · rcases Nat.lt_or_ge g w.heap.size with hlt | hge
      · exact hlt
      · rw [Array.getElem?_eq_none hge] at hg; cases hg
    · rw [cell_of_row w g (0 + k) cur e (0, 0) hg]
      have h2 : (cur.toList.take (l.length * 1))[k]? = (IV l)[k]? := by rw [ht]
      unfold IV at h2
      rw [List.getElem?_take, if_pos (by omega), List.getElem?_map] at h2
      rw [Nat.zero_add, ← Array.getElem?_toList, h2]
      simp [hk]
theorem Tryd.info_int : (Tryd.prog.info? 3).map (fun i => (i.zero, i.size, i.bytes)) = some (some (.int .i64 0), 1, 8) := by kernel_rfl
def midL (l : List Int) (lo hi : Int) : List Int := l.filter (fun x => decide (lo < x) && decide (x < hi))
def stopsL (l : List Int) (lo hi : Int) : List Int := lo :: midL l lo hi ++ (if lo < hi then [hi] else [])
theorem midL_take (l : List Int) (lo hi : Int) (k : Nat) (h : k < l.length) : midL (l.take (k + 1)) lo hi = midL (l.take k) lo hi ++ (if lo < l[k]?.getD 0 ∧ l[k]?.getD 0 < hi then [l[k]?.getD 0] else []) := by
  unfold midL
  rw [List.take_succ_eq_append_getElem h, List.filter_append]
  have e : l[k]?.getD 0 = l[k] := by simp [h]
  rw [e]
  by_cases h1 : lo < l[k] ∧ l[k] < hi <;> simp [h1]
theorem midL_len (l : List Int) (lo hi : Int) : (midL l lo hi).length ≤ l.length := List.length_filter_le _ _
def accL (l : List Int) (lo hi : Int) (k : Nat) : List Int := lo :: midL (l.take k) lo hi
theorem accL_len (l : List Int) (lo hi : Int) (k : Nat) : (accL l lo hi k).length ≤ l.length + 1 := by
  have h1 := midL_len (l.take k) lo hi
  have h2 : (l.take k).length ≤ l.length := by simp; omega
  simp [accL]; omega
theorem accL_yes {l : List Int} {lo hi x : Int} {k : Nat} (h : k < l.length) (hx : l[k]?.getD 0 = x) (h1 : lo < x) (h2 : x < hi) : accL l lo hi (k + 1) = accL l lo hi k ++ [x] := by
  unfold accL; rw [midL_take l lo hi k h, hx, if_pos ⟨h1, h2⟩]; rfl
theorem accL_no {l : List Int} {lo hi x : Int} {k : Nat} (h : k < l.length) (hx : l[k]?.getD 0 = x) (hn : ¬ (lo < x ∧ x < hi)) : accL l lo hi (k + 1) = accL l lo hi k := by
  unfold accL; rw [midL_take l lo hi k h, hx, if_neg hn]; simp
theorem accL_end {l : List Int} {lo hi : Int} : accL l lo hi l.length = lo :: midL l lo hi := by simp [accL]
def OutInts (l : List Int) (w : World) (e : Ending) (w' : World) : Prop := ∃ A c, e = .returned (.slice A l.length c) ∧ Ints w' A l ∧ l.length ≤ c ∧ (∀ ad, A = some ad → w.heap.size ≤ ad.block) ∧ Below w.heap.size w w'
theorem outInts_mk {w w' : World} {base : Nat} {e : TypeId} {v : Value} {l : List Int} (h : w'.ownsRow base e 1 v l.length (IV l)) (hbs : w.heap.size ≤ base) (hb : Below w.heap.size w w') : OutInts l w (.returned v) w' := by
  obtain ⟨A, c, rfl, hi, hc, hf⟩ := ints_of_own h
  exact ⟨A, c, rfl, hi, hc, fun ad h => Nat.le_trans hbs (hf ad h), hb⟩
theorem ownBlock_ge {w : World} {base : Nat} {e : TypeId} {s : Nat} {v : Value} {n : Nat} {xs : List Value} (h : w.ownsRow base e s v n xs) : ∀ k, v.ownBlock = some k → base ≤ k := by
  intro k hk
  obtain ⟨h1, ⟨rfl, h0⟩ | ⟨g, cap, cur, rfl, hb, hg, hc, hm, hs, ht⟩⟩ := h
  · simp [Value.ownBlock] at hk
  · simp [Value.ownBlock] at hk; omega
set_option maxHeartbeats 1000000 in
theorem stops_any (A : Option Addr) (l : List Int) (c : Nat) (lo hi : Int) (w : World) (hl : l.length ≤ 1000000) (hA : Ints w A l) :
    Calls Tryd.prog 61 #[.slice A l.length c, .agg #[.int .i64 lo, .int .i64 hi]] w (OutInts (stopsL l lo hi) w) := by
  obtain ⟨i0, hi0, hz0, hz1, hz2⟩ := info_parts Tryd.info_int
  have HA := Lib.hid hA
  clear hA
  have hsp : ∀ k, (accL l lo hi k).length ≤ l.length + 1 := accL_len l lo hi
  have HSP := Lib.hid hsp
  have HW1 := Lib.hid (show Below w.heap.size w (w.alloc (.cells #[.int .i64 lo, .int .i64 hi] 37)) from (Below.refl _ _).alloc (Nat.le_refl _) _)
  clear hsp
  go_enter Tryd.func61, Tryd.ntmps61
  go_wp2_with fail
  go_loopw [5, 7, 13] (fun v _ i wr => ∃ k : Nat, k ≤ l.length ∧ i = .int .i64 k ∧ wr.ownsRow (w.heap.size + 1) 3 1 v (accL l lo hi k).length (IV (accL l lo hi k)) ∧
      Below (w.heap.size + 1) (w.alloc (.cells #[.int .i64 lo, .int .i64 hi] 37)) wr) (fun _ _ i _ => l.length - (intOf i).toNat)
  case atStart =>
    refine ⟨0, by omega, rfl, ?_, (Below.refl _ _).alloc (by simp) _⟩
    have := World.ownsRow_lit (base := w.heap.size + 1) (e := 3) (size := 1) (w.alloc (.cells #[.int .i64 lo, .int .i64 hi] 37)) #[.int .i64 lo] 1 (by simp) (by simp [maxLen]) (by simp)
    simpa [midL, accL, IV] using this
  case round =>
    obtain ⟨k, hk, rfl, hown, hb⟩ := hrel
    have hlo : wr.cell? ⟨w.heap.size, 0, none⟩ = some (.int .i64 lo) := (hb.cell (by simp)).trans (by simp)
    have hhi : wr.cell? ⟨w.heap.size, 1, none⟩ = some (.int .i64 hi) := (hb.cell (by simp)).trans (by simp)
    have hszr := hb.size
    simp only [World.size_alloc] at hszr
    have HOWN := Lib.hid hown
    have HBR := Lib.hid hb
    clear hown hb
    by_cases hlt : k < l.length
    · obtain ⟨b, off, rfl, hbl, hc⟩ := HA.out (by omega)
      have hc1 : wr.cell? ⟨b, off + k, none⟩ = some (.int .i64 (l[k]?.getD 0)) := (HBR.out.cell (p := ⟨b, off + k, none⟩) (by simp; omega)).trans ((World.cell?_alloc_lt _ _ _ hbl).trans (hc k hlt))
      clear hc
      generalize hx : l[k]?.getD 0 = x at hc1
      have HX := Lib.hid hx
      clear hx
      by_cases h1 : lo < x
      · by_cases h2 : x < hi
        · go_wp2_with (at_builtin; refine wpList_append_own _ rfl _ _ 30 rfl (w.heap.size + 1) 3 i0 (.int .i64 0) 1 8 Tryd.underlying30 hi0 hz0 hz1 hz2 rfl (by decide) _ _ _ rfl (HOWN.out.alloc _) ⟨wr.heap.size, 0, none⟩ 1 1 [.int .i64 x] rfl rfl ?c1 ?c2 ?c3 ?c4 ?c5 ?_)
          case c1 => exact cell_one_new _ _ _
          case c2 => simp [Value.oneCell']
          case c3 => have := HSP.out k; simp only [maxLen]; omega
          case c4 => have := HSP.out k; omega
          case c5 => simp; omega
          intro v' w1 hown1 hg1 _
          have HO1 := Lib.hid hown1
          have HB1 := Lib.hid ((HBR.out.alloc (by omega) _).grown hg1 (by simp; omega) (ownBlock_ge HOWN.out))
          clear hown1 hg1
          go_wp2_with fail
          go_roundw
          case rel => exact ⟨k + 1, by omega, by go_num, by rw [accL_yes hlt HX.out h1 h2, List.length_append, IV_snoc]; exact HO1.out, HB1.out⟩
          case measure => simp [intOf]; omega
        · go_wp2_with fail
          go_roundw
          case rel => exact ⟨k + 1, by omega, by go_num, by rw [accL_no hlt HX.out (by omega)]; exact HOWN.out, HBR.out⟩
          case measure => simp [intOf]; omega
      · go_wp2_with fail
        go_roundw
        case rel => exact ⟨k + 1, by omega, by go_num, by rw [accL_no hlt HX.out (by omega)]; exact HOWN.out, HBR.out⟩
        case measure => simp [intOf]; omega
    · obtain rfl : k = l.length := by omega
      by_cases hlh : lo < hi
      · go_wp2_with (at_builtin; refine wpList_append_own _ rfl _ _ 30 rfl (w.heap.size + 1) 3 i0 (.int .i64 0) 1 8 Tryd.underlying30 hi0 hz0 hz1 hz2 rfl (by decide) _ _ _ rfl (HOWN.out.alloc _) ⟨wr.heap.size, 0, none⟩ 1 1 [.int .i64 hi] rfl rfl ?c1 ?c2 ?c3 ?c4 ?c5 ?_)
        case c1 => exact cell_one_new _ _ _
        case c2 => simp [Value.oneCell']
        case c3 => have := HSP.out l.length; simp only [maxLen]; omega
        case c4 => have := HSP.out l.length; omega
        case c5 => simp; omega
        intro v' w1 hown1 hg1 _
        have HO1 := Lib.hid hown1
        have HB1 := Lib.hid ((HBR.out.alloc (by omega) _).grown hg1 (by simp; omega) (ownBlock_ge HOWN.out))
        clear hown1 hg1
        go_wp2_with fail
        go_ret
        refine outInts_mk (base := w.heap.size + 1) (e := 3) ?_ (by omega) (HW1.out.trans (HB1.out.mono (by omega)))
        have e : stopsL l lo hi = accL l lo hi l.length ++ [hi] := by rw [accL_end, stopsL, if_pos hlh]
        rw [e, List.length_append, IV_snoc]; exact HO1.out
      · go_wp2_with fail
        go_ret
        refine outInts_mk (base := w.heap.size + 1) (e := 3) ?_ (by omega) (HW1.out.trans (HBR.out.mono (by omega)))
        have e : stopsL l lo hi = accL l lo hi l.length := by rw [accL_end, stopsL, if_neg (by omega)]; simp
        rw [e]; exact HOWN.out
end Go.Proofs.YtgibbaadjbohdaaDoor
/- The contracts of cmp.Or at ints and of spans' comparison of two fractions; old memory stays. -/
namespace Go.Proofs.YtgibbaadjbohdaaDoor
open Go.RowKit

def orL : List Int → Int
  | [] => 0
  | x :: xs => if x = 0 then orL xs else x
theorem orL_drop (l : List Int) (k : Nat) (h : k < l.length) : orL (l.drop k) = if l[k]?.getD 0 = 0 then orL (l.drop (k + 1)) else l[k]?.getD 0 := by
  rw [List.drop_eq_getElem_cons h]
  simp [orL, h]
set_option maxHeartbeats 400000 in
theorem cmpOr_any (A : Option Addr) (l : List Int) (c : Nat) (w : World) (hl : l.length ≤ 1000000) (hA : Ints w A l) :
    Calls Tryd.prog 63 #[.slice A l.length c] w fun e w' => e = .returned (.int .i64 (orL l)) ∧ w' = w := by
  have HA := Lib.hid hA
  clear hA
  go_enter Tryd.func63, Tryd.ntmps63
  go_wp2
  go_loop [5, 8] (fun _ i => ∃ k : Nat, k ≤ l.length ∧ i = .int .i64 k ∧ orL (l.drop k) = orL l) (fun _ i => l.length - (intOf i).toNat)
  case atStart => exact ⟨0, by omega, rfl, by simp⟩
  case round =>
    obtain ⟨k, hk, rfl, hp⟩ := hrel
    have HP := Lib.hid hp
    clear hp
    by_cases hlt : k < l.length
    · obtain ⟨b, off, rfl, hbl, hc⟩ := HA.out (by omega)
      have h1 := hc k hlt
      have hd := Lib.hid (orL_drop l k hlt)
      clear hc
      generalize hx : l[k]?.getD 0 = x at h1
      have HX := Lib.hid hx
      clear hx
      by_cases hx0 : (x != 0) = true
      · go_wp2
        go_ret
        refine ⟨?_, rfl⟩
        rw [← HP.out, hd.out, HX.out, if_neg (by simpa using hx0)]; rfl
      · have hx1 : (x != 0) = false := by simpa using hx0
        clear hx0
        go_wp2
        go_round
        case rel => exact ⟨k + 1, by omega, by go_num, by rw [← HP.out, hd.out, HX.out, if_pos (by simpa using hx1)]⟩
        case measure => simp [intOf]; omega
    · go_wp2
      go_ret
      refine ⟨?_, rfl⟩
      rw [← HP.out, List.drop_eq_nil_of_le (by omega)]; rfl
theorem ints_new2 (w : World) (x y : Int) (t : TypeId) (B : Nat) (hB : B = w.heap.size) : Ints (w.alloc (.cells #[.int .i64 x, .int .i64 y] t)) (some ⟨B, 0, none⟩) [x, y] := fun _ => by
  subst hB
  refine ⟨_, 0, rfl, by simp, fun k hk => ?_⟩
  match k, hk with
  | 0, _ => simp
  | 1, _ => simp
def cmpV (n d m f : Int) : Int := orL [n / d - m / f, (n - n / d * d) * f - (m - m / f * f) * d]
theorem rem_bd (n d : Int) (hd : 1 ≤ d) : 0 ≤ n - n / d * d ∧ n - n / d * d < d := by
  have e2 := Int.mul_ediv_add_emod n d
  have e3 := Int.emod_nonneg n (show d ≠ 0 by omega)
  have e4 := Int.emod_lt_of_pos n (show 0 < d by omega)
  rw [Int.mul_comm] at e2
  omega
set_option maxHeartbeats 1000000 in
theorem compare_any (n d m f : Int) (w : World) (hd : 1 ≤ d) (hd' : d ≤ 100000000) (hf : 1 ≤ f) (hf' : f ≤ 100000000) (hn : -1000000000000000 ≤ n) (hn' : n ≤ 1000000000000000) (hm : -1000000000000000 ≤ m) (hm' : m ≤ 1000000000000000) :
    Calls Tryd.prog 37 #[.agg #[.int .i64 n, .int .i64 d], .agg #[.int .i64 m, .int .i64 f]] w fun e w' => e = .returned (.int .i64 (cmpV n d m f)) ∧ Below w.heap.size w w' := by
  have hq1 : ∀ W, Calls Tryd.prog 21 #[.int .i64 n, .int .i64 d] W fun e w' => e = .returned (.int .i64 (n / d)) ∧ w' = W := fun W => floor_any n d W hd (by omega) (by omega) (by omega)
  have hq2 : ∀ W, Calls Tryd.prog 21 #[.int .i64 m, .int .i64 f] W fun e w' => e = .returned (.int .i64 (m / f)) ∧ w' = W := fun W => floor_any m f W hf (by omega) (by omega) (by omega)
  have b1 := ediv_bd n d 1000000000000000 (by omega) hd hn hn'
  have b2 := ediv_bd m f 1000000000000000 (by omega) hf hm hm'
  have r1 := rem_bd n d hd
  have r2 := rem_bd m f hf
  have hC : cmpV n d m f = orL [n / d - m / f, (n - n / d * d) * f - (m - m / f * f) * d] := rfl
  generalize n / d = a at *
  generalize m / f = b at *
  have p1 := mul_bd (a := n - a * d) (b := f) (A := 100000000) (B := 100000000) (by omega) (by omega) (by omega) (by omega)
  have p2 := mul_bd (a := m - b * f) (b := d) (A := 100000000) (B := 100000000) (by omega) (by omega) (by omega) (by omega)
  have HQ1 := Lib.hid hq1
  have HQ2 := Lib.hid hq2
  have HC := Lib.hid hC
  clear hq1 hq2 hC
  go_enter Tryd.func37, Tryd.ntmps37
  go_wp2_with fail
  go_quiet ((go_at_call 21; first | (with_reducible exact Calls.quiet_of_same (HQ1.out _)) | (with_reducible exact Calls.quiet_of_same (HQ2.out _))))
  go_wp2_with fail
  refine (cmpOr_any _ [a - b, (n - a * d) * f - (m - b * f) * d] 2 _ (by simp) ?_).mono ?_
  · exact ints_new2 _ _ _ _ _ (by simp)
  · rintro e w' ⟨rfl, rfl⟩
    go_wp2_with fail
    go_ret
    refine ⟨by rw [HC.out]; rfl, ?_⟩
    repeat (first | exact Below.refl _ _ | refine Below.alloc ?_ (by simp <;> omega) _ | refine Below.drewN' ?_ _)
end Go.Proofs.YtgibbaadjbohdaaDoor
/- What a round of a range over a function keeps: every block of cells but some of the caller's own. -/
namespace Go.Proofs.YtgibbaadjbohdaaDoor
open Go.RowKit Go.Shelf

structure KB (n1 n2 : Nat) (W W' : World) : Prop where
  os : W'.os = W.os
  tape : W'.tape = W.tape
  output : W'.output = W.output
  size : W.heap.size ≤ W'.heap.size
  same : ∀ (k : Nat) (cs : Array Value) (t : TypeId) (fz : Nat × Nat), ¬ (n1 ≤ k ∧ k < n2) → W.heap[k]? = some (.cells cs t fz) → W'.heap[k]? = some (.cells cs t fz)
theorem KB.refl (n1 n2 : Nat) (W : World) : KB n1 n2 W W := ⟨rfl, rfl, rfl, Nat.le_refl _, fun _ _ _ _ _ h => h⟩
theorem KB.trans {n1 n2 : Nat} {A B C : World} (h : KB n1 n2 A B) (k : KB n1 n2 B C) : KB n1 n2 A C :=
  ⟨k.os.trans h.os, k.tape.trans h.tape, k.output.trans h.output, Nat.le_trans h.size k.size, fun i cs t fz hi ho => k.same i cs t fz hi (h.same i cs t fz hi ho)⟩
theorem KB.putObj {n1 n2 : Nat} {W : World} {l : Nat} {o : Obj} (o' : Obj) (h : W.heap[l]? = some o) (hc : o.isCells = false) : KB n1 n2 W (W.putObj l o') :=
  ⟨rfl, rfl, rfl, by simp, fun k cs t fz _ hk => by
    rw [World.putObj_heap_other (fun e => ?_)]
    · exact hk
    · subst e; rw [hk] at h; cases h; simp [Obj.isCells] at hc⟩
theorem KB.of_below {n1 n2 : Nat} {W W' : World} (h : Below W.heap.size W W') : KB n1 n2 W W' :=
  ⟨h.os, h.tape, h.output, h.size, fun k _ _ _ _ hk => (h.block k (Array.getElem?_eq_some_iff.1 hk).1).trans hk⟩
theorem KB.setCell {n1 n2 : Nat} (W : World) (p : Addr) (u : Value) (hp : n1 ≤ p.block ∧ p.block < n2) : KB n1 n2 W (W.setCell p u) :=
  ⟨rfl, rfl, rfl, by simp [World.setCell], fun k _ _ _ hn hk => (Below.heap_setCell W p u k (fun e => hn (e ▸ hp))).trans hk⟩
theorem KB.block {n1 n2 : Nat} {W W' : World} (h : KB n1 n2 W W') {b o : Nat} {v : Value} (hb : ¬ (n1 ≤ b ∧ b < n2)) (hc : W.cell? ⟨b, o, none⟩ = some v) : W'.cell? ⟨b, o, none⟩ = some v ∧ W'.frozen? ⟨b, o, none⟩ = W.frozen? ⟨b, o, none⟩ := by
  have : ∃ cs t fz, W.heap[b]? = some (.cells cs t fz) := by
    unfold World.cell? at hc
    cases e : W.heap[b]? with
    | none => simp [e] at hc
    | some ob => cases ob <;> simp [e] at hc ⊢
  obtain ⟨cs, t, fz, hk⟩ := this
  have h2 := h.same b cs t fz hb hk
  have e : W'.heap[b]? = W.heap[b]? := h2.trans hk.symm
  exact ⟨(World.cell?_of_block (w := W) e).trans hc, World.frozen?_of_block (w := W) e⟩
theorem Ints.kb {n1 n2 : Nat} {w W : World} {A : Option Addr} {l : List Int} (h : Ints w A l) (hn : w.heap.size ≤ n1) (hk : KB n1 n2 w W) : Ints W A l := fun hl => by
  obtain ⟨b, off, e, hlt, hc⟩ := h hl
  exact ⟨b, off, e, Nat.lt_of_lt_of_le hlt hk.size, fun k hk' => (hk.block (by omega) (hc k hk')).1⟩
theorem Mat.kb {n1 n2 : Nat} {w W : World} {A : Option Addr} {l : List (List Int)} (h : Mat w A l) (hn : w.heap.size ≤ n1) (hk : KB n1 n2 w W) : Mat W A l := fun hl => by
  obtain ⟨b, off, e, hlt, hc⟩ := h hl
  refine ⟨b, off, e, Nat.lt_of_lt_of_le hlt hk.size, fun k hk' => ?_⟩
  obtain ⟨B, c, h1, h2⟩ := hc k hk'
  exact ⟨B, c, (hk.block (by omega) h1).1, h2.kb hn hk⟩
theorem TabR.kb {n1 n2 : Nat} {w w' : World} {X Y V : Option Addr} {cx cy cv : Nat} {xs ys : List Int} {vs : List (List Int)} (h : TabR w X Y V cx cy cv xs ys vs) (hn : w.heap.size ≤ n1) (hk : KB n1 n2 w w') : TabR w' X Y V cx cy cv xs ys vs :=
  ⟨h.hX.kb hn hk, h.hY.kb hn hk, h.hV.kb hn hk, h.lx, h.ly⟩
def IntsAt (w : World) (b off : Nat) (l : List Int) : Prop := ∀ k, k < l.length → w.cell? ⟨b, off + k, none⟩ = some (.int .i64 (l[k]?.getD 0))
theorem IntsAt.kb {n1 n2 : Nat} {w W : World} {b off : Nat} {l : List Int} (h : IntsAt w b off l) (hn : n2 ≤ b) (hk : KB n1 n2 w W) : IntsAt W b off l := fun k hk' => (hk.block (by omega) (h k hk')).1

structure Pt where
  x : Int
  y : Int
  n : Int
  d : Int
  ok : 1 ≤ d ∧ d ≤ 100000000 ∧ -1000000000000000 ≤ n ∧ n ≤ 1000000000000000
def mkPt (x y n d : Int) : Pt := if h : 1 ≤ d ∧ d ≤ 100000000 ∧ -1000000000000000 ≤ n ∧ n ≤ 1000000000000000 then ⟨x, y, n, d, h⟩ else ⟨x, y, 0, 1, by decide⟩
theorem at_bd {xs ys : List Int} {vs : List (List Int)} {x y : Int} (hT : Tbl xs ys vs) (hx : OnAx xs x) (hy : OnAx ys y) :
    1 ≤ atD xs ys x y ∧ atD xs ys x y ≤ 100000000 ∧ -1000000000000000 ≤ atN xs ys vs x y ∧ atN xs ys vs x y ≤ 1000000000000000 := by
  have q1 := hT.ax.cell_on hx
  have q2 := hT.ay.cell_on hy
  unfold atD atN
  generalize cellI xs x = i at *
  generalize cellI ys y = k at *
  have lenv := hT.len
  have b00 := hT.val i k (by omega) (by omega)
  have b01 := hT.val i (k+1) (by omega) (by omega)
  have b10 := hT.val (i+1) k (by omega) (by omega)
  have b11 := hT.val (i+1) (k+1) (by omega) (by omega)
  simp only
  generalize xs[i]?.getD 0 = x0 at *
  generalize xs[i+1]?.getD 0 = x1 at *
  generalize ys[k]?.getD 0 = y0 at *
  generalize ys[k+1]?.getD 0 = y1 at *
  generalize (vs[i]?.getD [])[k]?.getD 0 = z00 at *
  generalize (vs[i]?.getD [])[k+1]?.getD 0 = z01 at *
  generalize (vs[i+1]?.getD [])[k]?.getD 0 = z10 at *
  generalize (vs[i+1]?.getD [])[k+1]?.getD 0 = z11 at *
  obtain ⟨hi, hx0, hx1, hgx, hgx'⟩ := q1
  obtain ⟨hk, hy0, hy1, hgy, hgy'⟩ := q2
  have p1 := mul_bd (a := x1 - x) (b := y1 - y) (A := 10000) (B := 10000) (by omega) (by omega) (by omega) (by omega)
  have p2 := mul_bd (a := x - x0) (b := y1 - y) (A := 10000) (B := 10000) (by omega) (by omega) (by omega) (by omega)
  have p3 := mul_bd (a := x1 - x) (b := y - y0) (A := 10000) (B := 10000) (by omega) (by omega) (by omega) (by omega)
  have p4 := mul_bd (a := x - x0) (b := y - y0) (A := 10000) (B := 10000) (by omega) (by omega) (by omega) (by omega)
  have p5 := mul_bd (a := x1 - x + (x - x0)) (b := y1 - y + (y - y0)) (A := 10000) (B := 10000) (by omega) (by omega) (by omega) (by omega)
  have p6 : 0 < (x1 - x + (x - x0)) * (y1 - y + (y - y0)) := Int.mul_pos (by omega) (by omega)
  have s1 := mul_bd2 (A := 100000000) (B := 1000000) p1.1 (by omega) b00.1 b00.2 (by omega)
  have s2 := mul_bd2 (A := 100000000) (B := 1000000) p2.1 (by omega) b10.1 b10.2 (by omega)
  have s3 := mul_bd2 (A := 100000000) (B := 1000000) p3.1 (by omega) b01.1 b01.2 (by omega)
  have s4 := mul_bd2 (A := 100000000) (B := 1000000) p4.1 (by omega) b11.1 b11.2 (by omega)
  unfold numF denF
  omega
theorem mkPt_at {xs ys : List Int} {vs : List (List Int)} {x y : Int} (hT : Tbl xs ys vs) (hx : OnAx xs x) (hy : OnAx ys y) :
    (mkPt x y (atN xs ys vs x y) (atD xs ys x y)).x = x ∧ (mkPt x y (atN xs ys vs x y) (atD xs ys x y)).y = y ∧ (mkPt x y (atN xs ys vs x y) (atD xs ys x y)).n = atN xs ys vs x y ∧ (mkPt x y (atN xs ys vs x y) (atD xs ys x y)).d = atD xs ys x y := by
  unfold mkPt
  rw [dif_pos (at_bd hT hx hy)]
  exact ⟨rfl, rfl, rfl, rfl⟩
end Go.Proofs.YtgibbaadjbohdaaDoor
/- The iterator spans.corners and what it hands to a loop: all corners of a box on a table, in order. -/
namespace Go.Proofs.YtgibbaadjbohdaaDoor
open Go.RowKit Go.Shelf
attribute [local go_sem] Oper.semAt_some

def encP (p : Pt) : Array Value := #[.agg #[.int .i64 p.x, .int .i64 p.y, .int .i64 p.n, .int .i64 p.d]]
def ptAt (xs ys : List Int) (vs : List (List Int)) (x y : Int) : Pt := mkPt x y (atN xs ys vs x y) (atD xs ys x y)
def rowPts (xs ys : List Int) (vs : List (List Int)) (sy : List Int) (x : Int) : List Pt := sy.map (ptAt xs ys vs x)
def allPts (xs ys : List Int) (vs : List (List Int)) (sx sy : List Int) : List Pt := sx.flatMap (rowPts xs ys vs sy)
def donePts (xs ys : List Int) (vs : List (List Int)) (sx sy : List Int) (i k : Nat) : List Pt := allPts xs ys vs (sx.take i) sy ++ (rowPts xs ys vs sy (sx[i]?.getD 0)).take k
theorem done_zero (xs ys : List Int) (vs : List (List Int)) (sx sy : List Int) : donePts xs ys vs sx sy 0 0 = [] := by simp [donePts, allPts]
theorem done_succ (xs ys : List Int) (vs : List (List Int)) (sx sy : List Int) (i k : Nat) (hk : k < sy.length) :
    donePts xs ys vs sx sy i (k + 1) = donePts xs ys vs sx sy i k ++ [ptAt xs ys vs (sx[i]?.getD 0) (sy[k]?.getD 0)] := by
  unfold donePts
  rw [List.take_succ_eq_append_getElem (by simpa [rowPts] using hk), ← List.append_assoc]
  simp [rowPts, hk]
theorem done_row (xs ys : List Int) (vs : List (List Int)) (sx sy : List Int) (i : Nat) (hi : i < sx.length) :
    donePts xs ys vs sx sy i sy.length = donePts xs ys vs sx sy (i + 1) 0 := by
  unfold donePts allPts
  have e : (rowPts xs ys vs sy (sx[i]?.getD 0)).take sy.length = rowPts xs ys vs sy (sx[i]?.getD 0) := List.take_of_length_le (by simp [rowPts])
  rw [e, List.take_succ_eq_append_getElem hi, List.flatMap_append]
  simp [hi]
theorem done_all (xs ys : List Int) (vs : List (List Int)) (sx sy : List Int) : donePts xs ys vs sx sy sx.length 0 = allPts xs ys vs sx sy := by simp [donePts]
theorem done_len (xs ys : List Int) (vs : List (List Int)) (sx sy : List Int) (i k : Nat) (hi : i < sx.length) (hk : k < sy.length) : (donePts xs ys vs sx sy i k).length < (allPts xs ys vs sx sy).length := by
  have h1 : donePts xs ys vs sx sy i k <+: allPts xs ys vs sx sy := by
    unfold donePts allPts
    conv => rhs; rw [← List.take_append_drop i sx, List.flatMap_append, List.drop_eq_getElem_cons hi, List.flatMap_cons]
    simp only [hi, List.getElem?_eq_getElem, Option.getD_some]
    exact (List.prefix_append_right_inj _).2 ((List.take_prefix _ _).trans (List.prefix_append _ _))
  have h2 := done_succ xs ys vs sx sy i k hk
  have h3 : donePts xs ys vs sx sy i (k + 1) <+: allPts xs ys vs sx sy := by
    unfold donePts allPts
    conv => rhs; rw [← List.take_append_drop i sx, List.flatMap_append, List.drop_eq_getElem_cons hi, List.flatMap_cons]
    simp only [hi, List.getElem?_eq_getElem, Option.getD_some]
    exact (List.prefix_append_right_inj _).2 ((List.take_prefix _ _).trans (List.prefix_append _ _))
  have := h3.length_le
  rw [h2] at this
  simp at this
  omega
theorem done_pre (xs ys : List Int) (vs : List (List Int)) (sx sy : List Int) (i k : Nat) (hi : i < sx.length) : donePts xs ys vs sx sy i k <+: allPts xs ys vs sx sy := by
  unfold donePts allPts
  conv => rhs; rw [← List.take_append_drop i sx, List.flatMap_append, List.drop_eq_getElem_cons hi, List.flatMap_cons]
  simp only [hi, List.getElem?_eq_getElem, Option.getD_some]
  exact (List.prefix_append_right_inj _).2 ((List.take_prefix _ _).trans (List.prefix_append _ _))
end Go.Proofs.YtgibbaadjbohdaaDoor
/- The walk of the iterator spans.corners$1. -/
namespace Go.Proofs.YtgibbaadjbohdaaDoor
open Go.RowKit Go.Shelf
attribute [local go_sem] Oper.semAt_some

theorem OnAx_stops {l : List Int} {lo hi x : Int} (h1 : l[0]?.getD 0 ≤ lo) (h2 : hi ≤ l[l.length-1]?.getD 0) (h : lo ≤ hi) (hx : x ∈ stopsL l lo hi) : OnAx l x := by
  unfold stopsL midL at hx
  simp only [List.cons_append, List.mem_cons, List.mem_append, List.mem_filter, Bool.and_eq_true, decide_eq_true_eq] at hx
  rcases hx with rfl | ⟨_, h3, h4⟩ | h5
  · exact ⟨h1, by omega⟩
  · exact ⟨by omega, by omega⟩
  · split at h5
    · simp at h5; subst h5; exact ⟨by omega, h2⟩
    · simp at h5
theorem stopsL_len (l : List Int) (lo hi : Int) : (stopsL l lo hi).length ≤ l.length + 2 := by
  have h1 := midL_len l lo hi
  unfold stopsL
  split <;> simp <;> omega
theorem enc_at {xs ys : List Int} {vs : List (List Int)} {x y : Int} (hT : Tbl xs ys vs) (hx : OnAx xs x) (hy : OnAx ys y) :
    encP (ptAt xs ys vs x y) = #[.agg #[.int .i64 x, .int .i64 y, .int .i64 (atN xs ys vs x y), .int .i64 (atD xs ys x y)]] := by
  obtain ⟨h1, h2, h3, h4⟩ := mkPt_at hT hx hy
  unfold encP ptAt
  rw [h1, h2, h3, h4]
set_option maxRecDepth 100000 in
set_option maxHeartbeats 1000000 in
theorem corners1_in (n : Nat) (hn : 3 ≤ n) (l bt bx bY n1 n2 : Nat) (xs ys : List Int) (vs : List (List Int)) (X Y V : Option Addr) (cx cy cv : Nat) (xl xh yl yh : Int)
    (hT : Tbl xs ys vs) (hx1 : xs[0]?.getD 0 ≤ xl) (hx2 : xh ≤ xs[xs.length-1]?.getD 0) (hx : xl ≤ xh) (hy1 : ys[0]?.getD 0 ≤ yl) (hy2 : yh ≤ ys[ys.length-1]?.getD 0) (hy : yl ≤ yh)
    (w0 W : World) (hR : TabR w0 X Y V cx cy cv xs ys vs) (hw0 : w0.heap.size ≤ n1) (hn2 : n2 ≤ bt) (_hbx : n2 ≤ bx) (hbY : n2 ≤ bY) (hKW : KB n1 n2 w0 W) (hn2W : n2 ≤ W.heap.size)
    (ht0 : W.cell? ⟨bt, 0, none⟩ = some (.slice X xs.length cx)) (ht1 : W.cell? ⟨bt, 1, none⟩ = some (.slice Y ys.length cy)) (ht2 : W.cell? ⟨bt, 2, none⟩ = some (.slice V vs.length cv))
    (hbx0 : W.cell? ⟨bx, 0, none⟩ = some (.int .i64 xl)) (hbx1 : W.cell? ⟨bx, 1, none⟩ = some (.int .i64 xh)) (hby0 : W.cell? ⟨bY, 0, none⟩ = some (.int .i64 yl)) (hby1 : W.cell? ⟨bY, 1, none⟩ = some (.int .i64 yh))
    (J Jx : List Pt → World → Prop) (hJ : AbidesFrom W.heap.size J) (_hJx : AbidesFrom W.heap.size Jx)
    (hYd : ∀ pre x W1, J pre W1 → pre.length < (allPts xs ys vs (stopsL xs xl xh) (stopsL ys yl yh)).length → YieldAt Fence.wide (n - 1) Tryd.prog l (encP x) W1 fun e W' =>
      (e = .returned (.bool true) ∧ J (pre ++ [x]) W' ∧ KB n1 n2 W1 W') ∨ (e = .returned (.bool false) ∧ Jx (pre ++ [x]) W')) (h0 : J [] W) :
    CallsIn Fence.wide n Tryd.prog 60 #[.func (.yield l) #[] #[], .pointer (some ⟨bt, 0, none⟩), .pointer (some ⟨bx, 0, none⟩), .pointer (some ⟨bY, 0, none⟩)] W fun e W' => (∃ v, e = .returned v) ∧
      ((∃ ps, ps = allPts xs ys vs (stopsL xs xl xh) (stopsL ys yl yh) ∧ J ps W') ∨ (∃ pre, pre <+: allPts xs ys vs (stopsL xs xl xh) (stopsL ys yl yh) ∧ Jx pre W')) := by
  have HYD := Lib.hid hYd
  have HJ := Lib.hid hJ
  have H0 := Lib.hid h0
  have HT := Lib.hid hT
  have HRR := Lib.hid hR
  have HKW := Lib.hid hKW
  have t12x := hT.ax.twelve
  have t12y := hT.ay.twelve
  have HT0 := Lib.hid ht0
  have HT1 := Lib.hid ht1
  have HT2 := Lib.hid ht2
  clear hYd hJ h0 hT hR hKW
  refine callsIn_of_wp Tryd.func60 rfl trivial ?_ rfl
  simp only [Tryd.ntmps60, List.size_toArray, List.length_cons, List.length_nil, Nat.reduceAdd, Nat.reduceSub, Array.replicate_succ, Array.replicate_zero, List.push_toArray, List.append_toArray, List.nil_append, List.cons_append]
  gi_wp2_with fail
  refine ⟨trivial, fun _ => by omega, (callsIn_wide.2 (stops_any X xs cx xl xh W (by omega) (HRR.out.hX.kb hw0 HKW.out))).mono ?_⟩
  rintro e W1 ⟨SX, cs, rfl, hSX, hlc, hfr, hbW⟩
  have HSX := Lib.hid hSX
  have HFR := Lib.hid hfr
  have hJ1 := HJ.out _ _ _ none H0.out ⟨hbW.os, hbW.tape, hbW.output, hbW.size, fun k hk _ => hbW.block k hk⟩ (fun r e => by cases e)
  have HJ1 := Lib.hid hJ1
  have HBW := Lib.hid hbW
  generalize hsx : stopsL xs xl xh = sx at *
  have hsl : sx.length ≤ 14 := by have := stopsL_len xs xl xh; rw [hsx] at this; omega
  have HSXE := Lib.hid hsx
  clear hSX hlc hfr hbW hJ1 hsx
  gi_wp2_with fail
  gi_loopw [14] (fun i wr => ∃ a : Nat, a ≤ sx.length ∧ i = .int .i64 a ∧ J (donePts xs ys vs sx (stopsL ys yl yh) a 0) wr ∧ KB n1 n2 W1 wr) (fun i _ => sx.length - (intOf i).toNat)
  case atStart =>
    exact ⟨0, by omega, rfl, by rw [done_zero]; exact HJ1.out, KB.refl _ _ _⟩
  case round =>
    obtain ⟨a, ha, rfl, hJa, hKa⟩ := hrel
    obtain ⟨wo, rfl⟩ : ∃ wo : World, wo = wr := ⟨_, rfl⟩
    have hK0 : KB n1 n2 W wo := (KB.of_below HBW.out).trans hKa
    have c0 := (hK0.block (by omega) ht0).1
    have c1 := (hK0.block (by omega) ht1).1
    have c2 := (hK0.block (by omega) ht2).1
    have c3 := (hK0.block (by omega) hby0).1
    have c4 := (hK0.block (by omega) hby1).1
    have HJA := Lib.hid hJa
    have HKA := Lib.hid hKa
    have HK0 := Lib.hid hK0
    clear hJa hKa hK0 ht0 ht1 ht2 hby0 hby1 hbx0 hbx1
    by_cases hlt : a < sx.length
    · obtain ⟨g, off, rfl, hg, hc⟩ := HSX.out (by omega)
      have hg2 : W.heap.size ≤ g := HFR.out _ rfl
      have c5 := (HKA.out.block (by omega) (hc a hlt)).1
      have hox : OnAx xs (sx[a]?.getD 0) := OnAx_stops hx1 hx2 hx (by rw [HSXE.out]; simp [hlt])
      have HOX := Lib.hid hox
      clear hc hox
      generalize hxa : sx[a]?.getD 0 = xa at c5 HOX
      have HXA := Lib.hid hxa
      clear hxa
      gi_wp2_with fail
      refine ⟨trivial, fun _ => by omega, (callsIn_wide.2 (stops_any Y ys cy yl yh wo (by omega) (HRR.out.hY.kb hw0 (HKW.out.trans HK0.out)))).mono ?_⟩
      rintro e W2 ⟨SY, cs2, rfl, hSY, hlc, hfr2, hbW2⟩
      have HSY := Lib.hid hSY
      have HFR2 := Lib.hid hfr2
      have HJ2 := Lib.hid (HJ.out _ _ _ none HJA.out ⟨hbW2.os, hbW2.tape, hbW2.output, hbW2.size, fun k hk _ => hbW2.block k hk⟩ (fun r e => by cases e))
      have HK2 : Hid (KB n1 n2 W W2) := HK0.out.trans (KB.of_below hbW2)
      have HKA2 : Hid (KB n1 n2 W1 W2) := HKA.out.trans (KB.of_below hbW2)
      have hsz2 : W.heap.size ≤ wo.heap.size := HK0.out.size
      have d0 := (HK2.out.block (b := bt) (by omega) HT0.out).1
      generalize hsy : stopsL ys yl yh = sy at *
      have hsl2 : sy.length ≤ 14 := by have := stopsL_len ys yl yh; rw [hsy] at this; omega
      have HSYE := Lib.hid hsy
      clear hSY hlc hfr2 hbW2 hsy c0 c1 c2 c3 c4 d0
      gi_wp2_with fail
      gi_loopw [23] (fun i wq => ∃ b : Nat, b ≤ sy.length ∧ i = .int .i64 b ∧ J (donePts xs ys vs sx sy a b) wq ∧ KB n1 n2 W2 wq) (fun i _ => sy.length - (intOf i).toNat)
      case atStart => exact ⟨0, by omega, rfl, HJ2.out, KB.refl _ _ _⟩
      case round =>
        obtain ⟨b, hb, rfl, hJb, hKb⟩ := hrel
        have hKq : KB n1 n2 W wr := HK2.out.trans hKb
        have c0 := (hKq.block (by omega) HT0.out).1
        have c1 := (hKq.block (by omega) HT1.out).1
        have c2 := (hKq.block (by omega) HT2.out).1
        have HJB := Lib.hid hJb
        have HKQ := Lib.hid hKq
        have HKB := Lib.hid hKb
        clear hJb hKb hKq
        by_cases hlt2 : b < sy.length
        · obtain ⟨g2, off2, rfl, hg2', hc2⟩ := HSY.out (by omega)
          have hgg : wo.heap.size ≤ g2 := HFR2.out _ rfl
          have c6 := (HKB.out.block (by omega) (hc2 b hlt2)).1
          have hoy : OnAx ys (sy[b]?.getD 0) := OnAx_stops hy1 hy2 hy (by rw [HSYE.out]; simp [hlt2])
          have HOY := Lib.hid hoy
          clear hc2 hoy
          generalize hyb : sy[b]?.getD 0 = yb at c6 HOY
          have HYB := Lib.hid hyb
          clear hyb
          gi_wp2_with fail
          refine ⟨trivial, fun _ => by omega, (callsIn_wide.2 (at_any xs ys vs X Y V cx cy cv xa yb wr HT.out (HRR.out.kb hw0 (HKW.out.trans HKQ.out)) HOX.out HOY.out)).mono ?_⟩
          rintro e W3 ⟨rfl, hbW3⟩
          have hJ3 := HJ.out _ _ _ none HJB.out ⟨hbW3.os, hbW3.tape, hbW3.output, hbW3.size, fun k hk _ => hbW3.block k hk⟩ (fun r e => by cases e)
          have HKB3 : Hid (KB n1 n2 W2 W3) := HKB.out.trans (KB.of_below hbW3)
          have hlen := done_len xs ys vs sx sy a b hlt hlt2
          obtain ⟨fn, tmps, assign, body, hy', hR⟩ := HYD.out _ (ptAt xs ys vs xa yb) W3 hJ3 hlen
          rw [enc_at HT.out HOX.out HOY.out] at hy'
          have HDS := Lib.hid (done_succ xs ys vs sx sy a b hlt2)
          rw [HXA.out, HYB.out] at HDS
          generalize donePts xs ys vs sx sy a b = pre at *
          generalize ptAt xs ys vs xa yb = pt at *
          generalize atN xs ys vs xa yb = an at *
          generalize atD xs ys xa yb = ad at *
          have HR := Lib.hid hR
          clear hJ3 hlen hbW3 hR
          gi_wp2_with fail
          refine ⟨fun _ => by omega, HR.out.mono ?_⟩
          rintro e W4 (⟨rfl, hJ4, hk4⟩ | ⟨rfl, hJx4⟩)
          · have HJ4 := Lib.hid hJ4
            have HK4 := Lib.hid (HKB3.out.trans hk4)
            clear hJ4 hk4
            gi_wp2_with fail
            go_roundw
            case rel => exact ⟨b + 1, by omega, by go_num, by rw [HDS.out]; exact HJ4.out, HK4.out⟩
            case measure => simp [intOf]; omega
          · have HP := Lib.hid (done_pre xs ys vs sx sy a (b + 1) hlt)
            rw [HDS.out] at HP
            have HX4 := Lib.hid hJx4
            clear hJx4
            gi_wp2_with fail
            refine bodyPost_ret (results_none rfl _ _ _) rfl ?_
            exact ⟨⟨_, rfl⟩, .inr ⟨_, by rw [HSXE.out, HSYE.out]; exact HP.out, HX4.out⟩⟩
        · obtain rfl : b = sy.length := by omega
          have HDR := Lib.hid (done_row xs ys vs sx sy a hlt)
          gi_wp2_with fail
          go_roundw
          case rel => exact ⟨a + 1, by omega, by go_num, by rw [HSYE.out, ← HDR.out]; exact HJB.out, HKA2.out.trans HKB.out⟩
          case measure => simp [intOf]; omega
    · obtain rfl : a = sx.length := by omega
      gi_wp2_with fail
      go_end0
      exact ⟨⟨_, rfl⟩, .inl ⟨_, rfl, by rw [← done_all, HSXE.out]; exact HJA.out⟩⟩
end Go.Proofs.YtgibbaadjbohdaaDoor
/- The contract of spans.extremes: the corners with the least and the greatest value; old memory stays. -/
namespace Go.Proofs.YtgibbaadjbohdaaDoor
open Go.RowKit Go.Shelf
attribute [local go_sem] Oper.semAt_some

theorem corners_any (t1 t2 t3 x1 x2 y1 y2 : Value) (w : World) :
    Calls Tryd.prog 36 #[.agg #[t1, t2, t3], .agg #[x1, x2], .agg #[y1, y2]] w fun e w' => e = .returned (.func (.func 60) #[] #[.pointer (some ⟨w.heap.size, 0, none⟩), .pointer (some ⟨w.heap.size + 1, 0, none⟩), .pointer (some ⟨w.heap.size + 2, 0, none⟩)]) ∧
      ((w.alloc (.cells #[t1, t2, t3] 33)).alloc (.cells #[x1, x2] 37)).alloc (.cells #[y1, y2] 37) = w' := by
  go_enter Tryd.func36, Tryd.ntmps36
  go_wp2_with fail
  go_ret
  exact ⟨rfl, rfl⟩
theorem corners_stops (n : Nat) (hn : 3 ≤ n) (bt n1 n2 : Nat) (xs ys : List Int) (vs : List (List Int)) (X Y V : Option Addr) (cx cy cv : Nat) (xl xh yl yh : Int)
    (hT : Tbl xs ys vs) (hx1 : xs[0]?.getD 0 ≤ xl) (hx2 : xh ≤ xs[xs.length-1]?.getD 0) (hx : xl ≤ xh) (hy1 : ys[0]?.getD 0 ≤ yl) (hy2 : yh ≤ ys[ys.length-1]?.getD 0) (hy : yl ≤ yh)
    (w0 W : World) (hR : TabR w0 X Y V cx cy cv xs ys vs) (hw0 : w0.heap.size ≤ n1) (hn2 : n2 ≤ bt) (hKW : KB n1 n2 w0 W) (hbt : bt + 2 < W.heap.size)
    (ht : W.heap[bt]? = some (.cells #[.slice X xs.length cx, .slice Y ys.length cy, .slice V vs.length cv] 33)) (hbx : W.heap[bt + 1]? = some (.cells #[.int .i64 xl, .int .i64 xh] 37)) (hby : W.heap[bt + 2]? = some (.cells #[.int .i64 yl, .int .i64 yh] 37)) :
    SeqStopsK Fence.wide n Tryd.prog 60 #[.pointer (some ⟨bt, 0, none⟩), .pointer (some ⟨bt + 1, 0, none⟩), .pointer (some ⟨bt + 2, 0, none⟩)] encP (KB n1 n2)
      (fun ps => ps = allPts xs ys vs (stopsL xs xl xh) (stopsL ys yl yh)) (fun pre => pre <+: allPts xs ys vs (stopsL xs xl xh) (stopsL ys yl yh)) (allPts xs ys vs (stopsL xs xl xh) (stopsL ys yl yh)).length W := by
  intro l J Jx W' hb hJ hJx hYd h0
  have hc : ∀ {b : Nat} {cs : Array Value} {t : TypeId} {v : Value} (o : Nat), W.heap[b]? = some (.cells cs t) → cs[o]? = some v → b < W.heap.size → W'.cell? ⟨b, o, none⟩ = some v := fun o h1 h2 h3 => by
    rw [hb.cell (p := ⟨_, o, none⟩) h3, cell_of_row W _ o _ _ _ h1]; exact h2
  exact corners1_in n hn l bt (bt + 1) (bt + 2) n1 n2 xs ys vs X Y V cx cy cv xl xh yl yh hT hx1 hx2 hx hy1 hy2 hy w0 W' hR hw0 hn2 (by omega) (by omega) (hKW.trans (KB.of_below hb)) (by have := hb.size; omega)
    (hc 0 ht rfl (by omega)) (hc 1 ht rfl (by omega)) (hc 2 ht rfl (by omega)) (hc 0 hbx rfl (by omega)) (hc 1 hbx rfl (by omega)) (hc 0 hby rfl (by omega)) (hc 1 hby rfl (by omega)) J Jx hJ hJx hYd h0

def stepE (o : Option (Pt × Pt)) (p : Pt) : Option (Pt × Pt) :=
  match o with
  | none => some (p, p)
  | some (l, m) => some (if cmpV p.n p.d l.n l.d < 0 then p else l, if 0 < cmpV p.n p.d m.n m.d then p else m)
theorem stepE_some (l m p : Pt) : stepE (some (l, m)) p = some (if cmpV p.n p.d l.n l.d < 0 then p else l, if 0 < cmpV p.n p.d m.n m.d then p else m) := rfl
def extrE (ps : List Pt) : Option (Pt × Pt) := ps.foldl stepE none
theorem extrE_snoc (ps : List Pt) (p : Pt) : extrE (ps ++ [p]) = stepE (extrE ps) p := by simp [extrE]
theorem extrE_ne (ps : List Pt) (h : ps ≠ []) : ∃ l m, extrE ps = some (l, m) := by
  have key : ∀ (ps : List Pt) (o : Option (Pt × Pt)), (o ≠ none ∨ ps ≠ []) → ps.foldl stepE o ≠ none := by
    intro ps
    induction ps with
    | nil => intro o h; rcases h with h | h
             · exact h
             · exact absurd rfl h
    | cons p ps ih => intro o _; exact ih _ (.inl (by cases o <;> simp [stepE]))
  have h1 := key ps none (.inr h)
  unfold extrE
  cases e : ps.foldl stepE none with
  | none => exact absurd e h1
  | some lm => exact ⟨lm.1, lm.2, rfl⟩
theorem allPts_ne (xs ys : List Int) (vs : List (List Int)) (xl xh yl yh : Int) : allPts xs ys vs (stopsL xs xl xh) (stopsL ys yl yh) ≠ [] := by
  simp [allPts, stopsL, rowPts]
def vP (p : Pt) : Array Value := #[.int .i64 p.x, .int .i64 p.y, .int .i64 p.n, .int .i64 p.d]
def v0 : Array Value := #[.int .i64 0, .int .i64 0, .int .i64 0, .int .i64 0]
def lowV : Option (Pt × Pt) → Array Value
  | none => v0
  | some (l, _) => vP l
def topV : Option (Pt × Pt) → Array Value
  | none => v0
  | some (_, m) => vP m
def Ext3 (B : Nat) (cl cm : Array Value) (f : Bool) (W : World) : Prop :=
  W.heap[B]? = some (.cells cl 92) ∧ W.heap[B + 1]? = some (.cells cm 92) ∧ W.heap[B + 1 + 1]? = some (.cells #[.bool f] 4)
def ExtSt (B : Nat) (o : Option (Pt × Pt)) (W : World) : Prop := Ext3 B (lowV o) (topV o) o.isSome W
theorem extSt_own (B : Nat) {β : Type} (f : β → Option (Pt × Pt)) : Own (fun s W => ExtSt B (f s) W) := fun _ _ _ _ hs hg hr =>
  ⟨(grownBy_keeps_cells hg hr hs.1 rfl).trans hs.1, (grownBy_keeps_cells hg hr hs.2.1 rfl).trans hs.2.1, (grownBy_keeps_cells hg hr hs.2.2 rfl).trans hs.2.2⟩
theorem heap_set_same {W : World} {B : Nat} {cs : Array Value} {t : TypeId} (o : Nat) (v : Value) (h : W.heap[B]? = some (.cells cs t)) : (W.setCell ⟨B, o, none⟩ v).heap[B]? = some (.cells (cs.setIfInBounds o v) t) := by
  obtain ⟨hlt, hk⟩ := Array.getElem?_eq_some_iff.1 h
  show (W.heap.modify B _)[B]? = _
  rw [Array.getElem?_eq_getElem (by rw [Array.size_modify]; exact hlt), Array.getElem_modify_self, hk]
  rfl
theorem heap_set_other {W : World} {B k : Nat} {ob : Obj} (o : Nat) (v : Value) (hne : k ≠ B) (h : W.heap[k]? = some ob) : (W.setCell ⟨B, o, none⟩ v).heap[k]? = some ob := (Below.heap_setCell W ⟨B, o, none⟩ v k hne).trans h
def put4 (W : World) (B : Nat) (a b c d : Value) : World := (((W.setCell ⟨B, 0, none⟩ a).setCell ⟨B, 1, none⟩ b).setCell ⟨B, 2, none⟩ c).setCell ⟨B, 3, none⟩ d
theorem put4_same {W : World} {B : Nat} {x0 x1 x2 x3 : Value} {t : TypeId} (a b c d : Value) (h : W.heap[B]? = some (.cells #[x0, x1, x2, x3] t)) : (put4 W B a b c d).heap[B]? = some (.cells #[a, b, c, d] t) :=
  heap_set_same 3 d (heap_set_same 2 c (heap_set_same 1 b (heap_set_same 0 a h)))
theorem put4_other {W : World} {B k : Nat} {ob : Obj} (a b c d : Value) (hne : k ≠ B) (h : W.heap[k]? = some ob) : (put4 W B a b c d).heap[k]? = some ob :=
  heap_set_other _ _ hne (heap_set_other _ _ hne (heap_set_other _ _ hne (heap_set_other _ _ hne h)))
theorem Ext3.low {B : Nat} {x0 x1 x2 x3 : Value} {cm : Array Value} {f : Bool} {W : World} (a b c d : Value) (h : Ext3 B #[x0, x1, x2, x3] cm f W) : Ext3 B #[a, b, c, d] cm f (put4 W B a b c d) :=
  ⟨put4_same _ _ _ _ h.1, put4_other _ _ _ _ (by omega) h.2.1, put4_other _ _ _ _ (by omega) h.2.2⟩
theorem Ext3.top {B : Nat} {x0 x1 x2 x3 : Value} {cl : Array Value} {f : Bool} {W : World} (a b c d : Value) (h : Ext3 B cl #[x0, x1, x2, x3] f W) : Ext3 B cl #[a, b, c, d] f (put4 W (B + 1) a b c d) :=
  ⟨put4_other _ _ _ _ (by omega) h.1, put4_same _ _ _ _ h.2.1, put4_other _ _ _ _ (by omega) h.2.2⟩
theorem Ext3.flag {B : Nat} {cl cm : Array Value} {f : Bool} {W : World} (g : Bool) (h : Ext3 B cl cm f W) : Ext3 B cl cm g (W.setCell ⟨B + 1 + 1, 0, none⟩ (.bool g)) :=
  ⟨heap_set_other _ _ (by omega) h.1, heap_set_other _ _ (by omega) h.2.1, heap_set_same 0 _ h.2.2⟩
theorem Ext3.below {B : Nat} {cl cm : Array Value} {f : Bool} {W W' : World} (h : Ext3 B cl cm f W) (hb : Below W.heap.size W W') : Ext3 B cl cm f W' :=
  have q : ∀ {k : Nat} {ob : Obj}, W.heap[k]? = some ob → W'.heap[k]? = some ob := fun hk => (hb.block _ (Array.getElem?_eq_some_iff.1 hk).1).trans hk
  ⟨q h.1, q h.2.1, q h.2.2⟩
theorem keeps_below {W W' : World} (h : Below W.heap.size W W') : KeepsOthers W W' := ⟨h.size, fun k _ hk _ => (h.block k (Array.getElem?_eq_some_iff.1 hk).1).trans hk⟩
structure Rnd (B n1 n2 n₀ : Nat) (W W' : World) : Prop where
  kf : KeepsFrom B W W'
  kb : KB n1 n2 W W'
  bl : Below n₀ W W'
theorem Rnd.refl (B n1 n2 n₀ : Nat) (W : World) : Rnd B n1 n2 n₀ W W := ⟨KeepsFrom.refl _ _, KB.refl _ _ _, Below.refl _ _⟩
theorem Rnd.trans {B n1 n2 n₀ : Nat} {W W' W'' : World} (h : Rnd B n1 n2 n₀ W W') (h' : Rnd B n1 n2 n₀ W' W'') : Rnd B n1 n2 n₀ W W'' := ⟨h.kf.trans h'.kf, h.kb.trans h'.kb, h.bl.trans h'.bl⟩
theorem Rnd.below {B n1 n2 n₀ : Nat} {W W' : World} (h : Below W.heap.size W W') (hn : n₀ ≤ W.heap.size) : Rnd B n1 n2 n₀ W W' := ⟨(keeps_below h).from _, KB.of_below h, h.mono hn⟩
theorem Rnd.set {B n1 n2 n₀ : Nat} (W : World) (b o : Nat) (v : Value) (h1 : n1 ≤ b) (h2 : b < n2) (h3 : n₀ ≤ b) : Rnd B n1 n2 n₀ W (W.setCell ⟨b, o, none⟩ v) :=
  ⟨(KeepsOthers.setCell _ _ _).from _, KB.setCell _ _ _ ⟨h1, h2⟩, (Below.refl _ _).setCell h3 _⟩
theorem Rnd.put4 {B n1 n2 n₀ : Nat} (W : World) (b : Nat) (x y z u : Value) (h1 : n1 ≤ b) (h2 : b < n2) (h3 : n₀ ≤ b) : Rnd B n1 n2 n₀ W (put4 W b x y z u) :=
  (((Rnd.set W b 0 x h1 h2 h3).trans (Rnd.set _ b 1 y h1 h2 h3)).trans (Rnd.set _ b 2 z h1 h2 h3)).trans (Rnd.set _ b 3 u h1 h2 h3)
theorem heap_alloc_at (w : World) (o : Obj) (k : Nat) : (w.alloc o).heap[k]? = if k = w.heap.size then some o else w.heap[k]? := by
  show (w.heap.push o)[k]? = _
  rw [Array.getElem?_push]
theorem cells4 {W : World} {B : Nat} {t : TypeId} {a b c d : Value} (h : W.heap[B]? = some (.cells #[a, b, c, d] t)) :
    (W.cell? ⟨B, 0, none⟩ = some a ∧ W.cell? ⟨B, 1, none⟩ = some b ∧ W.cell? ⟨B, 2, none⟩ = some c ∧ W.cell? ⟨B, 3, none⟩ = some d) ∧
    (W.frozen? ⟨B, 0, none⟩ = false ∧ W.frozen? ⟨B, 1, none⟩ = false ∧ W.frozen? ⟨B, 2, none⟩ = false ∧ W.frozen? ⟨B, 3, none⟩ = false) := by
  refine ⟨⟨?_, ?_, ?_, ?_⟩, ?_, ?_, ?_, ?_⟩
  · rw [cell_of_row W _ 0 _ _ _ h]; rfl
  · rw [cell_of_row W _ 1 _ _ _ h]; rfl
  · rw [cell_of_row W _ 2 _ _ _ h]; rfl
  · rw [cell_of_row W _ 3 _ _ _ h]; rfl
  all_goals simp [World.frozen?, h]
def ExtPost (ps : List Pt) (w : World) (e : Ending) (w' : World) : Prop := ∃ l m, extrE ps = some (l, m) ∧ e = .returned (.tuple #[.agg (vP l), .agg (vP m)]) ∧ Below w.heap.size w w'
set_option maxRecDepth 100000 in
set_option maxHeartbeats 2000000 in
theorem extremes_any (xs ys : List Int) (vs : List (List Int)) (X Y V : Option Addr) (cx cy cv : Nat) (xl xh yl yh : Int) (w : World)
    (hT : Tbl xs ys vs) (hx1 : xs[0]?.getD 0 ≤ xl) (hx2 : xh ≤ xs[xs.length-1]?.getD 0) (hx : xl ≤ xh) (hy1 : ys[0]?.getD 0 ≤ yl) (hy2 : yh ≤ ys[ys.length-1]?.getD 0) (hy : yl ≤ yh)
    (hR : TabR w X Y V cx cy cv xs ys vs) :
    Calls Tryd.prog 20 #[.agg #[.slice X xs.length cx, .slice Y ys.length cy, .slice V vs.length cv], .agg #[.int .i64 xl, .int .i64 xh], .agg #[.int .i64 yl, .int .i64 yh]] w
      (ExtPost (allPts xs ys vs (stopsL xs xl xh) (stopsL ys yl yh)) w) := by
  refine (callsIn_wide (n := 9)).1 ?_
  refine callsIn_of_wp_marks Tryd.func20 rfl trivial ?_ rfl
  simp only [Tryd.ntmps20, List.size_toArray, List.length_cons, List.length_nil, Nat.reduceAdd, Nat.reduceSub, Array.replicate_succ, Array.replicate_zero, List.push_toArray, List.append_toArray, List.nil_append, List.cons_append]
  gi_wp2_with fail
  refine ⟨trivial, (callsIn_wide.2 (corners_any _ _ _ _ _ _ _ _)).mono ?_⟩
  rintro e W0 ⟨rfl, hW0⟩
  simp only [World.size_alloc] at hW0 ⊢
  have hsz : W0.heap.size = w.heap.size + 9 := by rw [← hW0]; simp
  have hB0 : Below w.heap.size w W0 := by
    rw [← hW0]
    repeat (first | exact Below.refl _ _ | refine Below.alloc ?_ (by simp <;> omega) _)
  have h3 : ExtSt (w.heap.size + 1 + 1 + 1) (extrE []) W0 := by
    rw [← hW0]
    refine ⟨?_, ?_, ?_⟩
    · simp only [heap_alloc_at, World.size_alloc]
      repeat (first | rw [if_pos trivial] | rw [if_neg (by omega)])
      rfl
    · simp only [heap_alloc_at, World.size_alloc]
      repeat (first | rw [if_pos trivial] | rw [if_neg (by omega)])
      rfl
    · simp only [heap_alloc_at, World.size_alloc]
      repeat (first | rw [if_pos trivial] | rw [if_neg (by omega)])
      rfl
  have k0 : W0.heap[w.heap.size + 1 + 1 + 1 + 1 + 1 + 1]? = some (.cells #[.slice X xs.length cx, .slice Y ys.length cy, .slice V vs.length cv] 33) := by
    rw [← hW0]; simp only [heap_alloc_at, World.size_alloc]; repeat (first | rw [if_pos trivial] | rw [if_neg (by omega)])
  have k1 : W0.heap[w.heap.size + 1 + 1 + 1 + 1 + 1 + 1 + 1]? = some (.cells #[.int .i64 xl, .int .i64 xh] 37) := by
    rw [← hW0]; simp only [heap_alloc_at, World.size_alloc]; repeat (first | rw [if_pos trivial] | rw [if_neg (by omega)])
  have k2 : W0.heap[w.heap.size + 1 + 1 + 1 + 1 + 1 + 1 + 2]? = some (.cells #[.int .i64 yl, .int .i64 yh] 37) := by
    rw [← hW0]; simp only [heap_alloc_at, World.size_alloc]; repeat (first | rw [if_pos trivial] | rw [if_neg (by omega)])
  have hsq := corners_stops 8 (by omega) (w.heap.size + 1 + 1 + 1 + 1 + 1 + 1) (w.heap.size + 1 + 1 + 1) (w.heap.size + 1 + 1 + 1 + 1 + 1 + 1) xs ys vs X Y V cx cy cv xl xh yl yh hT hx1 hx2 hx hy1 hy2 hy w W0 hR (by omega) (by omega) (KB.of_below hB0) (by omega) k0 k1 k2
  have HSQ := Lib.hid hsq
  have H3 := Lib.hid h3
  have HSZ := Lib.hid hsz
  have HB0 := Lib.hid hB0
  clear hsq h3 hsz hB0 k0 k1 k2 hW0 hR hT hx1 hx2 hx hy1 hy2 hy
  gi_wp2_with fail
  refine wpIn_rangeFunc_ownH (F := Fence.wide) (n := 9) rfl (by omega) (gf := 60) rfl trivial (enters_of Tryd.func60 (by kernel_rfl) rfl) HSQ.out KB.trans (fun W l o o' _ h hc _ => KB.putObj o' h hc) (Below.refl _ _) (fun _ => rfl)
    (fun pre W => ExtSt (w.heap.size + 1 + 1 + 1) (extrE pre) W ∧ Below w.heap.size w W) (fun _ _ _ => False)
    (OwnFrom.and (Own.from (extSt_own _ _) _) (ownFrom_below (Nat.le_refl _) (by have := HSZ.out; omega))) (fun _ _ _ _ _ h _ _ => h) ⟨H3.out, HB0.out⟩
    (fun p a' W => ∃ Bx, w.heap.size + 1 + 1 + 1 + 1 + 1 + 1 ≤ Bx ∧ W.heap[Bx]? = some (.cells (vP p) 92) ∧ a' = { tmps := #[.agg #[.slice X xs.length cx, .slice Y ys.length cy, .slice V vs.length cv], .agg #[.int .i64 xl, .int .i64 xh], .agg #[.int .i64 yl, .int .i64 yh],
      .pointer (some ⟨w.heap.size, 0, none⟩), .pointer (some ⟨w.heap.size + 1, 0, none⟩), .pointer (some ⟨w.heap.size + 1 + 1, 0, none⟩), .pointer (some ⟨w.heap.size + 1 + 1 + 1, 0, none⟩), .pointer (some ⟨w.heap.size + 1 + 1 + 1 + 1, 0, none⟩), .pointer (some ⟨w.heap.size + 1 + 1 + 1 + 1 + 1, 0, none⟩),
      .pointer (some ⟨Bx, 0, none⟩), .agg #[.slice X xs.length cx, .slice Y ys.length cy, .slice V vs.length cv], .agg #[.int .i64 xl, .int .i64 xh], .agg #[.int .i64 yl, .int .i64 yh],
      .func (.func 60) #[] #[.pointer (some ⟨w.heap.size + 1 + 1 + 1 + 1 + 1 + 1, 0, none⟩), .pointer (some ⟨w.heap.size + 1 + 1 + 1 + 1 + 1 + 1 + 1, 0, none⟩), .pointer (some ⟨w.heap.size + 1 + 1 + 1 + 1 + 1 + 1 + 2, 0, none⟩)],
      .agg #[.int .i64 p.x, .int .i64 p.y, .int .i64 p.n, .int .i64 p.d], undef, undef, undef, undef, undef, undef, undef, undef, undef, undef, undef, undef, undef, undef, undef, undef, undef, undef, undef, undef, undef, undef, undef, undef], defers := [] })
    ?hAx ?assign ?body ?done ?stop
  case hAx =>
    rintro p a' _ W W' row ⟨Bx, h1, h2, h3⟩ hg hr
    exact ⟨Bx, h1, (grownBy_keeps_cells hg (fun r e => (hr r e).2) h2 rfl).trans h2, h3⟩
  case assign =>
    rintro l pre p W K ⟨hE, hB⟩ hK
    have HE := Lib.hid hE
    have HB := Lib.hid hB
    have HK := Lib.hid hK
    clear hE hB hK
    unfold encP
    gi_wp2_with fail
    have hE := HE.out
    have hB := HB.out
    refine HK.out _ _ ((KeepsOthers.alloc _ _).from _) (KB.of_below ((Below.refl _ _).alloc (Nat.le_refl _) _)) ⟨(extSt_own _ _).alloc _ hE, hB.alloc hB.size _⟩ ⟨W.heap.size, ?_, World.alloc_heap_new _ _, rfl⟩
    have := (Array.getElem?_eq_some_iff.1 hE.2.2).1
    omega
  case body =>
    rintro l pre p a' W hl hrec ⟨hE, hB⟩ ⟨Bx, hBx, hbox, rfl⟩ hlen
    have HE := Lib.hid hE
    have HB := Lib.hid hB
    have HBOX := Lib.hid hbox
    have HES := Lib.hid (extrE_snoc pre p)
    clear hE hB hbox hrec hlen
    generalize extrE pre = o at *
    generalize hoe : extrE (pre ++ [p]) = o' at HES
    have HOE := Lib.hid hoe
    clear hoe
    cases o with
    | none =>
      obtain ⟨h1, h2, h3⟩ := HE.out
      have c0 : W.cell? ⟨w.heap.size + 1 + 1 + 1 + 1 + 1, 0, none⟩ = some (.bool false) := by rw [cell_of_row W _ 0 _ _ _ h3]; rfl
      have f0 : W.frozen? ⟨w.heap.size + 1 + 1 + 1 + 1 + 1, 0, none⟩ = false := by simp [World.frozen?, h3]
      obtain ⟨⟨b0, b1, b2, b3⟩, _⟩ := cells4 HBOX.out
      obtain ⟨⟨l0, l1, l2, l3⟩, l4, l5, l6, l7⟩ := cells4 h1
      obtain ⟨⟨m0, m1, m2, m3⟩, m4, m5, m6, m7⟩ := cells4 h2
      clear h1 h2 h3
      gi_wp2_with fail
      refine ⟨trivial, ?_⟩
      gi_wp2_with fail
      refine ⟨trivial, ?_⟩
      gi_wp2_with fail
      refine (fun (h : Rnd W0.heap.size (w.heap.size + 1 + 1 + 1) (w.heap.size + 1 + 1 + 1 + 1 + 1 + 1) w.heap.size W _ ∧ Ext3 (w.heap.size + 1 + 1 + 1) (vP p) (vP p) true _) => ⟨h.1.kf, h.1.kb, ⟨by rw [HOE.out, HES.out]; exact h.2, HB.out.trans h.1.bl⟩⟩) ⟨?_, ?_⟩
      · exact ((Rnd.put4 W _ _ _ _ _ (by omega) (by omega) (by omega)).trans (Rnd.put4 _ _ _ _ _ _ (by omega) (by omega) (by omega))).trans (Rnd.set _ _ _ _ (by omega) (by omega) (by omega))
      · exact ((Ext3.low _ _ _ _ HE.out).top _ _ _ _).flag true
    | some lm =>
      obtain ⟨lo, mo⟩ := lm
      obtain ⟨hp1, hp2, hp3, hp4⟩ := p.ok
      obtain ⟨hl1, hl2, hl3, hl4⟩ := lo.ok
      obtain ⟨hm1, hm2, hm3, hm4⟩ := mo.ok
      obtain ⟨h1, h2, h3⟩ := HE.out
      have c0 : W.cell? ⟨w.heap.size + 1 + 1 + 1 + 1 + 1, 0, none⟩ = some (.bool true) := by rw [cell_of_row W _ 0 _ _ _ h3]; rfl
      obtain ⟨⟨b0, b1, b2, b3⟩, _⟩ := cells4 HBOX.out
      obtain ⟨⟨l0, l1, l2, l3⟩, _⟩ := cells4 h1
      clear h1 h2 h3
      gi_wp2_with fail
      refine ⟨trivial, ?_⟩
      refine (CallsIn.inRound l (callsIn_wide.2 (compare_any p.n p.d lo.n lo.d W hp1 hp2 hl1 hl2 hp3 hp4 hl3 hl4))).mono ?_
      rintro e W1 ⟨rfl, hb1⟩
      have HE1 : Hid (Ext3 (w.heap.size + 1 + 1 + 1) (vP lo) (vP mo) true W1) := Ext3.below HE.out hb1
      have HX1 := Lib.hid ((hb1.block _ (Array.getElem?_eq_some_iff.1 HBOX.out).1).trans HBOX.out)
      have HR1 : Hid (Rnd W0.heap.size (w.heap.size + 1 + 1 + 1) (w.heap.size + 1 + 1 + 1 + 1 + 1 + 1) w.heap.size W W1) := Rnd.below hb1 HB.out.size
      clear c0 b0 b1 b2 b3 l0 l1 l2 l3 hb1
      obtain ⟨h1, h2, h3⟩ := HE1.out
      have c0 : W1.cell? ⟨w.heap.size + 1 + 1 + 1 + 1 + 1, 0, none⟩ = some (.bool true) := by rw [cell_of_row W1 _ 0 _ _ _ h3]; rfl
      obtain ⟨⟨b0, b1, b2, b3⟩, _⟩ := cells4 HX1.out
      obtain ⟨⟨l0, l1, l2, l3⟩, l4, l5, l6, l7⟩ := cells4 h1
      obtain ⟨⟨m0, m1, m2, m3⟩, _⟩ := cells4 h2
      clear h1 h2 h3
      generalize hc1 : cmpV p.n p.d lo.n lo.d = c1
      have HC1 := Lib.hid hc1
      clear hc1
      by_cases g1 : c1 < 0
      · have tok : True := trivial
        gi_wp2_with fail
        refine ⟨trivial, ?_⟩
        refine (CallsIn.inRound l (callsIn_wide.2 (compare_any p.n p.d mo.n mo.d (put4 W1 (w.heap.size + 1 + 1 + 1) (.int .i64 p.x) (.int .i64 p.y) (.int .i64 p.n) (.int .i64 p.d)) hp1 hp2 hm1 hm2 hp3 hp4 hm3 hm4))).mono ?_
        rintro e W3 ⟨rfl, hb3⟩
        have HE2 : Hid (Ext3 (w.heap.size + 1 + 1 + 1) (vP p) (vP mo) true (put4 W1 (w.heap.size + 1 + 1 + 1) (.int .i64 p.x) (.int .i64 p.y) (.int .i64 p.n) (.int .i64 p.d))) := Ext3.low _ _ _ _ HE1.out
        have HRm : Hid (Rnd W0.heap.size (w.heap.size + 1 + 1 + 1) (w.heap.size + 1 + 1 + 1 + 1 + 1 + 1) w.heap.size W (put4 W1 (w.heap.size + 1 + 1 + 1) (.int .i64 p.x) (.int .i64 p.y) (.int .i64 p.n) (.int .i64 p.d))) := HR1.out.trans (Rnd.put4 W1 _ _ _ _ _ (by omega) (by omega) (by omega))
        have HX2 : Hid (((put4 W1 (w.heap.size + 1 + 1 + 1) (.int .i64 p.x) (.int .i64 p.y) (.int .i64 p.n) (.int .i64 p.d))).heap[Bx]? = some (.cells (vP p) 92)) := put4_other _ _ _ _ (by omega) HX1.out
        have HE3 := Lib.hid (HE2.out.below hb3)
        have HX3 := Lib.hid ((hb3.block _ (Array.getElem?_eq_some_iff.1 HX2.out).1).trans HX2.out)
        have HR3 := Lib.hid (HRm.out.trans (Rnd.below hb3 (by have := HRm.out.bl.size; have := HB.out.size; omega)))
        obtain ⟨h1, h2, h3⟩ := HE3.out
        have c0 : W3.cell? ⟨w.heap.size + 1 + 1 + 1 + 1 + 1, 0, none⟩ = some (.bool true) := by rw [cell_of_row W3 _ 0 _ _ _ h3]; rfl
        have f0 : W3.frozen? ⟨w.heap.size + 1 + 1 + 1 + 1 + 1, 0, none⟩ = false := by simp [World.frozen?, h3]
        obtain ⟨⟨b0, b1, b2, b3⟩, _⟩ := cells4 HX3.out
        obtain ⟨⟨m0, m1, m2, m3⟩, m4, m5, m6, m7⟩ := cells4 h2
        clear h1 h2 h3 hb3
        generalize hc2 : cmpV p.n p.d mo.n mo.d = c2
        have HC2 := Lib.hid hc2
        clear hc2
        by_cases g2 : 0 < c2
        · gi_wp2_with fail
          refine (fun (h : Rnd W0.heap.size (w.heap.size + 1 + 1 + 1) (w.heap.size + 1 + 1 + 1 + 1 + 1 + 1) w.heap.size W _ ∧ Ext3 (w.heap.size + 1 + 1 + 1) (vP p) (vP p) true _) => ⟨h.1.kf, h.1.kb, ⟨by rw [HOE.out, HES.out, stepE_some, HC1.out, HC2.out, if_pos g1, if_pos g2]; exact h.2, HB.out.trans h.1.bl⟩⟩) ⟨?_, ?_⟩
          · exact (HR3.out.trans (Rnd.put4 _ _ _ _ _ _ (by omega) (by omega) (by omega))).trans (Rnd.set _ _ _ _ (by omega) (by omega) (by omega))
          · exact (Ext3.top _ _ _ _ HE3.out).flag true
        · gi_wp2_with fail
          refine (fun (h : Rnd W0.heap.size (w.heap.size + 1 + 1 + 1) (w.heap.size + 1 + 1 + 1 + 1 + 1 + 1) w.heap.size W _ ∧ Ext3 (w.heap.size + 1 + 1 + 1) (vP p) (vP mo) true _) => ⟨h.1.kf, h.1.kb, ⟨by rw [HOE.out, HES.out, stepE_some, HC1.out, HC2.out, if_pos g1, if_neg (by omega)]; exact h.2, HB.out.trans h.1.bl⟩⟩) ⟨?_, ?_⟩
          · exact HR3.out.trans (Rnd.set _ _ _ _ (by omega) (by omega) (by omega))
          · exact HE3.out.flag true
      · have tok : True := trivial
        gi_wp2_with fail
        refine ⟨trivial, ?_⟩
        refine (CallsIn.inRound l (callsIn_wide.2 (compare_any p.n p.d mo.n mo.d W1 hp1 hp2 hm1 hm2 hp3 hp4 hm3 hm4))).mono ?_
        rintro e W3 ⟨rfl, hb3⟩
        have HE2 := HE1
        have HRm := HR1
        have HX2 := HX1
        have HE3 := Lib.hid (HE2.out.below hb3)
        have HX3 := Lib.hid ((hb3.block _ (Array.getElem?_eq_some_iff.1 HX2.out).1).trans HX2.out)
        have HR3 := Lib.hid (HRm.out.trans (Rnd.below hb3 (by have := HRm.out.bl.size; have := HB.out.size; omega)))
        obtain ⟨h1, h2, h3⟩ := HE3.out
        have c0 : W3.cell? ⟨w.heap.size + 1 + 1 + 1 + 1 + 1, 0, none⟩ = some (.bool true) := by rw [cell_of_row W3 _ 0 _ _ _ h3]; rfl
        have f0 : W3.frozen? ⟨w.heap.size + 1 + 1 + 1 + 1 + 1, 0, none⟩ = false := by simp [World.frozen?, h3]
        obtain ⟨⟨b0, b1, b2, b3⟩, _⟩ := cells4 HX3.out
        obtain ⟨⟨m0, m1, m2, m3⟩, m4, m5, m6, m7⟩ := cells4 h2
        clear h1 h2 h3 hb3
        generalize hc2 : cmpV p.n p.d mo.n mo.d = c2
        have HC2 := Lib.hid hc2
        clear hc2
        by_cases g2 : 0 < c2
        · gi_wp2_with fail
          refine (fun (h : Rnd W0.heap.size (w.heap.size + 1 + 1 + 1) (w.heap.size + 1 + 1 + 1 + 1 + 1 + 1) w.heap.size W _ ∧ Ext3 (w.heap.size + 1 + 1 + 1) (vP lo) (vP p) true _) => ⟨h.1.kf, h.1.kb, ⟨by rw [HOE.out, HES.out, stepE_some, HC1.out, HC2.out, if_neg (by omega), if_pos g2]; exact h.2, HB.out.trans h.1.bl⟩⟩) ⟨?_, ?_⟩
          · exact (HR3.out.trans (Rnd.put4 _ _ _ _ _ _ (by omega) (by omega) (by omega))).trans (Rnd.set _ _ _ _ (by omega) (by omega) (by omega))
          · exact (Ext3.top _ _ _ _ HE3.out).flag true
        · gi_wp2_with fail
          refine (fun (h : Rnd W0.heap.size (w.heap.size + 1 + 1 + 1) (w.heap.size + 1 + 1 + 1 + 1 + 1 + 1) w.heap.size W _ ∧ Ext3 (w.heap.size + 1 + 1 + 1) (vP lo) (vP mo) true _) => ⟨h.1.kf, h.1.kb, ⟨by rw [HOE.out, HES.out, stepE_some, HC1.out, HC2.out, if_neg (by omega), if_neg (by omega)]; exact h.2, HB.out.trans h.1.bl⟩⟩) ⟨?_, ?_⟩
          · exact HR3.out.trans (Rnd.set _ _ _ _ (by omega) (by omega) (by omega))
          · exact HE3.out.flag true
  case done =>
    rintro D ps W hD rfl ⟨hE, hB⟩ hK
    obtain ⟨lo, mo, hlm⟩ := extrE_ne _ (allPts_ne xs ys vs xl xh yl yh)
    rw [hlm] at hE
    have HLM := Lib.hid hlm
    have HB := Lib.hid hB
    have HK := Lib.hid hK
    obtain ⟨h1, h2, h3⟩ := hE
    obtain ⟨⟨l0, l1, l2, l3⟩, l4, l5, l6, l7⟩ := cells4 h1
    obtain ⟨⟨m0, m1, m2, m3⟩, m4, m5, m6, m7⟩ := cells4 h2
    have H1 := Lib.hid h1
    have H2 := Lib.hid h2
    clear h1 h2 h3 hB hK hlm
    gi_wp2_with fail
    gi_region
    gi_wp2_with fail
    have hDs := HSZ.out
    obtain ⟨Wf, hWf⟩ : ∃ Wf, (put4 (put4 W (w.heap.size + 1 + 1 + 1) (.int .i64 lo.x) (.int .i64 lo.y) (.int .i64 lo.n) (.int .i64 lo.d)) (w.heap.size + 1 + 1 + 1 + 1) (.int .i64 mo.x) (.int .i64 mo.y) (.int .i64 mo.n) (.int .i64 mo.d)) = Wf := ⟨_, rfl⟩
    have hK2 : Wf.heap[D]? = some (.deferred (some [])) := by rw [← hWf]; exact put4_other _ _ _ _ (by omega) (put4_other _ _ _ _ (by omega) HK.out)
    have q1 : Wf.heap[w.heap.size + 1 + 1 + 1]? = some (.cells (vP lo) 92) := by rw [← hWf]; exact put4_other _ _ _ _ (by omega) (put4_same _ _ _ _ H1.out)
    have q2 : Wf.heap[w.heap.size + 1 + 1 + 1 + 1]? = some (.cells (vP mo) 92) := by rw [← hWf]; exact put4_same _ _ _ _ (put4_other _ _ _ _ (by omega) H2.out)
    have hBf : Below w.heap.size w Wf := by
      rw [← hWf]
      exact (HB.out.trans (Rnd.put4 (B := 0) (n1 := 0) (n2 := w.heap.size + 9) W _ _ _ _ _ (by omega) (by omega) (by omega)).bl).trans (Rnd.put4 (B := 0) (n1 := 0) (n2 := w.heap.size + 9) _ _ _ _ _ _ (by omega) (by omega) (by omega)).bl
    unfold put4 at hWf
    rw [hWf]
    clear hWf l0 l1 l2 l3 l4 l5 l6 l7 m0 m1 m2 m3 m4 m5 m6 m7
    have r1 : (Wf.drew.putObj D (.deferred none)).heap[w.heap.size + 1 + 1 + 1]? = some (.cells (vP lo) 92) := (World.putObj_heap_other (by omega)).trans q1
    have r2 : (Wf.drew.putObj D (.deferred none)).heap[w.heap.size + 1 + 1 + 1 + 1]? = some (.cells (vP mo) 92) := (World.putObj_heap_other (by omega)).trans q2
    have hBg : Below w.heap.size w (Wf.drew.putObj D (.deferred none)) := hBf.drew.trans (belowK_b (w := w) (Nat.le_refl _) Wf.drew D _ _ (by omega) hK2 rfl rfl)
    refine ⟨by simp, .inl ⟨_, _, rfl, run_takeDeferred (w := Wf.drew) hK2, ?_⟩⟩
    generalize Wf.drew.putObj D (.deferred none) = Wg at *
    obtain ⟨⟨l0, l1, l2, l3⟩, _⟩ := cells4 r1
    obtain ⟨⟨m0, m1, m2, m3⟩, _⟩ := cells4 r2
    refine ⟨.tuple #[.agg (vP lo), .agg (vP mo)], ?_, ⟨lo, mo, HLM.out, rfl, hBg⟩⟩
    simp [results, Tryd.results20, go_sem, vP, l0, l1, l2, l3, m0, m1, m2, m3]
  case stop =>
    rintro D c pre W _ _ h _
    exact h.elim
end Go.Proofs.YtgibbaadjbohdaaDoor
/- The contracts of spans.lies and spans.checkPoints. -/
namespace Go.Proofs.YtgibbaadjbohdaaDoor
open Go.RowKit

def liesB (l : List Int) (x : Int × Int) : Bool := decide (l[0]?.getD 0 ≤ x.1) && decide (x.2 ≤ l[l.length - 1]?.getD 0)
set_option maxHeartbeats 400000 in
theorem lies_any (A : Option Addr) (l : List Int) (c : Nat) (lo hi : Int) (w : World) (h1 : 1 ≤ l.length) (hl : l.length ≤ 1000000) (hA : Ints w A l) :
    Calls Tryd.prog 35 #[.slice A l.length c, .agg #[.int .i64 lo, .int .i64 hi]] w fun e w' => e = .returned (.bool (liesB l (lo, hi))) ∧ Below w.heap.size w w' := by
  obtain ⟨b, off, rfl, hbl, hc⟩ := hA (by omega)
  have c0 := hc 0 (by omega)
  have c1 := hc (l.length - 1) (by omega)
  simp only [Nat.add_zero] at c0
  have hR : liesB l (lo, hi) = (decide (l[0]?.getD 0 ≤ lo) && decide (hi ≤ l[l.length - 1]?.getD 0)) := rfl
  generalize l[0]?.getD 0 = a at *
  generalize l[l.length - 1]?.getD 0 = z at *
  have t1 : ((l.length : Int) - 1).toNat = l.length - 1 := by omega
  have t2 : (0 : Int) ≤ (l.length : Int) - 1 := by omega
  have t3 : (l.length : Int) - 1 < (l.length : Int) := by omega
  have t4 : (0 : Int) < (l.length : Int) := by omega
  have u1 : IntKind.i64.wrap ((l.length : Int) - 1) = (l.length : Int) - 1 := IntWalk.i64_in _ (by omega)
  have HR := Lib.hid hR
  have hB : ∀ (o : Obj) (n : Nat), Below w.heap.size w ((w.alloc o).drewN n) := fun o n => Below.drewN' ((Below.refl _ w).alloc (Nat.le_refl _) _) n
  have HB := Lib.hid hB
  clear hR hc hA hB
  by_cases g1 : a ≤ lo
  · have g1' : decide (a ≤ lo) = true := by simpa using g1
    by_cases g2 : hi ≤ z
    · have g2' : decide (hi ≤ z) = true := by simpa using g2
      go_enter Tryd.func35, Tryd.ntmps35
      go_wp2_with fail
      go_quiet (fail)
      go_wp2_with fail
      go_ret
      exact ⟨by rw [HR.out, g1', g2']; rfl, HB.out _ _⟩
    · have g2' : decide (hi ≤ z) = false := by simpa using g2
      go_enter Tryd.func35, Tryd.ntmps35
      go_wp2_with fail
      go_quiet (fail)
      go_wp2_with fail
      go_ret
      exact ⟨by rw [HR.out, g1', g2']; rfl, HB.out _ _⟩
  · have g1' : decide (a ≤ lo) = false := by simpa using g1
    go_enter Tryd.func35, Tryd.ntmps35
    go_wp2_with fail
    go_quiet (fail)
    go_wp2_with fail
    go_ret
    exact ⟨by rw [HR.out, g1']; rfl, HB.out _ _⟩

structure TSz (xs ys : List Int) (vs : List (List Int)) : Prop where
  x : xs.length ≤ 4611686018427387904
  y : ys.length ≤ 4611686018427387904
  v : vs.length ≤ 4611686018427387904
  r : RowsLe vs
theorem checkTableR (xs ys : List Int) (vs : List (List Int)) (X Y V : Option Addr) (cx cy cv : Nat) (w : World) (hS : TSz xs ys vs) (hR : TabR w X Y V cx cy cv xs ys vs) :
   Calls Tryd.prog 33 #[.agg #[.slice X xs.length cx, .slice Y ys.length cy, .slice V vs.length cv]] w fun e w' => e = .returned (.int .i64 (tabErr xs ys vs)) ∧ Below w.heap.size w w' :=
  checkTable_any xs ys vs X Y V cx cy cv w hS.x hS.y hS.v hS.r hR.hX hR.hY hR.hV
theorem sps_new2 (w : World) (a b c d : Int) (t : TypeId) (B : Nat) (hB : B = w.heap.size) : Sps (w.alloc (.cells #[.int .i64 a, .int .i64 b, .int .i64 c, .int .i64 d] t)) (some ⟨B, 0, none⟩) [(a, b), (c, d)] := fun _ => by
  subst hB
  refine ⟨_, 0, rfl, by simp, fun k hk => ?_⟩
  match k, hk with
  | 0, _ => simp
  | 1, _ => simp
def w3 (w : World) (t1 t2 t3 x1 x2 y1 y2 : Value) : World := ((w.alloc (.cells #[t1, t2, t3] 33)).alloc (.cells #[x1, x2] 37)).alloc (.cells #[y1, y2] 37)
theorem boxes3 {w w1 : World} {t1 t2 t3 x1 x2 y1 y2 : Value} {N : Nat} (hb : Below N (w3 w t1 t2 t3 x1 x2 y1 y2) w1) (hN : w.heap.size + 3 ≤ N) :
    (w1.cell? ⟨w.heap.size, 0, none⟩ = some t1 ∧ w1.cell? ⟨w.heap.size, 1, none⟩ = some t2 ∧ w1.cell? ⟨w.heap.size, 2, none⟩ = some t3) ∧
    (w1.cell? ⟨w.heap.size + 1, 0, none⟩ = some x1 ∧ w1.cell? ⟨w.heap.size + 1, 1, none⟩ = some x2) ∧ (w1.cell? ⟨w.heap.size + 1 + 1, 0, none⟩ = some y1 ∧ w1.cell? ⟨w.heap.size + 1 + 1, 1, none⟩ = some y2) ∧ w.heap.size + 1 + 1 + 1 ≤ w1.heap.size := by
  have hs := hb.size
  have h0 : w1.heap[w.heap.size]? = some (.cells #[t1, t2, t3] 33) := (hb.block _ (by omega)).trans (by
    simp only [w3, heap_alloc_at, World.size_alloc]; repeat (first | rw [if_pos trivial] | rw [if_neg (by omega)]))
  have h1 : w1.heap[w.heap.size + 1]? = some (.cells #[x1, x2] 37) := (hb.block _ (by omega)).trans (by
    simp only [w3, heap_alloc_at, World.size_alloc]; repeat (first | rw [if_pos trivial] | rw [if_neg (by omega)]))
  have h2 : w1.heap[w.heap.size + 1 + 1]? = some (.cells #[y1, y2] 37) := (hb.block _ (by omega)).trans (by
    simp only [w3, heap_alloc_at, World.size_alloc]; repeat (first | rw [if_pos trivial] | rw [if_neg (by omega)]))
  refine ⟨⟨?_, ?_, ?_⟩, ⟨?_, ?_⟩, ⟨?_, ?_⟩, by simpa [w3] using hs⟩
  · rw [cell_of_row w1 _ 0 _ _ _ h0]; rfl
  · rw [cell_of_row w1 _ 1 _ _ _ h0]; rfl
  · rw [cell_of_row w1 _ 2 _ _ _ h0]; rfl
  · rw [cell_of_row w1 _ 0 _ _ _ h1]; rfl
  · rw [cell_of_row w1 _ 1 _ _ _ h1]; rfl
  · rw [cell_of_row w1 _ 0 _ _ _ h2]; rfl
  · rw [cell_of_row w1 _ 1 _ _ _ h2]; rfl
theorem w3_below (w : World) (t1 t2 t3 x1 x2 y1 y2 : Value) : Below w.heap.size w (w3 w t1 t2 t3 x1 x2 y1 y2) := (((Below.refl _ w).alloc (Nat.le_refl _) _).alloc (by simp) _).alloc (by simp; omega) _
theorem w3_size (w : World) (t1 t2 t3 x1 x2 y1 y2 : Value) : (w3 w t1 t2 t3 x1 x2 y1 y2).heap.size = w.heap.size + 3 := by simp [w3]
theorem w3_le {w : World} {t1 t2 t3 x1 x2 y1 y2 : Value} : w.heap.size ≤ (w3 w t1 t2 t3 x1 x2 y1 y2).heap.size := by rw [w3_size]; omega
theorem w3_le3 {w : World} {t1 t2 t3 x1 x2 y1 y2 : Value} : w.heap.size + 3 ≤ (w3 w t1 t2 t3 x1 x2 y1 y2).heap.size := by rw [w3_size]; omega
def cpErr (xs ys : List Int) (vs : List (List Int)) (x y : Int × Int) : Int :=
  if tabB xs ys vs then (if spErr [x, y] != 0 then spErr [x, y] else if liesB xs x && liesB ys y then 0 else 1) else 11
set_option maxHeartbeats 1000000 in
theorem checkPoints_any (xs ys : List Int) (vs : List (List Int)) (X Y V : Option Addr) (cx cy cv : Nat) (x y : Int × Int) (w : World) (hS : TSz xs ys vs) (hR : TabR w X Y V cx cy cv xs ys vs) :
   Calls Tryd.prog 19 #[.agg #[.slice X xs.length cx, .slice Y ys.length cy, .slice V vs.length cv], .agg #[.int .i64 x.1, .int .i64 x.2], .agg #[.int .i64 y.1, .int .i64 y.2]] w fun e w' => e = .returned (.int .i64 (cpErr xs ys vs x y)) ∧ Below w.heap.size w w' := by
  obtain ⟨xl, xh⟩ := x
  obtain ⟨yl, yh⟩ := y
  have HRR := Lib.hid hR
  have HS := Lib.hid hS
  have HB0 := Lib.hid (w3_below w (.slice X xs.length cx) (.slice Y ys.length cy) (.slice V vs.length cv) (.int .i64 xl) (.int .i64 xh) (.int .i64 yl) (.int .i64 yh))
  clear hR hS
  show Calls Tryd.prog 19 #[.agg #[.slice X xs.length cx, .slice Y ys.length cy, .slice V vs.length cv], .agg #[.int .i64 xl, .int .i64 xh], .agg #[.int .i64 yl, .int .i64 yh]] w _
  by_cases ht : tabB xs ys vs = true
  · have HT := Lib.hid ht
    have HTe : Hid (tabErr xs ys vs = 0) := by unfold Hid tabErr; rw [if_pos ht]
    have hC : cpErr xs ys vs (xl, xh) (yl, yh) = if spErr [(xl, xh), (yl, yh)] != 0 then spErr [(xl, xh), (yl, yh)] else if liesB xs (xl, xh) && liesB ys (yl, yh) then 0 else 1 := by unfold cpErr; rw [if_pos ht]
    have HC := Lib.hid hC
    have hx2 := (tbl_of ht).ax.two
    have hx12 := (tbl_of ht).ax.twelve
    have hy2 := (tbl_of ht).ay.two
    have hy12 := (tbl_of ht).ay.twelve
    clear ht hC
    go_enter Tryd.func19, Tryd.ntmps19
    go_wp2_with fail
    refine (checkTableR xs ys vs X Y V cx cy cv _ HS.out (HRR.out.below HB0.out)).mono ?_
    rintro e w1 ⟨rfl, hb1⟩
    rw [HTe.out]
    have HB1 := Lib.hid hb1
    obtain ⟨⟨a1, a2, a3⟩, ⟨a4, a5⟩, ⟨a6, a7⟩, hz⟩ := boxes3 (N := w.heap.size + 3) (hb1.mono w3_le3) (by omega)
    clear hb1
    go_wp2_with fail
    refine (spanned_any _ [(xl, xh), (yl, yh)] 2 _ (by simp) (sps_new2 _ _ _ _ _ _ _ rfl)).mono ?_
    rintro e w2 ⟨rfl, hb2⟩
    have hb3 : Below w1.heap.size w1 w2 := ((Below.refl _ w1).alloc (Nat.le_refl _) _).trans (hb2.mono (by simp))
    have HB2 := Lib.hid (HB1.out.trans (hb3.mono HB1.out.size))
    clear a1 a2 a3 a4 a5 a6 a7 hz hb2 hb3
    obtain ⟨⟨a1, a2, a3⟩, ⟨a4, a5⟩, ⟨a6, a7⟩, hz⟩ := boxes3 (N := w.heap.size + 3) (HB2.out.mono w3_le3) (by omega)
    by_cases hs : (spErr [(xl, xh), (yl, yh)] != 0) = true
    · have R : Hid (cpErr xs ys vs (xl, xh) (yl, yh) = spErr [(xl, xh), (yl, yh)]) := by unfold Hid; rw [HC.out, if_pos hs]
      generalize spErr [(xl, xh), (yl, yh)] = sp at *
      go_wp2_with fail
      go_ret
      exact ⟨by rw [R.out]; rfl, HB0.out.trans (HB2.out.mono w3_le)⟩
    · have hs0 : (spErr [(xl, xh), (yl, yh)] != 0) = false := by simpa using hs
      have R : Hid (cpErr xs ys vs (xl, xh) (yl, yh) = if liesB xs (xl, xh) && liesB ys (yl, yh) then 0 else 1) := by unfold Hid; rw [HC.out, if_neg hs]
      have hs1 : spErr [(xl, xh), (yl, yh)] = 0 := by simpa using hs0
      rw [hs1]
      clear hs hs0 hs1 HC
      go_wp2_with fail
      refine (lies_any X xs cx xl xh _ (by omega) (by omega) ((HRR.out.hX.below HB0.out).below HB2.out)).mono ?_
      rintro e w4 ⟨rfl, hb3⟩
      have HB4 := Lib.hid (HB2.out.trans (hb3.mono HB2.out.size))
      clear a1 a2 a3 a4 a5 a6 a7 hz hb3
      obtain ⟨⟨a1, a2, a3⟩, ⟨a4, a5⟩, ⟨a6, a7⟩, hz⟩ := boxes3 (N := w.heap.size + 3) (HB4.out.mono w3_le3) (by omega)
      by_cases h1 : liesB xs (xl, xh) = true
      · rw [h1]
        have H1 := Lib.hid h1
        clear h1
        go_wp2_with fail
        refine (lies_any Y ys cy yl yh _ (by omega) (by omega) ((HRR.out.hY.below HB0.out).below HB4.out)).mono ?_
        rintro e w5 ⟨rfl, hb4⟩
        have HB5 := Lib.hid (HB4.out.trans (hb4.mono HB4.out.size))
        clear hb4
        by_cases h2 : liesB ys (yl, yh) = true
        · rw [h2]
          have H2 := Lib.hid h2
          clear h2
          go_wp2_with fail
          go_ret
          exact ⟨by rw [R.out, H1.out, H2.out]; rfl, HB0.out.trans (HB5.out.mono w3_le)⟩
        · have h2' : liesB ys (yl, yh) = false := by simpa using h2
          rw [h2']
          have H2 := Lib.hid h2'
          clear h2 h2'
          go_wp2_with fail
          go_ret
          exact ⟨by rw [R.out, H1.out, H2.out]; rfl, HB0.out.trans (HB5.out.mono w3_le)⟩
      · have h1' : liesB xs (xl, xh) = false := by simpa using h1
        rw [h1']
        have H1 := Lib.hid h1'
        clear h1 h1'
        go_wp2_with fail
        go_ret
        exact ⟨by rw [R.out, H1.out]; rfl, HB0.out.trans (HB4.out.mono w3_le)⟩
  · have ht' : tabB xs ys vs = false := by simpa using ht
    have HTe : Hid (tabErr xs ys vs = 11) := by unfold Hid tabErr; rw [if_neg ht]
    have HC : Hid (cpErr xs ys vs (xl, xh) (yl, yh) = 11) := by unfold Hid cpErr; rw [if_neg ht]
    clear ht ht'
    go_enter Tryd.func19, Tryd.ntmps19
    go_wp2_with fail
    refine (checkTableR xs ys vs X Y V cx cy cv _ HS.out (HRR.out.below HB0.out)).mono ?_
    rintro e w1 ⟨rfl, hb1⟩
    rw [HTe.out]
    have HB1 := Lib.hid (HB0.out.trans (hb1.mono w3_le))
    clear hb1
    go_wp2_with fail
    go_ret
    exact ⟨by rw [HC.out]; rfl, HB1.out⟩
end Go.Proofs.YtgibbaadjbohdaaDoor
/- Arguments of plain make, opened: aggregates of ints; tables. -/
namespace Go.Proofs.YtgibbaadjbohdaaDoor
open Go.ChangeShapes Go.WideShapes Go.ChangeAt Go.RowKit Go.Joins Go.Deep

theorem Tryd.own : ownKnob Tryd.prog.godebug = none := by kernel_rfl
theorem Tryd.laidOut : laidOutB Tryd.prog = true := by kernel_rfl
section
variable {P : Program}
end
section
variable {H : Type} {enc : TypeId × Value → H} {P : Program} {w : World} {r : Reach} {b0 base : Nat} {spare : Nat → Bool} {held : Bool} {v : Value} {d : DataW H} {ps : List MemPlace}
theorem agg_struct {t : TypeId} {fs : Array Field} (ht : P.underlying t = some (.struct fs)) (hv : Value.okWide P w r b0 t v) : ∃ cs, v = .agg cs := by
  obtain ⟨cs, h, _⟩ := okWide_struct ht hv
  exact ⟨cs, h⟩
end
structure TSm (xs ys : List Int) (vs : List (List Int)) : Prop where
  x : xs.length ≤ maxLen
  y : ys.length ≤ maxLen
  v : vs.length ≤ maxLen
  r : ∀ r ∈ vs, r.length ≤ maxLen
end Go.Proofs.YtgibbaadjbohdaaDoor
/- The contracts of spans.Bound and spans.Worst. -/
namespace Go.Proofs.YtgibbaadjbohdaaDoor
open Go.RowKit

def pts (xs ys : List Int) (vs : List (List Int)) (x y : Int × Int) : List Pt := allPts xs ys vs (stopsL xs x.1 x.2) (stopsL ys y.1 y.2)
def bnd (xs ys : List Int) (vs : List (List Int)) (x y : Int × Int) : Int × Int :=
  match extrE (pts xs ys vs x y) with
  | some (l, m) => (l.n / l.d, -(-m.n / m.d))
  | none => (0, 0)
def wst (xs ys : List Int) (vs : List (List Int)) (x y : Int × Int) : Int × Int :=
  match extrE (pts xs ys vs x y) with
  | some (_, m) => (m.x, m.y)
  | none => (0, 0)
theorem bnd_eq {xs ys : List Int} {vs : List (List Int)} {x y : Int × Int} {l m : Pt} (h : extrE (pts xs ys vs x y) = some (l, m)) : bnd xs ys vs x y = (l.n / l.d, -(-m.n / m.d)) := by unfold bnd; rw [h]
theorem wst_eq {xs ys : List Int} {vs : List (List Int)} {x y : Int × Int} {l m : Pt} (h : extrE (pts xs ys vs x y) = some (l, m)) : wst xs ys vs x y = (m.x, m.y) := by unfold wst; rw [h]
theorem vB_iff {x : Int × Int} : vB x = true ↔ -1000000 ≤ x.1 ∧ x.1 ≤ x.2 ∧ x.2 ≤ 1000000 := by simp [vB, wB, and_assoc]
structure OnT (xs ys : List Int) (vs : List (List Int)) (x y : Int × Int) : Prop where
  t : Tbl xs ys vs
  x1 : xs[0]?.getD 0 ≤ x.1
  x2 : x.2 ≤ xs[xs.length-1]?.getD 0
  x3 : x.1 ≤ x.2
  y1 : ys[0]?.getD 0 ≤ y.1
  y2 : y.2 ≤ ys[ys.length-1]?.getD 0
  y3 : y.1 ≤ y.2
theorem liesB_iff {l : List Int} {x : Int × Int} : liesB l x = true ↔ l[0]?.getD 0 ≤ x.1 ∧ x.2 ≤ l[l.length - 1]?.getD 0 := by simp [liesB]
theorem cp_zero {xs ys : List Int} {vs : List (List Int)} {x y : Int × Int} (h : cpErr xs ys vs x y = 0) : OnT xs ys vs x y := by
  unfold cpErr at h
  by_cases ht : tabB xs ys vs = true
  · rw [if_pos ht] at h
    by_cases hs : (spErr [x, y] != 0) = true
    · rw [if_pos hs] at h
      simp at hs
      exact absurd h hs
    · rw [if_neg hs] at h
      by_cases hl : (liesB xs x && liesB ys y) = true
      · simp only [Bool.and_eq_true] at hl
        have h1 := liesB_iff.1 hl.1
        have h2 := liesB_iff.1 hl.2
        have hs' : spErr [x, y] = 0 := by simpa using hs
        unfold spErr at hs'
        by_cases ha : [x, y].any (fun x => !vB x) = true
        · rw [if_pos ha] at hs'; omega
        · have ha' : [x, y].any (fun x => !vB x) = false := by simpa using ha
          simp at ha'
          have v1 := vB_iff.1 ha'.1
          have v2 := vB_iff.1 ha'.2
          exact ⟨tbl_of ht, h1.1, h1.2, v1.2.1, h2.1, h2.2, v2.2.1⟩
      · rw [if_neg hl] at h; omega
  · rw [if_neg ht] at h; omega
theorem extremesR {xs ys : List Int} {vs : List (List Int)} {x y : Int × Int} {X Y V : Option Addr} {cx cy cv : Nat} {w : World} (h : OnT xs ys vs x y) (hR : TabR w X Y V cx cy cv xs ys vs) :
    Calls Tryd.prog 20 #[.agg #[.slice X xs.length cx, .slice Y ys.length cy, .slice V vs.length cv], .agg #[.int .i64 x.1, .int .i64 x.2], .agg #[.int .i64 y.1, .int .i64 y.2]] w (ExtPost (pts xs ys vs x y) w) :=
  extremes_any xs ys vs X Y V cx cy cv x.1 x.2 y.1 y.2 w h.t h.x1 h.x2 h.x3 h.y1 h.y2 h.y3 hR
def boundR (xs ys : List Int) (vs : List (List Int)) (x y : Int × Int) : (Int × Int) × Int := if cpErr xs ys vs x y != 0 then ((0, 0), cpErr xs ys vs x y) else (bnd xs ys vs x y, 0)
set_option maxRecDepth 100000 in
set_option maxHeartbeats 2000000 in
theorem bound_any (xs ys : List Int) (vs : List (List Int)) (X Y V : Option Addr) (cx cy cv : Nat) (x y : Int × Int) (w : World) (hS : TSz xs ys vs) (hR : TabR w X Y V cx cy cv xs ys vs) :
   Calls Tryd.prog 10 #[.agg #[.slice X xs.length cx, .slice Y ys.length cy, .slice V vs.length cv], .agg #[.int .i64 x.1, .int .i64 x.2], .agg #[.int .i64 y.1, .int .i64 y.2]] w fun e w' =>
     e = .returned (.tuple #[.agg #[.int .i64 (boundR xs ys vs x y).1.1, .int .i64 (boundR xs ys vs x y).1.2], .int .i64 (boundR xs ys vs x y).2]) ∧ Below w.heap.size w w' := by
  obtain ⟨xl, xh⟩ := x
  obtain ⟨yl, yh⟩ := y
  show Calls Tryd.prog 10 #[.agg #[.slice X xs.length cx, .slice Y ys.length cy, .slice V vs.length cv], .agg #[.int .i64 xl, .int .i64 xh], .agg #[.int .i64 yl, .int .i64 yh]] w _
  have HRR := Lib.hid hR
  have HS := Lib.hid hS
  obtain ⟨W, hW⟩ : ∃ W, (w3 w (.slice X xs.length cx) (.slice Y ys.length cy) (.slice V vs.length cv) (.int .i64 xl) (.int .i64 xh) (.int .i64 yl) (.int .i64 yh)).alloc (.cells #[.int .i64 0, .int .i64 0] 37) = W := ⟨_, rfl⟩
  have hWz : W.heap.size = w.heap.size + 4 := by rw [← hW]; simp [w3]
  have hWb : Below w.heap.size w W := by rw [← hW]; exact (w3_below w _ _ _ _ _ _ _).alloc w3_le _
  have hW3 : Below (w.heap.size + 3) (w3 w (.slice X xs.length cx) (.slice Y ys.length cy) (.slice V vs.length cv) (.int .i64 xl) (.int .i64 xh) (.int .i64 yl) (.int .i64 yh)) W := by rw [← hW]; exact (Below.refl _ _).alloc w3_le3 _
  have hWc : W.heap[w.heap.size + 1 + 1 + 1]? = some (.cells #[.int .i64 0, .int .i64 0] 37) := by rw [← hW, heap_alloc_at, w3_size, if_pos (by omega)]
  have HWz := Lib.hid hWz
  have HWb := Lib.hid hWb
  have HW3 := Lib.hid hW3
  have HWc := Lib.hid hWc
  have HW := Lib.hid hW
  clear hR hS hWz hWb hW3 hWc hW
  go_enter Tryd.func10, Tryd.ntmps10
  go_wp2_with fail
  have hW := HW.out
  unfold w3 at hW
  rw [hW]
  clear hW
  refine (checkPoints_any xs ys vs X Y V cx cy cv (xl, xh) (yl, yh) W HS.out (HRR.out.below HWb.out)).mono ?_
  rintro e w1 ⟨rfl, hb1⟩
  have hz1 := HWz.out
  obtain ⟨⟨a1, a2, a3⟩, ⟨a4, a5⟩, ⟨a6, a7⟩, hz⟩ := boxes3 (N := w.heap.size + 3) (HW3.out.trans (hb1.mono (by omega))) (by omega)
  have hc := (hb1.block (w.heap.size + 1 + 1 + 1) (by omega)).trans HWc.out
  have r0 : w1.cell? ⟨w.heap.size + 1 + 1 + 1, 0, none⟩ = some (.int .i64 0) := by rw [cell_of_row w1 _ 0 _ _ _ hc]; rfl
  have r1 : w1.cell? ⟨w.heap.size + 1 + 1 + 1, 1, none⟩ = some (.int .i64 0) := by rw [cell_of_row w1 _ 1 _ _ _ hc]; rfl
  have f0 : w1.frozen? ⟨w.heap.size + 1 + 1 + 1, 0, none⟩ = false := by simp [World.frozen?, hc]
  have f1 : w1.frozen? ⟨w.heap.size + 1 + 1 + 1, 1, none⟩ = false := by simp [World.frozen?, hc]
  have HB1 := Lib.hid hb1
  have HC1 := Lib.hid hc
  have hz4 : w.heap.size + 1 + 1 + 1 < w1.heap.size := by have := hb1.size; omega
  clear hz1 hc hb1
  by_cases he : (cpErr xs ys vs (xl, xh) (yl, yh) != 0) = true
  · have R : Hid (boundR xs ys vs (xl, xh) (yl, yh) = ((0, 0), cpErr xs ys vs (xl, xh) (yl, yh))) := by unfold Hid boundR; rw [if_pos he]
    generalize cpErr xs ys vs (xl, xh) (yl, yh) = ce at *
    go_wp2_with fail
    refine bodyPost_ret (v := .tuple #[.agg #[.int .i64 0, .int .i64 0], .int .i64 ce]) (by simp [results, Tryd.results10, go_sem, r0, r1]) rfl ⟨by rw [R.out], ?_⟩
    exact ((HWb.out.trans (HB1.out.mono HWb.out.size)).setCell (p := ⟨w.heap.size + 1 + 1 + 1, 0, none⟩) (by show _ ≤ _ + 1 + 1 + 1; omega) _).setCell (p := ⟨w.heap.size + 1 + 1 + 1, 1, none⟩) (by show _ ≤ _ + 1 + 1 + 1; omega) _
  · have he' : (cpErr xs ys vs (xl, xh) (yl, yh) != 0) = false := by simpa using he
    have h0 : cpErr xs ys vs (xl, xh) (yl, yh) = 0 := by simpa using he'
    have HO := Lib.hid (cp_zero h0)
    have R : Hid (boundR xs ys vs (xl, xh) (yl, yh) = (bnd xs ys vs (xl, xh) (yl, yh), 0)) := by unfold Hid boundR; rw [if_neg he]
    rw [h0]
    clear he he' h0
    go_wp2_with fail
    refine (extremesR HO.out ((HRR.out.below HWb.out).below HB1.out)).mono ?_
    rintro e w2 ⟨lo, mo, hlm, rfl, hb2⟩
    have HLM := Lib.hid hlm
    have HB2 := Lib.hid hb2
    clear hlm hb2 a1 a2 a3 a4 a5 a6 a7 r0 r1 f0 f1
    have hc := (HB2.out.block (w.heap.size + 1 + 1 + 1) (by omega)).trans HC1.out
    have r0 : w2.cell? ⟨w.heap.size + 1 + 1 + 1, 0, none⟩ = some (.int .i64 0) := by rw [cell_of_row w2 _ 0 _ _ _ hc]; rfl
    have r1 : w2.cell? ⟨w.heap.size + 1 + 1 + 1, 1, none⟩ = some (.int .i64 0) := by rw [cell_of_row w2 _ 1 _ _ _ hc]; rfl
    have f0 : w2.frozen? ⟨w.heap.size + 1 + 1 + 1, 0, none⟩ = false := by simp [World.frozen?, hc]
    have f1 : w2.frozen? ⟨w.heap.size + 1 + 1 + 1, 1, none⟩ = false := by simp [World.frozen?, hc]
    have hz2 : w.heap.size + 1 + 1 + 1 < w2.heap.size := by have := HB2.out.size; omega
    have HC2 := Lib.hid hc
    obtain ⟨hl1, hl2, hl3, hl4⟩ := lo.ok
    obtain ⟨hm1, hm2, hm3, hm4⟩ := mo.ok
    clear hc
    unfold vP
    go_wp2_with fail
    refine wp_region_tail 9 (by kernel_rfl) (by kernel_rfl) ?_
    simp only [List.take_succ_cons, List.take_zero, List.drop_succ_cons, List.drop_zero]
    iterate 6 still_step
    still_call (floor_any _ _ _ (by omega) (by omega) (by omega) (by omega))
    iterate 2 still_step
    refine wpStill_nil ?_
    go_wp2_with fail
    refine (up_any mo.n mo.d _ (by omega) (by omega) (by omega) (by omega)).mono ?_
    rintro e w4 ⟨rfl, hb4⟩
    have hb5 : Below w2.heap.size w2 w4 := ((((Below.refl _ w2).alloc (Nat.le_refl _) _).alloc (by simp) _).drew).trans (hb4.mono (by simp; omega))
    have hc := (hb5.block (w.heap.size + 1 + 1 + 1) (by omega)).trans HC2.out
    clear r0 r1 f0 f1
    have r0 : w4.cell? ⟨w.heap.size + 1 + 1 + 1, 0, none⟩ = some (.int .i64 0) := by rw [cell_of_row w4 _ 0 _ _ _ hc]; rfl
    have r1 : w4.cell? ⟨w.heap.size + 1 + 1 + 1, 1, none⟩ = some (.int .i64 0) := by rw [cell_of_row w4 _ 1 _ _ _ hc]; rfl
    have f0 : w4.frozen? ⟨w.heap.size + 1 + 1 + 1, 0, none⟩ = false := by simp [World.frozen?, hc]
    have f1 : w4.frozen? ⟨w.heap.size + 1 + 1 + 1, 1, none⟩ = false := by simp [World.frozen?, hc]
    have HB4 := Lib.hid ((HWb.out.trans (HB1.out.mono HWb.out.size)).trans ((HB2.out.trans (hb5.mono HB2.out.size)).mono (by have := HWb.out.size; have := HB1.out.size; omega)))
    clear hb4 hb5 hc
    go_wp2_with fail
    refine bodyPost_ret (v := .tuple #[.agg #[.int .i64 (lo.n / lo.d), .int .i64 (-(-mo.n / mo.d))], .int .i64 0]) (by simp [results, Tryd.results10, go_sem, r0, r1]) rfl ⟨by rw [R.out, bnd_eq HLM.out], ?_⟩
    exact (HB4.out.setCell (p := ⟨w.heap.size + 1 + 1 + 1, 0, none⟩) (by show _ ≤ _ + 1 + 1 + 1; omega) _).setCell (p := ⟨w.heap.size + 1 + 1 + 1, 1, none⟩) (by show _ ≤ _ + 1 + 1 + 1; omega) _
end Go.Proofs.YtgibbaadjbohdaaDoor
/- The contracts of Meet and Hull, and of what the reference has for them. -/
namespace Go.Proofs.YtgibbaadjbohdaaDoor
open Go.RowKit

def mx (a b : Int) : Int := if a < b then b else a
def mn (a b : Int) : Int := if b < a then b else a
theorem mx_eq (a b : Int) : mx a b = max a b := by unfold mx; split <;> omega
theorem mn_eq (a b : Int) : mn a b = min a b := by unfold mn; split <;> omega
end Go.Proofs.YtgibbaadjbohdaaDoor
/- The contracts of the reference's part, Between and Value. -/
namespace Go.Proofs.YtgibbaadjbohdaaDoor
open Go.RowKit

def PartAt (l : List Int) (x : Int) (i : Nat) : Prop := i + 2 ≤ l.length ∧ (0 < i → l[i]?.getD 0 ≤ x) ∧ (i + 2 < l.length → x < l[i+1]?.getD 0)
instance (l : List Int) (x : Int) (i : Nat) : Decidable (PartAt l x i) := by unfold PartAt; exact inferInstance
end Go.Proofs.YtgibbaadjbohdaaDoor
/- Plain laws of fractions, and that the reference's value of a table is the program's. -/
namespace Go.Proofs.YtgibbaadjbohdaaDoor

theorem floor_cross {n d m f : Int} (hd : 1 ≤ d) (hf : 1 ≤ f) (h : n * f = m * d) : n / d = m / f := by
  have h1 : n * f / (d * f) = n / d := Int.mul_ediv_mul_of_pos_left n d (by omega)
  have h2 : m * d / (f * d) = m / f := Int.mul_ediv_mul_of_pos_left m f (by omega)
  rw [← h1, ← h2, h, Int.mul_comm f d]
theorem ceil_cross {n d m f : Int} (hd : 1 ≤ d) (hf : 1 ≤ f) (h : n * f = m * d) : -(-n / d) = -(-m / f) := by
  rw [floor_cross (n := -n) (m := -m) hd hf (by rw [Int.neg_mul, Int.neg_mul, h])]
theorem cmpV_sign {n d m f : Int} (hd : 1 ≤ d) (hf : 1 ≤ f) : (cmpV n d m f < 0 ↔ n * f < m * d) ∧ (0 < cmpV n d m f ↔ m * d < n * f) := by
  have r1 := rem_bd n d hd
  have r2 := rem_bd m f hf
  have hC : cmpV n d m f = if n / d - m / f = 0 then (if (n - n / d * d) * f - (m - m / f * f) * d = 0 then 0 else (n - n / d * d) * f - (m - m / f * f) * d) else n / d - m / f := rfl
  rw [hC]
  clear hC
  generalize n / d = a at *
  generalize m / f = b at *
  have hdf : 1 ≤ d * f := by
    have := Int.mul_le_mul hd hf (by omega) (by omega : (0 : Int) ≤ d)
    omega
  have e1 : n * f - m * d = (a - b) * (d * f) + ((n - a * d) * f - (m - b * f) * d) := by grind
  have p1 : (n - a * d) * f ≤ (d - 1) * f := Int.mul_le_mul_of_nonneg_right (by omega) (by omega)
  have p2 : 0 ≤ (n - a * d) * f := Int.mul_nonneg (by omega) (by omega)
  have p3 : (m - b * f) * d ≤ (f - 1) * d := Int.mul_le_mul_of_nonneg_right (by omega) (by omega)
  have p4 : 0 ≤ (m - b * f) * d := Int.mul_nonneg (by omega) (by omega)
  have p5 : (d - 1) * f = d * f - f := by rw [Int.sub_mul]; omega
  have p6 : (f - 1) * d = d * f - d := by rw [Int.sub_mul, Int.mul_comm f d]; omega
  by_cases h0 : a - b = 0
  · rw [if_pos h0]
    rw [h0, Int.zero_mul] at e1
    split <;> constructor <;> omega
  · rw [if_neg h0]
    rcases Int.lt_or_gt_of_ne h0 with hlt | hgt
    · have p7 : (a - b) * (d * f) ≤ (-1) * (d * f) := Int.mul_le_mul_of_nonneg_right (by omega) (by omega)
      constructor <;> omega
    · have p7 : 1 * (d * f) ≤ (a - b) * (d * f) := Int.mul_le_mul_of_nonneg_right (by omega) (by omega)
      constructor <;> omega
end Go.Proofs.YtgibbaadjbohdaaDoor
/- A copy of a slice, append([]T{}, l...): a new slice of equal elements; nothing old is written. -/
namespace Go.Proofs.YtgibbaadjbohdaaDoor
open Go.RowKit

section
variable {P : Program} (w : World)
structure Copied (e : TypeId) (size m : Nat) (news : List Value) (w : World) (A : Option Addr) (c : Nat) (w' : World) : Prop where
  len : m ≤ c
  below : Below w.heap.size w w'
  own : 0 < m → w'.ownsRow w.heap.size e size (.slice A m c) m news
end
end Go.Proofs.YtgibbaadjbohdaaDoor
/- The contract of the reference's Copy: an equal table in new memory; nothing old is written. -/
namespace Go.Proofs.YtgibbaadjbohdaaDoor
open Go.RowKit

def OwnI (base : Nat) (w : World) (A : Option Addr) (c : Nat) (l : List Int) : Prop := 0 < l.length → w.ownsRow base 3 1 (.slice A l.length c) l.length (IV l)
theorem OwnI.ints {base : Nat} {w : World} {A : Option Addr} {c : Nat} {l : List Int} (h : OwnI base w A c l) : Ints w A l := fun hl => by
  obtain ⟨A', c', e, hI, _⟩ := ints_of_own (h hl)
  cases e
  exact hI hl
theorem grown_of_below {W W' : World} (hb : Below W.heap.size W W') : W.grownBy W' none := ⟨hb.os, hb.tape, hb.output, hb.size, fun k hk _ => hb.block k hk⟩
theorem OwnI.step {base : Nat} {W W' : World} {A : Option Addr} {c : Nat} {l : List Int} {row : Option Nat} (h : OwnI base W A c l) (hg : W.grownBy W' row) (hr : ∀ g cs fz, row = some g → W.heap[g]? = some (.cells cs 3 fz) → False) : OwnI base W' A c l := fun hl => by
  have h1 := h hl
  refine h1.kept hg ?_
  obtain ⟨_, ⟨e, _⟩ | ⟨g, cap, cur, e, hb, hgb, _⟩⟩ := h1
  · left; rw [e]; rfl
  · right
    intro e'
    rw [e] at e'
    exact hr g _ _ (by simpa [Value.ownBlock] using e'.symm) hgb
theorem OwnI.below {base : Nat} {W W' : World} {A : Option Addr} {c : Nat} {l : List Int} (h : OwnI base W A c l) (hb : Below W.heap.size W W') : OwnI base W' A c l := h.step (grown_of_below hb) (fun g cs fz e => by cases e)
theorem OwnI.mono {b1 b2 : Nat} {w : World} {A : Option Addr} {c : Nat} {l : List Int} (h : OwnI b1 w A c l) (hb : b2 ≤ b1) : OwnI b2 w A c l := fun hl => by
  obtain ⟨h1, ⟨e, h0⟩ | ⟨g, cap, cur, e, hbg, rest⟩⟩ := h hl
  · exact ⟨h1, .inl ⟨e, h0⟩⟩
  · exact ⟨h1, .inr ⟨g, cap, cur, e, by omega, rest⟩⟩
def OwnRows (base : Nat) (w : World) (rs : List Value) (l : List (List Int)) : Prop := rs.length = l.length ∧ ∀ k, k < l.length → ∃ B c, rs[k]? = some (.slice B (l[k]?.getD []).length c) ∧ (l[k]?.getD []).length ≤ c ∧ OwnI base w B c (l[k]?.getD [])
theorem OwnRows.step {base : Nat} {W W' : World} {rs : List Value} {l : List (List Int)} {row : Option Nat} (h : OwnRows base W rs l) (hg : W.grownBy W' row) (hr : ∀ g cs fz, row = some g → W.heap[g]? = some (.cells cs 3 fz) → False) : OwnRows base W' rs l :=
  ⟨h.1, fun k hk => by obtain ⟨B, c, h1, h2, h3⟩ := h.2 k hk; exact ⟨B, c, h1, h2, h3.step hg hr⟩⟩
def MatN (w : World) (A : Option Addr) (l : List (List Int)) : Prop :=
  0 < l.length → ∃ b off, A = some ⟨b, off, none⟩ ∧ b < w.heap.size ∧ ∀ k, k < l.length → ∃ B c, w.cell? ⟨b, off + k, none⟩ = some (.slice B (l[k]?.getD []).length c) ∧ Ints w B (l[k]?.getD []) ∧ (B = none → c = 0)
structure TabN (w : World) (X Y V : Option Addr) (cx cy cv : Nat) (xs ys : List Int) (vs : List (List Int)) : Prop where
  nx : X = none → cx = 0
  ny : Y = none → cy = 0
  mv : MatN w V vs
theorem MatN.below {w w' : World} {A : Option Addr} {l : List (List Int)} (h : MatN w A l) (hb : Below w.heap.size w w') : MatN w' A l := fun hl => by
  obtain ⟨b, off, e, hlt, hc⟩ := h hl
  refine ⟨b, off, e, Nat.lt_of_lt_of_le hlt hb.size, fun k hk => ?_⟩
  obtain ⟨B, c, h1, h2, h3⟩ := hc k hk
  exact ⟨B, c, (hb.cell (p := ⟨b, off + k, none⟩) hlt).trans h1, h2.below hb, h3⟩
theorem TabN.below {w w' : World} {X Y V : Option Addr} {cx cy cv : Nat} {xs ys : List Int} {vs : List (List Int)} (h : TabN w X Y V cx cy cv xs ys vs) (hb : Below w.heap.size w w') : TabN w' X Y V cx cy cv xs ys vs := ⟨h.nx, h.ny, h.mv.below hb⟩
end Go.Proofs.YtgibbaadjbohdaaDoor
/- The reference's bound: it is the program's. -/
namespace Go.Proofs.YtgibbaadjbohdaaDoor
open Go.RowKit

theorem ptAt_is {xs ys : List Int} {vs : List (List Int)} {x y : Int} (hT : Tbl xs ys vs) (hx : OnAx xs x) (hy : OnAx ys y) :
    (ptAt xs ys vs x y).n = atN xs ys vs x y ∧ (ptAt xs ys vs x y).d = atD xs ys x y ∧ (ptAt xs ys vs x y).x = x ∧ (ptAt xs ys vs x y).y = y := by
  unfold ptAt mkPt
  rw [dif_pos (at_bd hT hx hy)]
  exact ⟨rfl, rfl, rfl, rfl⟩
theorem floor_mono {n d m f : Int} (hd : 1 ≤ d) (hf : 1 ≤ f) (h : n * f ≤ m * d) : n / d ≤ m / f := by
  have h1 : n * f / (d * f) = n / d := Int.mul_ediv_mul_of_pos_left n d (by omega)
  have h2 : m * d / (f * d) = m / f := Int.mul_ediv_mul_of_pos_left m f (by omega)
  rw [← h1, ← h2, Int.mul_comm f d]
  exact Int.ediv_le_ediv (Int.mul_pos (by omega) (by omega)) h
theorem step_low (l p : Pt) : mn (l.n / l.d) (p.n / p.d) = (if cmpV p.n p.d l.n l.d < 0 then p else l).n / (if cmpV p.n p.d l.n l.d < 0 then p else l).d := by
  have h := (cmpV_sign (n := p.n) (m := l.n) p.ok.1 l.ok.1).1
  rw [mn_eq]
  by_cases c : cmpV p.n p.d l.n l.d < 0
  · rw [if_pos c]
    have := floor_mono (n := p.n) (m := l.n) p.ok.1 l.ok.1 (by have := h.1 c; omega)
    omega
  · rw [if_neg c]
    have := floor_mono (n := l.n) (m := p.n) l.ok.1 p.ok.1 (by have := fun q => c (h.2 q); omega)
    omega
theorem step_top (m p : Pt) : mx (-(-m.n / m.d)) (-(-p.n / p.d)) = -(-(if 0 < cmpV p.n p.d m.n m.d then p else m).n / (if 0 < cmpV p.n p.d m.n m.d then p else m).d) := by
  have h := (cmpV_sign (n := p.n) (m := m.n) p.ok.1 m.ok.1).2
  rw [mx_eq]
  by_cases c : 0 < cmpV p.n p.d m.n m.d
  · rw [if_pos c]
    have := floor_mono (n := -p.n) (m := -m.n) p.ok.1 m.ok.1 (by have := h.1 c; rw [Int.neg_mul, Int.neg_mul]; omega)
    omega
  · rw [if_neg c]
    have := floor_mono (n := -m.n) (m := -p.n) m.ok.1 p.ok.1 (by have := fun q => c (h.2 q); rw [Int.neg_mul, Int.neg_mul]; omega)
    omega
end Go.Proofs.YtgibbaadjbohdaaDoor
