/- The contracts of spans.Bound and spans.Worst. -/
import Derived.Test.YtfaiogajaaclcaaChk
namespace Go.Proofs.Ytfaiogajaaclcaa
open Go.RowKit

def pts (xs ys : List Int) (vs : List (List Int)) (x y : Int × Int) : List Pt := allPts xs ys vs (stopsL xs x.1 x.2) (stopsL ys y.1 y.2)
def bnd (xs ys : List Int) (vs : List (List Int)) (x y : Int × Int) : Int × Int :=
  match extrE (pts xs ys vs x y) with
  | some (l, m) => (l.n / l.d, -(-m.n / m.d))
  | none => (0, 0)
def wst (xs ys : List Int) (vs : List (List Int)) (x y : Int × Int) : Int × Int :=
  match extrE (pts xs ys vs x y) with
  | some (_, m) => (m.x, m.y)
  | none => (0, 0)
theorem bnd_eq {xs ys : List Int} {vs : List (List Int)} {x y : Int × Int} {l m : Pt} (h : extrE (pts xs ys vs x y) = some (l, m)) : bnd xs ys vs x y = (l.n / l.d, -(-m.n / m.d)) := by unfold bnd; rw [h]
theorem wst_eq {xs ys : List Int} {vs : List (List Int)} {x y : Int × Int} {l m : Pt} (h : extrE (pts xs ys vs x y) = some (l, m)) : wst xs ys vs x y = (m.x, m.y) := by unfold wst; rw [h]
theorem vB_iff {x : Int × Int} : vB x = true ↔ -1000000 ≤ x.1 ∧ x.1 ≤ x.2 ∧ x.2 ≤ 1000000 := by simp [vB, wB, and_assoc]
/-- what a box on a table owes -/
structure OnT (xs ys : List Int) (vs : List (List Int)) (x y : Int × Int) : Prop where
  t : Tbl xs ys vs
  x1 : xs[0]?.getD 0 ≤ x.1
  x2 : x.2 ≤ xs[xs.length-1]?.getD 0
  x3 : x.1 ≤ x.2
  y1 : ys[0]?.getD 0 ≤ y.1
  y2 : y.2 ≤ ys[ys.length-1]?.getD 0
  y3 : y.1 ≤ y.2
theorem liesB_iff {l : List Int} {x : Int × Int} : liesB l x = true ↔ l[0]?.getD 0 ≤ x.1 ∧ x.2 ≤ l[l.length - 1]?.getD 0 := by simp [liesB]
theorem cp_zero {xs ys : List Int} {vs : List (List Int)} {x y : Int × Int} (h : cpErr xs ys vs x y = 0) : OnT xs ys vs x y := by
  unfold cpErr at h
  by_cases ht : tabB xs ys vs = true
  · rw [if_pos ht] at h
    by_cases hs : (spErr [x, y] != 0) = true
    · rw [if_pos hs] at h
      simp at hs
      exact absurd h hs
    · rw [if_neg hs] at h
      by_cases hl : (liesB xs x && liesB ys y) = true
      · simp only [Bool.and_eq_true] at hl
        have h1 := liesB_iff.1 hl.1
        have h2 := liesB_iff.1 hl.2
        have hs' : spErr [x, y] = 0 := by simpa using hs
        unfold spErr at hs'
        by_cases ha : [x, y].any (fun x => !vB x) = true
        · rw [if_pos ha] at hs'; omega
        · have ha' : [x, y].any (fun x => !vB x) = false := by simpa using ha
          simp at ha'
          have v1 := vB_iff.1 ha'.1
          have v2 := vB_iff.1 ha'.2
          exact ⟨tbl_of ht, h1.1, h1.2, v1.2.1, h2.1, h2.2, v2.2.1⟩
      · rw [if_neg hl] at h; omega
  · rw [if_neg ht] at h; omega
theorem extremesR {xs ys : List Int} {vs : List (List Int)} {x y : Int × Int} {X Y V : Option Addr} {cx cy cv : Nat} {w : World} (h : OnT xs ys vs x y) (hR : TabR w X Y V cx cy cv xs ys vs) :
    Calls Try.prog 67 #[.agg #[.slice X xs.length cx, .slice Y ys.length cy, .slice V vs.length cv], .agg #[.int .i64 x.1, .int .i64 x.2], .agg #[.int .i64 y.1, .int .i64 y.2]] w (ExtPost (pts xs ys vs x y) w) :=
  extremes_any xs ys vs X Y V cx cy cv x.1 x.2 y.1 y.2 w h.t h.x1 h.x2 h.x3 h.y1 h.y2 h.y3 hR
def boundR (xs ys : List Int) (vs : List (List Int)) (x y : Int × Int) : (Int × Int) × Int := if cpErr xs ys vs x y != 0 then ((0, 0), cpErr xs ys vs x y) else (bnd xs ys vs x y, 0)
set_option maxRecDepth 100000 in
set_option maxHeartbeats 2000000 in
theorem bound_any (xs ys : List Int) (vs : List (List Int)) (X Y V : Option Addr) (cx cy cv : Nat) (x y : Int × Int) (w : World) (hS : TSz xs ys vs) (hR : TabR w X Y V cx cy cv xs ys vs) :
   Calls Try.prog 27 #[.agg #[.slice X xs.length cx, .slice Y ys.length cy, .slice V vs.length cv], .agg #[.int .i64 x.1, .int .i64 x.2], .agg #[.int .i64 y.1, .int .i64 y.2]] w fun e w' =>
     e = .returned (.tuple #[.agg #[.int .i64 (boundR xs ys vs x y).1.1, .int .i64 (boundR xs ys vs x y).1.2], .int .i64 (boundR xs ys vs x y).2]) ∧ Below w.heap.size w w' := by
  obtain ⟨xl, xh⟩ := x
  obtain ⟨yl, yh⟩ := y
  show Calls Try.prog 27 #[.agg #[.slice X xs.length cx, .slice Y ys.length cy, .slice V vs.length cv], .agg #[.int .i64 xl, .int .i64 xh], .agg #[.int .i64 yl, .int .i64 yh]] w _
  have HRR := Lib.hid hR
  have HS := Lib.hid hS
  obtain ⟨W, hW⟩ : ∃ W, (w3 w (.slice X xs.length cx) (.slice Y ys.length cy) (.slice V vs.length cv) (.int .i64 xl) (.int .i64 xh) (.int .i64 yl) (.int .i64 yh)).alloc (.cells #[.int .i64 0, .int .i64 0] 27) = W := ⟨_, rfl⟩
  have hWz : W.heap.size = w.heap.size + 4 := by rw [← hW]; simp [w3]
  have hWb : Below w.heap.size w W := by rw [← hW]; exact (w3_below w _ _ _ _ _ _ _).alloc w3_le _
  have hW3 : Below (w.heap.size + 3) (w3 w (.slice X xs.length cx) (.slice Y ys.length cy) (.slice V vs.length cv) (.int .i64 xl) (.int .i64 xh) (.int .i64 yl) (.int .i64 yh)) W := by rw [← hW]; exact (Below.refl _ _).alloc w3_le3 _
  have hWc : W.heap[w.heap.size + 1 + 1 + 1]? = some (.cells #[.int .i64 0, .int .i64 0] 27) := by rw [← hW, heap_alloc_at, w3_size, if_pos (by omega)]
  have HWz := Lib.hid hWz
  have HWb := Lib.hid hWb
  have HW3 := Lib.hid hW3
  have HWc := Lib.hid hWc
  have HW := Lib.hid hW
  clear hR hS hWz hWb hW3 hWc hW
  go_enter Try.func27, Try.ntmps27
  go_wp2_with fail
  have hW := HW.out
  unfold w3 at hW
  rw [hW]
  clear hW
  refine (checkPoints_any xs ys vs X Y V cx cy cv (xl, xh) (yl, yh) W HS.out (HRR.out.below HWb.out)).mono ?_
  rintro e w1 ⟨rfl, hb1⟩
  have hz1 := HWz.out
  obtain ⟨⟨a1, a2, a3⟩, ⟨a4, a5⟩, ⟨a6, a7⟩, hz⟩ := boxes3 (N := w.heap.size + 3) (HW3.out.trans (hb1.mono (by omega))) (by omega)
  have hc := (hb1.block (w.heap.size + 1 + 1 + 1) (by omega)).trans HWc.out
  have r0 : w1.cell? ⟨w.heap.size + 1 + 1 + 1, 0, none⟩ = some (.int .i64 0) := by rw [cell_of_row w1 _ 0 _ _ _ hc]; rfl
  have r1 : w1.cell? ⟨w.heap.size + 1 + 1 + 1, 1, none⟩ = some (.int .i64 0) := by rw [cell_of_row w1 _ 1 _ _ _ hc]; rfl
  have f0 : w1.frozen? ⟨w.heap.size + 1 + 1 + 1, 0, none⟩ = false := by simp [World.frozen?, hc]
  have f1 : w1.frozen? ⟨w.heap.size + 1 + 1 + 1, 1, none⟩ = false := by simp [World.frozen?, hc]
  have HB1 := Lib.hid hb1
  have HC1 := Lib.hid hc
  have hz4 : w.heap.size + 1 + 1 + 1 < w1.heap.size := by have := hb1.size; omega
  clear hz1 hc hb1
  by_cases he : (cpErr xs ys vs (xl, xh) (yl, yh) != 0) = true
  · have R : Hid (boundR xs ys vs (xl, xh) (yl, yh) = ((0, 0), cpErr xs ys vs (xl, xh) (yl, yh))) := by unfold Hid boundR; rw [if_pos he]
    generalize cpErr xs ys vs (xl, xh) (yl, yh) = ce at *
    go_wp2_with fail
    refine bodyPost_ret (v := .tuple #[.agg #[.int .i64 0, .int .i64 0], .int .i64 ce]) (by simp [results, Try.results27, go_sem, r0, r1]) rfl ⟨by rw [R.out], ?_⟩
    exact ((HWb.out.trans (HB1.out.mono HWb.out.size)).setCell (p := ⟨w.heap.size + 1 + 1 + 1, 0, none⟩) (by show _ ≤ _ + 1 + 1 + 1; omega) _).setCell (p := ⟨w.heap.size + 1 + 1 + 1, 1, none⟩) (by show _ ≤ _ + 1 + 1 + 1; omega) _
  · have he' : (cpErr xs ys vs (xl, xh) (yl, yh) != 0) = false := by simpa using he
    have h0 : cpErr xs ys vs (xl, xh) (yl, yh) = 0 := by simpa using he'
    have HO := Lib.hid (cp_zero h0)
    have R : Hid (boundR xs ys vs (xl, xh) (yl, yh) = (bnd xs ys vs (xl, xh) (yl, yh), 0)) := by unfold Hid boundR; rw [if_neg he]
    rw [h0]
    clear he he' h0
    go_wp2_with fail
    refine (extremesR HO.out ((HRR.out.below HWb.out).below HB1.out)).mono ?_
    rintro e w2 ⟨lo, mo, hlm, rfl, hb2⟩
    have HLM := Lib.hid hlm
    have HB2 := Lib.hid hb2
    clear hlm hb2 a1 a2 a3 a4 a5 a6 a7 r0 r1 f0 f1
    have hc := (HB2.out.block (w.heap.size + 1 + 1 + 1) (by omega)).trans HC1.out
    have r0 : w2.cell? ⟨w.heap.size + 1 + 1 + 1, 0, none⟩ = some (.int .i64 0) := by rw [cell_of_row w2 _ 0 _ _ _ hc]; rfl
    have r1 : w2.cell? ⟨w.heap.size + 1 + 1 + 1, 1, none⟩ = some (.int .i64 0) := by rw [cell_of_row w2 _ 1 _ _ _ hc]; rfl
    have f0 : w2.frozen? ⟨w.heap.size + 1 + 1 + 1, 0, none⟩ = false := by simp [World.frozen?, hc]
    have f1 : w2.frozen? ⟨w.heap.size + 1 + 1 + 1, 1, none⟩ = false := by simp [World.frozen?, hc]
    have hz2 : w.heap.size + 1 + 1 + 1 < w2.heap.size := by have := HB2.out.size; omega
    have HC2 := Lib.hid hc
    obtain ⟨hl1, hl2, hl3, hl4⟩ := lo.ok
    obtain ⟨hm1, hm2, hm3, hm4⟩ := mo.ok
    clear hc
    unfold vP
    go_wp2_with fail
    refine wp_region_tail 9 (by kernel_rfl) (by kernel_rfl) ?_
    simp only [List.take_succ_cons, List.take_zero, List.drop_succ_cons, List.drop_zero]
    iterate 6 still_step
    still_call (floor_any _ _ _ (by omega) (by omega) (by omega) (by omega))
    iterate 2 still_step
    refine wpStill_nil ?_
    go_wp2_with fail
    refine (up_any mo.n mo.d _ (by omega) (by omega) (by omega) (by omega)).mono ?_
    rintro e w4 ⟨rfl, hb4⟩
    have hb5 : Below w2.heap.size w2 w4 := ((((Below.refl _ w2).alloc (Nat.le_refl _) _).alloc (by simp) _).drew).trans (hb4.mono (by simp; omega))
    have hc := (hb5.block (w.heap.size + 1 + 1 + 1) (by omega)).trans HC2.out
    clear r0 r1 f0 f1
    have r0 : w4.cell? ⟨w.heap.size + 1 + 1 + 1, 0, none⟩ = some (.int .i64 0) := by rw [cell_of_row w4 _ 0 _ _ _ hc]; rfl
    have r1 : w4.cell? ⟨w.heap.size + 1 + 1 + 1, 1, none⟩ = some (.int .i64 0) := by rw [cell_of_row w4 _ 1 _ _ _ hc]; rfl
    have f0 : w4.frozen? ⟨w.heap.size + 1 + 1 + 1, 0, none⟩ = false := by simp [World.frozen?, hc]
    have f1 : w4.frozen? ⟨w.heap.size + 1 + 1 + 1, 1, none⟩ = false := by simp [World.frozen?, hc]
    have HB4 := Lib.hid ((HWb.out.trans (HB1.out.mono HWb.out.size)).trans ((HB2.out.trans (hb5.mono HB2.out.size)).mono (by have := HWb.out.size; have := HB1.out.size; omega)))
    clear hb4 hb5 hc
    go_wp2_with fail
    refine bodyPost_ret (v := .tuple #[.agg #[.int .i64 (lo.n / lo.d), .int .i64 (-(-mo.n / mo.d))], .int .i64 0]) (by simp [results, Try.results27, go_sem, r0, r1]) rfl ⟨by rw [R.out, bnd_eq HLM.out], ?_⟩
    exact (HB4.out.setCell (p := ⟨w.heap.size + 1 + 1 + 1, 0, none⟩) (by show _ ≤ _ + 1 + 1 + 1; omega) _).setCell (p := ⟨w.heap.size + 1 + 1 + 1, 1, none⟩) (by show _ ≤ _ + 1 + 1 + 1; omega) _
def worstR (xs ys : List Int) (vs : List (List Int)) (x y : Int × Int) : (Int × Int) × Int := if cpErr xs ys vs x y != 0 then ((0, 0), cpErr xs ys vs x y) else (wst xs ys vs x y, 0)
set_option maxRecDepth 100000 in
set_option maxHeartbeats 2000000 in
theorem worst_any (xs ys : List Int) (vs : List (List Int)) (X Y V : Option Addr) (cx cy cv : Nat) (x y : Int × Int) (w : World) (hS : TSz xs ys vs) (hR : TabR w X Y V cx cy cv xs ys vs) :
   Calls Try.prog 29 #[.agg #[.slice X xs.length cx, .slice Y ys.length cy, .slice V vs.length cv], .agg #[.int .i64 x.1, .int .i64 x.2], .agg #[.int .i64 y.1, .int .i64 y.2]] w fun e w' =>
     e = .returned (.tuple #[.int .i64 (worstR xs ys vs x y).1.1, .int .i64 (worstR xs ys vs x y).1.2, .int .i64 (worstR xs ys vs x y).2]) ∧ Below w.heap.size w w' := by
  obtain ⟨xl, xh⟩ := x
  obtain ⟨yl, yh⟩ := y
  show Calls Try.prog 29 #[.agg #[.slice X xs.length cx, .slice Y ys.length cy, .slice V vs.length cv], .agg #[.int .i64 xl, .int .i64 xh], .agg #[.int .i64 yl, .int .i64 yh]] w _
  have HRR := Lib.hid hR
  have HS := Lib.hid hS
  obtain ⟨W, hW⟩ : ∃ W, w3 w (.slice X xs.length cx) (.slice Y ys.length cy) (.slice V vs.length cv) (.int .i64 xl) (.int .i64 xh) (.int .i64 yl) (.int .i64 yh) = W := ⟨_, rfl⟩
  have hWz : W.heap.size = w.heap.size + 3 := by rw [← hW]; simp [w3]
  have hWb : Below w.heap.size w W := by rw [← hW]; exact w3_below w _ _ _ _ _ _ _
  have hW3 : Below (w.heap.size + 3) (w3 w (.slice X xs.length cx) (.slice Y ys.length cy) (.slice V vs.length cv) (.int .i64 xl) (.int .i64 xh) (.int .i64 yl) (.int .i64 yh)) W := by rw [← hW]; exact Below.refl _ _
  have HWz := Lib.hid hWz
  have HWb := Lib.hid hWb
  have HW3 := Lib.hid hW3
  have HW := Lib.hid hW
  clear hR hS hWz hWb hW3 hW
  go_enter Try.func29, Try.ntmps29
  go_wp2_with fail
  have hW := HW.out
  unfold w3 at hW
  rw [hW]
  clear hW
  refine (checkPoints_any xs ys vs X Y V cx cy cv (xl, xh) (yl, yh) W HS.out (HRR.out.below HWb.out)).mono ?_
  rintro e w1 ⟨rfl, hb1⟩
  have hz1 := HWz.out
  obtain ⟨⟨a1, a2, a3⟩, ⟨a4, a5⟩, ⟨a6, a7⟩, hz⟩ := boxes3 (N := w.heap.size + 3) (HW3.out.trans (hb1.mono (by omega))) (by omega)
  have HB1 := Lib.hid hb1
  clear hz1 hb1
  by_cases he : (cpErr xs ys vs (xl, xh) (yl, yh) != 0) = true
  · have R : Hid (worstR xs ys vs (xl, xh) (yl, yh) = ((0, 0), cpErr xs ys vs (xl, xh) (yl, yh))) := by unfold Hid worstR; rw [if_pos he]
    generalize cpErr xs ys vs (xl, xh) (yl, yh) = ce at *
    go_wp2_with fail
    go_ret3
    exact ⟨by rw [R.out]; rfl, HWb.out.trans (HB1.out.mono HWb.out.size)⟩
  · have he' : (cpErr xs ys vs (xl, xh) (yl, yh) != 0) = false := by simpa using he
    have h0 : cpErr xs ys vs (xl, xh) (yl, yh) = 0 := by simpa using he'
    have HO := Lib.hid (cp_zero h0)
    have R : Hid (worstR xs ys vs (xl, xh) (yl, yh) = (wst xs ys vs (xl, xh) (yl, yh), 0)) := by unfold Hid worstR; rw [if_neg he]
    rw [h0]
    clear he he' h0
    go_wp2_with fail
    refine (extremesR HO.out ((HRR.out.below HWb.out).below HB1.out)).mono ?_
    rintro e w2 ⟨lo, mo, hlm, rfl, hb2⟩
    have HLM := Lib.hid hlm
    have HB2 := Lib.hid hb2
    clear hlm hb2 a1 a2 a3 a4 a5 a6 a7
    unfold vP
    go_wp2_with fail
    go_quiet (fail)
    go_wp2_with fail
    go_ret3
    refine ⟨by rw [R.out, wst_eq HLM.out]; rfl, ?_⟩
    refine Below.drewN' ?_ _
    exact (((HWb.out.trans (HB1.out.mono HWb.out.size)).trans (HB2.out.mono (by have := HWb.out.size; have := HB1.out.size; omega))).alloc (by have := HWb.out.size; have := HB1.out.size; have := HB2.out.size; omega) _).alloc (by have := HWb.out.size; have := HB1.out.size; have := HB2.out.size; simp; omega) _
end Go.Proofs.Ytfaiogajaaclcaa
