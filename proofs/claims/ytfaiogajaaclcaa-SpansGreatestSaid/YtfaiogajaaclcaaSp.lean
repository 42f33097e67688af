/- The contracts of Meet and Hull, and of what the reference has for them. -/
import Derived.Test.YtfaiogajaaclcaaWorks
namespace Go.Proofs.Ytfaiogajaaclcaa
open Go.RowKit

theorem from_any (a b c : Int) (w : World) :
    Calls Try.prog 34 #[.int .i64 a, .int .i64 b, .int .i64 c] w fun e w' => e = .returned (.bool (wB a b c)) ∧ w' = w := by
  by_cases h1 : b ≤ a <;> by_cases h2 : a ≤ c
  all_goals
    go_enter Try.func34, Try.ntmps34
    go_wp2
    go_ret
    simp [wB, h1, h2]
theorem vB_eq (lo hi : Int) : vB (lo, hi) = (wB lo (-1000000) 1000000 && wB hi lo 1000000) := by
  rw [Bool.eq_iff_iff, vB_iff, Bool.and_eq_true, wB_iff, wB_iff]
  constructor
  · rintro ⟨h1, h2, h3⟩; simp only at h1 h2 h3; omega
  · rintro ⟨⟨h1, h2⟩, h3, h4⟩; simp only; omega
set_option maxHeartbeats 400000 in
theorem rvalid_any (x : Int × Int) (w : World) :
    Calls Try.prog 49 #[.agg #[.int .i64 x.1, .int .i64 x.2]] w fun e w' => e = .returned (.bool (vB x)) ∧ Below w.heap.size w w' := by
  obtain ⟨lo, hi⟩ := x
  show Calls Try.prog 49 #[.agg #[.int .i64 lo, .int .i64 hi]] w _
  have key : ∀ b : Bool, wB lo (-1000000) 1000000 = b → Calls Try.prog 49 #[.agg #[.int .i64 lo, .int .i64 hi]] w fun e w' => e = .returned (.bool (b && wB hi lo 1000000)) ∧ Below w.heap.size w w' := by
    intro b hb
    have H := Lib.hid hb
    clear hb
    cases b
    all_goals
      go_enter Try.func49, Try.ntmps49
      go_wp2_with fail
      refine (from_any _ _ _ _).mono ?_
      rintro e w' ⟨rfl, rfl⟩
      rw [H.out]
    · go_wp2_with fail
      go_ret
      exact ⟨by simp, (Below.refl _ _).alloc (Nat.le_refl _) _⟩
    · go_wp2_with fail
      refine (from_any _ _ _ _).mono ?_
      rintro e w' ⟨rfl, rfl⟩
      go_wp2_with fail
      go_ret
      exact ⟨by simp, (Below.refl _ _).alloc (Nat.le_refl _) _⟩
  rw [vB_eq]
  exact key _ rfl
theorem spErr2 (a b : Int × Int) : spErr [a, b] = if vB a && vB b then 0 else 10 := by
  unfold spErr
  cases h1 : vB a <;> cases h2 : vB b <;> simp [h1, h2]
set_option maxHeartbeats 400000 in
theorem two_any (a b : Int × Int) (w : World) :
    Calls Try.prog 88 #[.agg #[.int .i64 a.1, .int .i64 a.2], .agg #[.int .i64 b.1, .int .i64 b.2]] w fun e w' => e = .returned (.int .i64 (spErr [a, b])) ∧ Below w.heap.size w w' := by
  obtain ⟨a1, a2⟩ := a
  obtain ⟨b1, b2⟩ := b
  show Calls Try.prog 88 #[.agg #[.int .i64 a1, .int .i64 a2], .agg #[.int .i64 b1, .int .i64 b2]] w _
  have HE := Lib.hid (spErr2 (a1, a2) (b1, b2))
  have HB0 := Lib.hid (show Below w.heap.size w ((w.alloc (.cells #[.int .i64 a1, .int .i64 a2] 27)).alloc (.cells #[.int .i64 b1, .int .i64 b2] 27)) from ((Below.refl _ w).alloc (Nat.le_refl _) _).alloc (by simp) _)
  go_enter Try.func88, Try.ntmps88
  go_wp2_with fail
  refine (rvalid_any (a1, a2) _).mono ?_
  rintro e w1 ⟨rfl, hb1⟩
  have c0 : w1.cell? ⟨w.heap.size + 1, 0, none⟩ = some (.int .i64 b1) := (hb1.cell (p := ⟨w.heap.size + 1, 0, none⟩) (by simp)).trans (by simp)
  have c1 : w1.cell? ⟨w.heap.size + 1, 1, none⟩ = some (.int .i64 b2) := (hb1.cell (p := ⟨w.heap.size + 1, 1, none⟩) (by simp)).trans (by simp)
  have HB1 := Lib.hid (HB0.out.trans (hb1.mono HB0.out.size))
  clear hb1
  by_cases h1 : vB (a1, a2) = true
  · rw [h1] at HE ⊢
    clear h1
    go_wp2_with fail
    refine (rvalid_any (b1, b2) _).mono ?_
    rintro e w2 ⟨rfl, hb2⟩
    have HB2 := Lib.hid (HB1.out.trans (hb2.mono HB1.out.size))
    clear hb2
    by_cases h2 : vB (b1, b2) = true
    · rw [h2] at HE ⊢
      clear h2
      go_wp2_with fail
      go_ret
      exact ⟨by rw [HE.out]; rfl, HB2.out⟩
    · have h2' : vB (b1, b2) = false := by simpa using h2
      rw [h2'] at HE ⊢
      clear h2 h2'
      go_wp2_with fail
      go_ret
      exact ⟨by rw [HE.out]; rfl, HB2.out⟩
  · have h1' : vB (a1, a2) = false := by simpa using h1
    rw [h1'] at HE ⊢
    clear h1 h1'
    go_wp2_with fail
    go_ret
    exact ⟨by rw [HE.out]; rfl, HB1.out⟩

/-- three boxes of spans at the head of a call -/
def w3s (w : World) (x1 x2 y1 y2 z1 z2 : Value) : World := ((w.alloc (.cells #[x1, x2] 27)).alloc (.cells #[y1, y2] 27)).alloc (.cells #[z1, z2] 27)
theorem cells2 {W : World} {B : Nat} {t : TypeId} {a b : Value} (h : W.heap[B]? = some (.cells #[a, b] t)) :
    (W.cell? ⟨B, 0, none⟩ = some a ∧ W.cell? ⟨B, 1, none⟩ = some b) ∧ (W.frozen? ⟨B, 0, none⟩ = false ∧ W.frozen? ⟨B, 1, none⟩ = false) := by
  refine ⟨⟨?_, ?_⟩, ?_, ?_⟩
  · rw [cell_of_row W _ 0 _ _ _ h]; rfl
  · rw [cell_of_row W _ 1 _ _ _ h]; rfl
  all_goals simp [World.frozen?, h]
theorem boxes3s {w w1 : World} {x1 x2 y1 y2 z1 z2 : Value} (hb : Below (w3s w x1 x2 y1 y2 z1 z2).heap.size (w3s w x1 x2 y1 y2 z1 z2) w1) :
    (w1.cell? ⟨w.heap.size, 0, none⟩ = some x1 ∧ w1.cell? ⟨w.heap.size, 1, none⟩ = some x2) ∧ (w1.cell? ⟨w.heap.size + 1, 0, none⟩ = some y1 ∧ w1.cell? ⟨w.heap.size + 1, 1, none⟩ = some y2) ∧
    ((w1.cell? ⟨w.heap.size + 1 + 1, 0, none⟩ = some z1 ∧ w1.cell? ⟨w.heap.size + 1 + 1, 1, none⟩ = some z2) ∧ (w1.frozen? ⟨w.heap.size + 1 + 1, 0, none⟩ = false ∧ w1.frozen? ⟨w.heap.size + 1 + 1, 1, none⟩ = false)) ∧
    (w.heap.size < w1.heap.size ∧ w.heap.size + 1 < w1.heap.size ∧ w.heap.size + 1 + 1 < w1.heap.size) ∧ Below w.heap.size w w1 := by
  have hz : (w3s w x1 x2 y1 y2 z1 z2).heap.size = w.heap.size + 3 := by simp [w3s]
  have hb0 : Below w.heap.size w (w3s w x1 x2 y1 y2 z1 z2) := (((Below.refl _ w).alloc (Nat.le_refl _) _).alloc (by simp) _).alloc (by simp; omega) _
  have hs := hb.size
  have h0 : w1.heap[w.heap.size]? = some (.cells #[x1, x2] 27) := (hb.block _ (by omega)).trans (by
    simp only [w3s, heap_alloc_at, World.size_alloc]; repeat (first | rw [if_pos trivial] | rw [if_neg (by omega)]))
  have h1 : w1.heap[w.heap.size + 1]? = some (.cells #[y1, y2] 27) := (hb.block _ (by omega)).trans (by
    simp only [w3s, heap_alloc_at, World.size_alloc]; repeat (first | rw [if_pos trivial] | rw [if_neg (by omega)]))
  have h2 : w1.heap[w.heap.size + 1 + 1]? = some (.cells #[z1, z2] 27) := (hb.block _ (by omega)).trans (by
    simp only [w3s, heap_alloc_at, World.size_alloc]; repeat (first | rw [if_pos trivial] | rw [if_neg (by omega)]))
  exact ⟨(cells2 h0).1, (cells2 h1).1, cells2 h2, ⟨by omega, by omega, by omega⟩, hb0.trans (hb.mono (by omega))⟩
theorem set2_below {n : Nat} {w w1 : World} {B : Nat} (h : Below n w w1) (hB : n ≤ B) (a b : Value) : Below n w ((w1.setCell ⟨B, 0, none⟩ a).setCell ⟨B, 1, none⟩ b) :=
  (h.setCell (p := ⟨B, 0, none⟩) hB _).setCell (p := ⟨B, 1, none⟩) hB _
theorem below_alloc {w w1 : World} (h : Below w.heap.size w w1) (o : Obj) : Below w.heap.size w (w1.alloc o) := h.alloc h.size o
theorem spOk {a b : Int × Int} (h : ¬ (spErr [a, b] != 0) = true) : vB a = true ∧ vB b = true := by
  rw [spErr2] at h
  cases h1 : vB a <;> cases h2 : vB b <;> simp [h1, h2] at h ⊢
/-- Go's max and min as the walk has them -/
def mx (a b : Int) : Int := if a < b then b else a
def mn (a b : Int) : Int := if b < a then b else a
theorem mx_eq (a b : Int) : mx a b = max a b := by unfold mx; split <;> omega
theorem mn_eq (a b : Int) : mn a b = min a b := by unfold mn; split <;> omega
def meetR (a b : Int × Int) : (Int × Int) × Int := if spErr [a, b] != 0 then ((0, 0), spErr [a, b]) else if mn a.2 b.2 < mx a.1 b.1 then ((0, 0), 3) else ((mx a.1 b.1, mn a.2 b.2), 0)
def hullR (a b : Int × Int) : (Int × Int) × Int := if spErr [a, b] != 0 then ((0, 0), spErr [a, b]) else ((mn a.1 b.1, mx a.2 b.2), 0)
set_option maxHeartbeats 1000000 in
theorem meet_any (a b : Int × Int) (w : World) :
    Calls Try.prog 37 #[.agg #[.int .i64 a.1, .int .i64 a.2], .agg #[.int .i64 b.1, .int .i64 b.2]] w fun e w' => e = .returned (.tuple #[.agg #[.int .i64 (meetR a b).1.1, .int .i64 (meetR a b).1.2], .int .i64 (meetR a b).2]) ∧ Below w.heap.size w w' := by
  obtain ⟨a1, a2⟩ := a
  obtain ⟨b1, b2⟩ := b
  show Calls Try.prog 37 #[.agg #[.int .i64 a1, .int .i64 a2], .agg #[.int .i64 b1, .int .i64 b2]] w _
  have HE : Hid (meetR (a1, a2) (b1, b2) = if spErr [(a1, a2), (b1, b2)] != 0 then ((0, 0), spErr [(a1, a2), (b1, b2)]) else if (if b2 < a2 then b2 else a2) < (if a1 < b1 then b1 else a1) then ((0, 0), 3) else (((if a1 < b1 then b1 else a1), (if b2 < a2 then b2 else a2)), 0)) := rfl
  go_enter Try.func37, Try.ntmps37
  go_wp2_with fail
  refine (spanned_any _ [(a1, a2), (b1, b2)] 2 _ (by simp) (sps_new2 _ _ _ _ _ _ _ (by simp))).mono ?_
  rintro e w1 ⟨rfl, hb1⟩
  have hb2 : Below (w3s w (.int .i64 a1) (.int .i64 a2) (.int .i64 b1) (.int .i64 b2) (.int .i64 0) (.int .i64 0)).heap.size (w3s w (.int .i64 a1) (.int .i64 a2) (.int .i64 b1) (.int .i64 b2) (.int .i64 0) (.int .i64 0)) w1 := ((Below.refl _ _).alloc (Nat.le_refl _) _).trans (hb1.mono (by simp [w3s]))
  obtain ⟨⟨p1, p2⟩, ⟨p3, p4⟩, ⟨⟨p5, p6⟩, p7, p8⟩, ⟨hz0, hz1, hz2⟩, hB⟩ := boxes3s hb2
  have HB := Lib.hid hB
  clear hb1 hb2 hB
  by_cases he : (spErr [(a1, a2), (b1, b2)] != 0) = true
  · rw [if_pos he] at HE
    generalize spErr [(a1, a2), (b1, b2)] = sp at *
    go_wp2_with fail
    refine bodyPost_ret (v := .tuple #[.agg #[.int .i64 0, .int .i64 0], .int .i64 sp]) (by simp [results, Try.results37, go_sem, p5, p6]) rfl ⟨by rw [HE.out], set2_below HB.out (by omega) _ _⟩
  · have HS := Lib.hid (spOk he)
    rw [if_neg he] at HE
    have he' : spErr [(a1, a2), (b1, b2)] = 0 := by simpa using he
    rw [he']
    clear he he'
    generalize hu' : (if a1 < b1 then b1 else a1) = u at *
    generalize hv' : (if b2 < a2 then b2 else a2) = v at *
    by_cases hu : v < u
    · rw [if_pos hu] at HE
      go_wp2_with fail
      go_region
      go_wp2_with fail
      refine bodyPost_ret (v := .tuple #[.agg #[.int .i64 0, .int .i64 0], .int .i64 3]) (by simp [results, Try.results37, go_sem, p5, p6]) rfl ⟨by rw [HE.out], set2_below (HB.out.drew) (by omega) _ _⟩
    · rw [if_neg hu] at HE
      go_wp2_with fail
      go_region
      go_wp2_with fail
      refine bodyPost_ret (v := .tuple #[.agg #[.int .i64 u, .int .i64 v], .int .i64 0]) (by simp [results, Try.results37, go_sem, p5, p6]) rfl ⟨by rw [HE.out], set2_below (HB.out.drew) (by omega) _ _⟩
set_option maxHeartbeats 1000000 in
theorem rmeet_any (a b : Int × Int) (w : World) :
    Calls Try.prog 38 #[.agg #[.int .i64 a.1, .int .i64 a.2], .agg #[.int .i64 b.1, .int .i64 b.2]] w fun e w' => e = .returned (.tuple #[.agg #[.int .i64 (meetR a b).1.1, .int .i64 (meetR a b).1.2], .int .i64 (meetR a b).2]) ∧ Below w.heap.size w w' := by
  obtain ⟨a1, a2⟩ := a
  obtain ⟨b1, b2⟩ := b
  show Calls Try.prog 38 #[.agg #[.int .i64 a1, .int .i64 a2], .agg #[.int .i64 b1, .int .i64 b2]] w _
  have HE : Hid (meetR (a1, a2) (b1, b2) = if spErr [(a1, a2), (b1, b2)] != 0 then ((0, 0), spErr [(a1, a2), (b1, b2)]) else if (if b2 < a2 then b2 else a2) < (if a1 < b1 then b1 else a1) then ((0, 0), 3) else (((if a1 < b1 then b1 else a1), (if b2 < a2 then b2 else a2)), 0)) := rfl
  go_enter Try.func38, Try.ntmps38
  go_wp2_with fail
  refine (two_any (a1, a2) (b1, b2) _).mono ?_
  rintro e w1 ⟨rfl, hb1⟩
  have hb2 : Below (w3s w (.int .i64 a1) (.int .i64 a2) (.int .i64 b1) (.int .i64 b2) (.int .i64 0) (.int .i64 0)).heap.size (w3s w (.int .i64 a1) (.int .i64 a2) (.int .i64 b1) (.int .i64 b2) (.int .i64 0) (.int .i64 0)) w1 := hb1
  obtain ⟨⟨p1, p2⟩, ⟨p3, p4⟩, ⟨⟨p5, p6⟩, p7, p8⟩, ⟨hz0, hz1, hz2⟩, hB⟩ := boxes3s hb2
  have HB := Lib.hid hB
  clear hb1 hb2 hB
  by_cases he : (spErr [(a1, a2), (b1, b2)] != 0) = true
  · rw [if_pos he] at HE
    generalize spErr [(a1, a2), (b1, b2)] = sp at *
    go_wp2_with fail
    refine bodyPost_ret (v := .tuple #[.agg #[.int .i64 0, .int .i64 0], .int .i64 sp]) (by simp [results, Try.results38, go_sem, p5, p6]) rfl ⟨by rw [HE.out], set2_below HB.out (by omega) _ _⟩
  · have HS := Lib.hid (spOk he)
    rw [if_neg he] at HE
    have he' : spErr [(a1, a2), (b1, b2)] = 0 := by simpa using he
    rw [he']
    clear he he'
    generalize hu' : (if a1 < b1 then b1 else a1) = u at *
    generalize hv' : (if b2 < a2 then b2 else a2) = v at *
    by_cases hu : v < u
    · rw [if_pos hu] at HE
      go_wp2_with fail
      refine bodyPost_ret (v := .tuple #[.agg #[.int .i64 0, .int .i64 0], .int .i64 3]) (by simp [results, Try.results38, go_sem, p5, p6, hz2]) rfl ⟨by rw [HE.out], below_alloc (set2_below HB.out (by omega) _ _) _⟩
    · rw [if_neg hu] at HE
      go_wp2_with fail
      refine bodyPost_ret (v := .tuple #[.agg #[.int .i64 u, .int .i64 v], .int .i64 0]) (by simp [results, Try.results38, go_sem, p5, p6, hz2]) rfl ⟨by rw [HE.out], below_alloc (set2_below HB.out (by omega) _ _) _⟩
set_option maxHeartbeats 1000000 in
theorem hull_any (a b : Int × Int) (w : World) :
    Calls Try.prog 39 #[.agg #[.int .i64 a.1, .int .i64 a.2], .agg #[.int .i64 b.1, .int .i64 b.2]] w fun e w' => e = .returned (.tuple #[.agg #[.int .i64 (hullR a b).1.1, .int .i64 (hullR a b).1.2], .int .i64 (hullR a b).2]) ∧ Below w.heap.size w w' := by
  obtain ⟨a1, a2⟩ := a
  obtain ⟨b1, b2⟩ := b
  show Calls Try.prog 39 #[.agg #[.int .i64 a1, .int .i64 a2], .agg #[.int .i64 b1, .int .i64 b2]] w _
  have HE : Hid (hullR (a1, a2) (b1, b2) = if spErr [(a1, a2), (b1, b2)] != 0 then ((0, 0), spErr [(a1, a2), (b1, b2)]) else (((if b1 < a1 then b1 else a1), (if a2 < b2 then b2 else a2)), 0)) := rfl
  go_enter Try.func39, Try.ntmps39
  go_wp2_with fail
  refine (spanned_any _ [(a1, a2), (b1, b2)] 2 _ (by simp) (sps_new2 _ _ _ _ _ _ _ (by simp))).mono ?_
  rintro e w1 ⟨rfl, hb1⟩
  have hb2 : Below (w3s w (.int .i64 a1) (.int .i64 a2) (.int .i64 b1) (.int .i64 b2) (.int .i64 0) (.int .i64 0)).heap.size (w3s w (.int .i64 a1) (.int .i64 a2) (.int .i64 b1) (.int .i64 b2) (.int .i64 0) (.int .i64 0)) w1 := ((Below.refl _ _).alloc (Nat.le_refl _) _).trans (hb1.mono (by simp [w3s]))
  obtain ⟨⟨p1, p2⟩, ⟨p3, p4⟩, ⟨⟨p5, p6⟩, p7, p8⟩, ⟨hz0, hz1, hz2⟩, hB⟩ := boxes3s hb2
  have HB := Lib.hid hB
  clear hb1 hb2 hB
  by_cases he : (spErr [(a1, a2), (b1, b2)] != 0) = true
  · rw [if_pos he] at HE
    generalize spErr [(a1, a2), (b1, b2)] = sp at *
    go_wp2_with fail
    refine bodyPost_ret (v := .tuple #[.agg #[.int .i64 0, .int .i64 0], .int .i64 sp]) (by simp [results, Try.results39, go_sem, p5, p6]) rfl ⟨by rw [HE.out], set2_below HB.out (by omega) _ _⟩
  · have HS := Lib.hid (spOk he)
    rw [if_neg he] at HE
    have he' : spErr [(a1, a2), (b1, b2)] = 0 := by simpa using he
    rw [he']
    clear he he'
    generalize hu' : (if b1 < a1 then b1 else a1) = u at *
    generalize hv' : (if a2 < b2 then b2 else a2) = v at *
    go_wp2_with fail
    refine bodyPost_ret (v := .tuple #[.agg #[.int .i64 u, .int .i64 v], .int .i64 0]) (by simp [results, Try.results39, go_sem, p5, p6]) rfl ⟨by rw [HE.out], set2_below HB.out (by omega) _ _⟩
set_option maxHeartbeats 1000000 in
theorem rhull_any (a b : Int × Int) (w : World) :
    Calls Try.prog 40 #[.agg #[.int .i64 a.1, .int .i64 a.2], .agg #[.int .i64 b.1, .int .i64 b.2]] w fun e w' => e = .returned (.tuple #[.agg #[.int .i64 (hullR a b).1.1, .int .i64 (hullR a b).1.2], .int .i64 (hullR a b).2]) ∧ Below w.heap.size w w' := by
  obtain ⟨a1, a2⟩ := a
  obtain ⟨b1, b2⟩ := b
  show Calls Try.prog 40 #[.agg #[.int .i64 a1, .int .i64 a2], .agg #[.int .i64 b1, .int .i64 b2]] w _
  have HE : Hid (hullR (a1, a2) (b1, b2) = if spErr [(a1, a2), (b1, b2)] != 0 then ((0, 0), spErr [(a1, a2), (b1, b2)]) else (((if b1 < a1 then b1 else a1), (if a2 < b2 then b2 else a2)), 0)) := rfl
  go_enter Try.func40, Try.ntmps40
  go_wp2_with fail
  refine (two_any (a1, a2) (b1, b2) _).mono ?_
  rintro e w1 ⟨rfl, hb1⟩
  have hb2 : Below (w3s w (.int .i64 a1) (.int .i64 a2) (.int .i64 b1) (.int .i64 b2) (.int .i64 0) (.int .i64 0)).heap.size (w3s w (.int .i64 a1) (.int .i64 a2) (.int .i64 b1) (.int .i64 b2) (.int .i64 0) (.int .i64 0)) w1 := hb1
  obtain ⟨⟨p1, p2⟩, ⟨p3, p4⟩, ⟨⟨p5, p6⟩, p7, p8⟩, ⟨hz0, hz1, hz2⟩, hB⟩ := boxes3s hb2
  have HB := Lib.hid hB
  clear hb1 hb2 hB
  by_cases he : (spErr [(a1, a2), (b1, b2)] != 0) = true
  · rw [if_pos he] at HE
    generalize spErr [(a1, a2), (b1, b2)] = sp at *
    go_wp2_with fail
    refine bodyPost_ret (v := .tuple #[.agg #[.int .i64 0, .int .i64 0], .int .i64 sp]) (by simp [results, Try.results40, go_sem, p5, p6]) rfl ⟨by rw [HE.out], set2_below HB.out (by omega) _ _⟩
  · have HS := Lib.hid (spOk he)
    rw [if_neg he] at HE
    have he' : spErr [(a1, a2), (b1, b2)] = 0 := by simpa using he
    rw [he']
    clear he he'
    generalize hu' : (if b1 < a1 then b1 else a1) = u at *
    generalize hv' : (if a2 < b2 then b2 else a2) = v at *
    go_wp2_with fail
    refine bodyPost_ret (v := .tuple #[.agg #[.int .i64 u, .int .i64 v], .int .i64 0]) (by simp [results, Try.results40, go_sem, p5, p6]) rfl ⟨by rw [HE.out], set2_below HB.out (by omega) _ _⟩
end Go.Proofs.Ytfaiogajaaclcaa
