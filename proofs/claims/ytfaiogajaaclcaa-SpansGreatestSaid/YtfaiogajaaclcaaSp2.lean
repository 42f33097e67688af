/- The contracts of Add, Times, Part, and of what the reference has for them. -/
import Derived.Test.YtfaiogajaaclcaaMeets
import Derived.Deep.RegionWith
namespace Go.Proofs.Ytfaiogajaaclcaa
open Go.RowKit

theorem cell_b {W W' : World} {B o : Nat} {v : Value} (hb : Below W.heap.size W W') (h : W.cell? ⟨B, o, none⟩ = some v) : W'.cell? ⟨B, o, none⟩ = some v := by
  obtain ⟨ob, ho, _⟩ := cells_of_cell h
  exact (hb.cell (p := ⟨B, o, none⟩) (blk_lt ho)).trans h
theorem froz_b {W W' : World} {B o : Nat} {v : Value} (hb : Below W.heap.size W W') (h : W.cell? ⟨B, o, none⟩ = some v) (hf : W.frozen? ⟨B, o, none⟩ = false) : W'.frozen? ⟨B, o, none⟩ = false := by
  obtain ⟨ob, ho, _⟩ := cells_of_cell h
  exact (hb.frozen (p := ⟨B, o, none⟩) (blk_lt ho)).trans hf
def madeR (a : Int × Int) : (Int × Int) × Int := if vB a then (a, 0) else ((0, 0), 2)
set_option maxHeartbeats 1000000 in
theorem made_any (lo hi : Int) (w : World) :
    Calls Try.prog 89 #[.int .i64 lo, .int .i64 hi] w fun e w' => e = .returned (.tuple #[.agg #[.int .i64 (madeR (lo, hi)).1.1, .int .i64 (madeR (lo, hi)).1.2], .int .i64 (madeR (lo, hi)).2]) ∧ Below w.heap.size w w' := by
  have HE : Hid (madeR (lo, hi) = if vB (lo, hi) then ((lo, hi), 0) else ((0, 0), 2)) := rfl
  have HB0 := Lib.hid (show Below w.heap.size w ((w.alloc (.cells #[.int .i64 0, .int .i64 0] 27)).alloc (.cells #[.int .i64 lo, .int .i64 hi] 27)) from ((Below.refl _ w).alloc (Nat.le_refl _) _).alloc (by simp) _)
  have HA0 := Lib.hid (blk_old (.cells #[.int .i64 lo, .int .i64 hi] 27) (blk_new w (.cells #[.int .i64 0, .int .i64 0] 27)))
  have HC0 : Hid (((w.alloc (.cells #[.int .i64 0, .int .i64 0] 27)).alloc (.cells #[.int .i64 lo, .int .i64 hi] 27)).heap[w.heap.size + 1]? = some (.cells #[.int .i64 lo, .int .i64 hi] 27)) := by
    have := blk_new (w.alloc (.cells #[.int .i64 0, .int .i64 0] 27)) (.cells #[.int .i64 lo, .int .i64 hi] 27)
    rw [World.size_alloc] at this; exact this
  go_enter Try.func89, Try.ntmps89
  go_wp2_with fail
  refine (valid_any (lo, hi) _).mono ?_
  rintro e w1 ⟨rfl, hb1⟩
  have HB1 := Lib.hid (HB0.out.trans (hb1.mono HB0.out.size))
  obtain ⟨⟨c1, c2⟩, c3, c4⟩ := cells2 (blk hb1 HA0.out)
  obtain ⟨⟨c5, c6⟩, _⟩ := cells2 (blk hb1 HC0.out)
  clear hb1
  by_cases hv : vB (lo, hi) = true
  · rw [hv]
    rw [if_pos hv] at HE
    clear hv
    go_wp2_with fail
    refine bodyPost_ret (v := .tuple #[.agg #[.int .i64 lo, .int .i64 hi], .int .i64 0]) (by simp [results, Try.results89, go_sem, c1, c2]) rfl ⟨by rw [HE.out], set2_below HB1.out (Nat.le_refl _) _ _⟩
  · have hv' : vB (lo, hi) = false := by simpa using hv
    rw [hv']
    rw [if_neg hv] at HE
    clear hv hv'
    go_wp2_with fail
    refine bodyPost_ret (v := .tuple #[.agg #[.int .i64 0, .int .i64 0], .int .i64 2]) (by simp [results, Try.results89, go_sem, c1, c2]) rfl ⟨by rw [HE.out], set2_below HB1.out (Nat.le_refl _) _ _⟩
set_option maxHeartbeats 1000000 in
theorem rmade_any (a : Int × Int) (w : World) :
    Calls Try.prog 90 #[.agg #[.int .i64 a.1, .int .i64 a.2]] w fun e w' => e = .returned (.tuple #[.agg #[.int .i64 (madeR a).1.1, .int .i64 (madeR a).1.2], .int .i64 (madeR a).2]) ∧ Below w.heap.size w w' := by
  obtain ⟨lo, hi⟩ := a
  show Calls Try.prog 90 #[.agg #[.int .i64 lo, .int .i64 hi]] w _
  have HE : Hid (madeR (lo, hi) = if vB (lo, hi) then ((lo, hi), 0) else ((0, 0), 2)) := rfl
  have HB0 := Lib.hid (show Below w.heap.size w ((w.alloc (.cells #[.int .i64 lo, .int .i64 hi] 27)).alloc (.cells #[.int .i64 0, .int .i64 0] 27)) from ((Below.refl _ w).alloc (Nat.le_refl _) _).alloc (by simp) _)
  have HA0 := Lib.hid (blk_old (.cells #[.int .i64 0, .int .i64 0] 27) (blk_new w (.cells #[.int .i64 lo, .int .i64 hi] 27)))
  have HC0 : Hid (((w.alloc (.cells #[.int .i64 lo, .int .i64 hi] 27)).alloc (.cells #[.int .i64 0, .int .i64 0] 27)).heap[w.heap.size + 1]? = some (.cells #[.int .i64 0, .int .i64 0] 27)) := by
    have := blk_new (w.alloc (.cells #[.int .i64 lo, .int .i64 hi] 27)) (.cells #[.int .i64 0, .int .i64 0] 27)
    rw [World.size_alloc] at this; exact this
  go_enter Try.func90, Try.ntmps90
  go_wp2_with fail
  refine (rvalid_any (lo, hi) _).mono ?_
  rintro e w1 ⟨rfl, hb1⟩
  have HB1 := Lib.hid (HB0.out.trans (hb1.mono HB0.out.size))
  obtain ⟨⟨c5, c6⟩, _⟩ := cells2 (blk hb1 HA0.out)
  obtain ⟨⟨c1, c2⟩, c3, c4⟩ := cells2 (blk hb1 HC0.out)
  clear hb1
  by_cases hv : vB (lo, hi) = true
  · rw [hv]
    rw [if_pos hv] at HE
    clear hv
    go_wp2_with fail
    refine bodyPost_ret (v := .tuple #[.agg #[.int .i64 lo, .int .i64 hi], .int .i64 0]) (by simp [results, Try.results90, go_sem, c1, c2]) rfl ⟨by rw [HE.out], set2_below HB1.out (by omega) _ _⟩
  · have hv' : vB (lo, hi) = false := by simpa using hv
    rw [hv']
    rw [if_neg hv] at HE
    clear hv hv'
    go_wp2_with fail
    refine bodyPost_ret (v := .tuple #[.agg #[.int .i64 0, .int .i64 0], .int .i64 2]) (by simp [results, Try.results90, go_sem, c1, c2]) rfl ⟨by rw [HE.out], set2_below HB1.out (by omega) _ _⟩
def addR (a b : Int × Int) : (Int × Int) × Int := if spErr [a, b] != 0 then ((0, 0), spErr [a, b]) else madeR (a.1 + b.1, a.2 + b.2)
def min4 (a b c d : Int) : Int := mn (mn (mn a b) c) d
def max4 (a b c d : Int) : Int := mx (mx (mx a b) c) d
def timesR (a b : Int × Int) : (Int × Int) × Int := if spErr [a, b] != 0 then ((0, 0), spErr [a, b]) else madeR (min4 (a.1 * b.1) (a.1 * b.2) (a.2 * b.1) (a.2 * b.2), max4 (a.1 * b.1) (a.1 * b.2) (a.2 * b.1) (a.2 * b.2))
/-- the fold of Go's min, or max, over a slice -/
def foldM (f : Int → Int → Int) (l : List Int) : Int := (l.drop 1).foldl f (l[0]?.getD 0)
theorem foldM_take (f : Int → Int → Int) (l : List Int) (k : Nat) (h1 : 1 ≤ k) (h : k < l.length) : foldM f (l.take (k + 1)) = f (foldM f (l.take k)) (l[k]?.getD 0) := by
  unfold foldM
  have e : (l.take (k + 1)).drop 1 = (l.take k).drop 1 ++ [l[k]?.getD 0] := by
    rw [List.take_succ_eq_append_getElem h, List.drop_append_of_le_length (by simp; omega)]
    simp [h]
  rw [e, List.foldl_append]
  have e2 : (l.take (k + 1))[0]?.getD 0 = (l.take k)[0]?.getD 0 := by simp [show 0 < k by omega]
  rw [e2]; rfl
theorem foldM_one (f : Int → Int → Int) (l : List Int) (h : 1 ≤ l.length) : foldM f (l.take 1) = l[0]?.getD 0 := by
  cases l with
  | nil => simp at h
  | cons x xs => simp [foldM]
set_option maxHeartbeats 400000 in
theorem min_any (A : Option Addr) (l : List Int) (c : Nat) (w : World) (h1 : 1 ≤ l.length) (hl : l.length ≤ 1000000) (hA : Ints w A l) :
    Calls Try.prog 91 #[.slice A l.length c] w fun e w' => e = .returned (.int .i64 (foldM mn l)) ∧ w' = w := by
  obtain ⟨b, off, rfl, hbl, hc⟩ := hA (by omega)
  have HC := Lib.hid hc
  have c0 := hc 0 (by omega)
  simp only [Nat.add_zero] at c0
  generalize hx0 : l[0]?.getD 0 = x0 at c0
  have HX0 := Lib.hid hx0
  have hl1 : ¬ (l.length : Int) < 1 := by omega
  have hl2 : (0 : Int) < (l.length : Int) := by omega
  clear hc hA hx0
  go_enter Try.func91, Try.ntmps91
  go_wp2_with fail
  go_loop [3, 4] (fun m i => ∃ (k : Nat) (z : Int), 1 ≤ k ∧ k ≤ l.length ∧ i = .int .i64 k ∧ m = .int .i64 z ∧ z = foldM mn (l.take k)) (fun _ i => l.length - (intOf i).toNat)
  case atStart => exact ⟨1, x0, by omega, by omega, rfl, rfl, by rw [foldM_one _ _ h1, HX0.out]⟩
  case round =>
    obtain ⟨k, z, hk1, hk, rfl, rfl, hz⟩ := hrel
    have HZ := Lib.hid hz
    clear hz
    by_cases hlt : k < l.length
    · have hck := HC.out k hlt
      have HS := Lib.hid (foldM_take mn l k hk1 hlt)
      generalize hx : l[k]?.getD 0 = x at hck
      have HX := Lib.hid hx
      clear hx
      generalize hy : (if x < z then x else z) = y
      go_wp2_with fail
      go_round
      case rel => exact ⟨k + 1, y, by omega, by omega, by go_num, rfl, by rw [HS.out, HX.out, ← HZ.out, ← hy]; rfl⟩
      case measure => simp [intOf]; omega
    · obtain rfl : k = l.length := by omega
      go_wp2_with fail
      go_ret
      exact ⟨by rw [HZ.out, List.take_length]; rfl, rfl⟩
set_option maxHeartbeats 400000 in
theorem max_any (A : Option Addr) (l : List Int) (c : Nat) (w : World) (h1 : 1 ≤ l.length) (hl : l.length ≤ 1000000) (hA : Ints w A l) :
    Calls Try.prog 92 #[.slice A l.length c] w fun e w' => e = .returned (.int .i64 (foldM mx l)) ∧ w' = w := by
  obtain ⟨b, off, rfl, hbl, hc⟩ := hA (by omega)
  have HC := Lib.hid hc
  have c0 := hc 0 (by omega)
  simp only [Nat.add_zero] at c0
  generalize hx0 : l[0]?.getD 0 = x0 at c0
  have HX0 := Lib.hid hx0
  have hl1 : ¬ (l.length : Int) < 1 := by omega
  have hl2 : (0 : Int) < (l.length : Int) := by omega
  clear hc hA hx0
  go_enter Try.func92, Try.ntmps92
  go_wp2_with fail
  go_loop [3, 4] (fun m i => ∃ (k : Nat) (z : Int), 1 ≤ k ∧ k ≤ l.length ∧ i = .int .i64 k ∧ m = .int .i64 z ∧ z = foldM mx (l.take k)) (fun _ i => l.length - (intOf i).toNat)
  case atStart => exact ⟨1, x0, by omega, by omega, rfl, rfl, by rw [foldM_one _ _ h1, HX0.out]⟩
  case round =>
    obtain ⟨k, z, hk1, hk, rfl, rfl, hz⟩ := hrel
    have HZ := Lib.hid hz
    clear hz
    by_cases hlt : k < l.length
    · have hck := HC.out k hlt
      have HS := Lib.hid (foldM_take mx l k hk1 hlt)
      generalize hx : l[k]?.getD 0 = x at hck
      have HX := Lib.hid hx
      clear hx
      generalize hy : (if z < x then x else z) = y
      go_wp2_with fail
      go_round
      case rel => exact ⟨k + 1, y, by omega, by omega, by go_num, rfl, by rw [HS.out, HX.out, ← HZ.out, ← hy]; rfl⟩
      case measure => simp [intOf]; omega
    · obtain rfl : k = l.length := by omega
      go_wp2_with fail
      go_ret
      exact ⟨by rw [HZ.out, List.take_length]; rfl, rfl⟩
set_option maxHeartbeats 1000000 in
theorem add_any (a b : Int × Int) (w : World) :
    Calls Try.prog 43 #[.agg #[.int .i64 a.1, .int .i64 a.2], .agg #[.int .i64 b.1, .int .i64 b.2]] w fun e w' => e = .returned (.tuple #[.agg #[.int .i64 (addR a b).1.1, .int .i64 (addR a b).1.2], .int .i64 (addR a b).2]) ∧ Below w.heap.size w w' := by
  obtain ⟨a1, a2⟩ := a
  obtain ⟨b1, b2⟩ := b
  show Calls Try.prog 43 #[.agg #[.int .i64 a1, .int .i64 a2], .agg #[.int .i64 b1, .int .i64 b2]] w _
  have HE : Hid (addR (a1, a2) (b1, b2) = if spErr [(a1, a2), (b1, b2)] != 0 then ((0, 0), spErr [(a1, a2), (b1, b2)]) else madeR (a1 + b1, a2 + b2)) := rfl
  go_enter Try.func43, Try.ntmps43
  go_wp2_with fail
  refine (spanned_any _ [(a1, a2), (b1, b2)] 2 _ (by simp) (sps_new2 _ _ _ _ _ _ _ (by simp))).mono ?_
  rintro e w1 ⟨rfl, hb1⟩
  have hb2 : Below (w3s w (.int .i64 a1) (.int .i64 a2) (.int .i64 b1) (.int .i64 b2) (.int .i64 0) (.int .i64 0)).heap.size (w3s w (.int .i64 a1) (.int .i64 a2) (.int .i64 b1) (.int .i64 b2) (.int .i64 0) (.int .i64 0)) w1 := ((Below.refl _ _).alloc (Nat.le_refl _) _).trans (hb1.mono (by simp [w3s]))
  obtain ⟨⟨p1, p2⟩, ⟨p3, p4⟩, ⟨⟨p5, p6⟩, p7, p8⟩, ⟨hz0, hz1, hz2⟩, hB⟩ := boxes3s hb2
  have HB := Lib.hid hB
  clear hb1 hb2 hB
  by_cases he : (spErr [(a1, a2), (b1, b2)] != 0) = true
  · rw [if_pos he] at HE
    generalize spErr [(a1, a2), (b1, b2)] = sp at *
    go_wp2_with fail
    refine bodyPost_ret (v := .tuple #[.agg #[.int .i64 0, .int .i64 0], .int .i64 sp]) (by simp [results, Try.results43, go_sem, p5, p6]) rfl ⟨by rw [HE.out], set2_below HB.out (by omega) _ _⟩
  · have HS := Lib.hid (spOk he)
    rw [if_neg he] at HE
    have he' : spErr [(a1, a2), (b1, b2)] = 0 := by simpa using he
    rw [he']
    clear he he'
    obtain ⟨g1, g2, g3⟩ := vB_iff.1 HS.out.1
    obtain ⟨g4, g5, g6⟩ := vB_iff.1 HS.out.2
    simp only at g1 g2 g3 g4 g5 g6
    go_wp2_with fail
    refine (made_any _ _ _).mono ?_
    rintro e w2 ⟨rfl, hb2⟩
    generalize madeR (a1 + b1, a2 + b2) = R at *
    obtain ⟨⟨u, v⟩, c⟩ := R
    have q5 := cell_b hb2 p5
    have q6 := cell_b hb2 p6
    have q7 := froz_b hb2 p5 p7
    have q8 := froz_b hb2 p6 p8
    have HB2 := Lib.hid (HB.out.trans (hb2.mono HB.out.size))
    clear hb2 p1 p2 p3 p4 p5 p6 p7 p8
    go_wp2_with fail
    refine bodyPost_ret (v := .tuple #[.agg #[.int .i64 u, .int .i64 v], .int .i64 c]) (by simp [results, Try.results43, go_sem, q5, q6]) rfl ⟨by rw [HE.out], set2_below HB2.out (by omega) _ _⟩
set_option maxHeartbeats 1000000 in
theorem radd_any (a b : Int × Int) (w : World) :
    Calls Try.prog 44 #[.agg #[.int .i64 a.1, .int .i64 a.2], .agg #[.int .i64 b.1, .int .i64 b.2]] w fun e w' => e = .returned (.tuple #[.agg #[.int .i64 (addR a b).1.1, .int .i64 (addR a b).1.2], .int .i64 (addR a b).2]) ∧ Below w.heap.size w w' := by
  obtain ⟨a1, a2⟩ := a
  obtain ⟨b1, b2⟩ := b
  show Calls Try.prog 44 #[.agg #[.int .i64 a1, .int .i64 a2], .agg #[.int .i64 b1, .int .i64 b2]] w _
  have HE : Hid (addR (a1, a2) (b1, b2) = if spErr [(a1, a2), (b1, b2)] != 0 then ((0, 0), spErr [(a1, a2), (b1, b2)]) else madeR (a1 + b1, a2 + b2)) := rfl
  go_enter Try.func44, Try.ntmps44
  go_wp2_with fail
  refine (two_any (a1, a2) (b1, b2) _).mono ?_
  rintro e w1 ⟨rfl, hb1⟩
  have hb2 : Below (w3s w (.int .i64 a1) (.int .i64 a2) (.int .i64 b1) (.int .i64 b2) (.int .i64 0) (.int .i64 0)).heap.size (w3s w (.int .i64 a1) (.int .i64 a2) (.int .i64 b1) (.int .i64 b2) (.int .i64 0) (.int .i64 0)) w1 := hb1
  obtain ⟨⟨p1, p2⟩, ⟨p3, p4⟩, ⟨⟨p5, p6⟩, p7, p8⟩, ⟨hz0, hz1, hz2⟩, hB⟩ := boxes3s hb2
  have HB := Lib.hid hB
  clear hb1 hb2 hB
  by_cases he : (spErr [(a1, a2), (b1, b2)] != 0) = true
  · rw [if_pos he] at HE
    generalize spErr [(a1, a2), (b1, b2)] = sp at *
    go_wp2_with fail
    refine bodyPost_ret (v := .tuple #[.agg #[.int .i64 0, .int .i64 0], .int .i64 sp]) (by simp [results, Try.results44, go_sem, p5, p6]) rfl ⟨by rw [HE.out], set2_below HB.out (by omega) _ _⟩
  · have HS := Lib.hid (spOk he)
    rw [if_neg he] at HE
    have he' : spErr [(a1, a2), (b1, b2)] = 0 := by simpa using he
    rw [he']
    clear he he'
    obtain ⟨g1, g2, g3⟩ := vB_iff.1 HS.out.1
    obtain ⟨g4, g5, g6⟩ := vB_iff.1 HS.out.2
    simp only at g1 g2 g3 g4 g5 g6
    go_wp2_with fail
    refine (rmade_any (_, _) _).mono ?_
    rintro e w2 ⟨rfl, hb2⟩
    generalize madeR (a1 + b1, a2 + b2) = R at *
    obtain ⟨⟨u, v⟩, c⟩ := R
    have q5 := cell_b hb2 p5
    have q6 := cell_b hb2 p6
    have q7 := froz_b hb2 p5 p7
    have q8 := froz_b hb2 p6 p8
    have HB2 := Lib.hid (HB.out.trans (hb2.mono HB.out.size))
    clear hb2 p1 p2 p3 p4 p5 p6 p7 p8
    go_wp2_with fail
    refine bodyPost_ret (v := .tuple #[.agg #[.int .i64 u, .int .i64 v], .int .i64 c]) (by simp [results, Try.results44, go_sem, q5, q6]) rfl ⟨by rw [HE.out], set2_below HB2.out (by omega) _ _⟩
theorem run_min4 {P : Program} (w : World) (ts : Array TypeId) (t : TypeId) (a b c d : Int) : (Builtin.min_ ts t #[.int .i64 a, .int .i64 b, .int .i64 c, .int .i64 d]).run P w = .ok (.int .i64 (min4 a b c d)) w := by
  simp [Builtin.min_, Builtin.min2, min4, mn]
  rfl
theorem run_max4 {P : Program} (w : World) (ts : Array TypeId) (t : TypeId) (a b c d : Int) : (Builtin.max_ ts t #[.int .i64 a, .int .i64 b, .int .i64 c, .int .i64 d]).run P w = .ok (.int .i64 (max4 a b c d)) w := by
  simp [Builtin.max_, Builtin.max2, max4, mx]
  rfl
theorem mul_abs {a b M N : Int} (hM : 0 ≤ M) (hN : 0 ≤ N) (h1 : -M ≤ a) (h2 : a ≤ M) (h3 : -N ≤ b) (h4 : b ≤ N) : -(M * N) ≤ a * b ∧ a * b ≤ M * N := by
  have ha : a.natAbs ≤ M.toNat := by omega
  have hb : b.natAbs ≤ N.toNat := by omega
  have h := Nat.mul_le_mul ha hb
  have e : (a * b).natAbs = a.natAbs * b.natAbs := Int.natAbs_mul a b
  have e2 : ((M.toNat * N.toNat : Nat) : Int) = M * N := by rw [Int.natCast_mul, Int.toNat_of_nonneg hM, Int.toNat_of_nonneg hN]
  omega
theorem rfloor_eq (a b : Int) (hb : 1 ≤ b) : -((-a + b - 1) / b) = a / b := by
  have e := Int.mul_ediv_add_emod a b
  have e1 := Int.emod_nonneg a (show b ≠ 0 by omega)
  have e2 := Int.emod_lt_of_pos a (show 0 < b by omega)
  have h := ((Int.ediv_emod_unique (a := -a + b - 1) (b := b) (r := b - 1 - a % b) (q := -(a / b)) (by omega)).2 ⟨by rw [Int.mul_neg]; omega, by omega, by omega⟩).1
  rw [h]; omega
set_option maxHeartbeats 400000 in
theorem rfloor_any (a b : Int) (w : World) (hb : 1 ≤ b) (hb' : b ≤ 1000000000000000000) (ha : -1000000000000000000 ≤ a) (ha' : a ≤ 1000000000000000000):
    Calls Try.prog 85 #[.int .i64 a, .int .i64 b] w fun e w' => e = .returned (.int .i64 (a / b)) ∧ w' = w := by
  have F := Lib.hid (rfloor_eq a b hb)
  by_cases h : 0 ≤ a
  · go_enter Try.func85, Try.ntmps85
    go_wp2
    go_ret
    exact ⟨rfl, rfl⟩
  · have hq := ediv_bd (-a + b - 1) b 4000000000000000000 (by omega) hb (by omega) (by omega)
    have hn : 0 ≤ -a + b - 1 := by omega
    go_enter Try.func85, Try.ntmps85
    go_wp2
    go_ret
    exact ⟨by rw [← F.out]; rfl, rfl⟩
set_option maxHeartbeats 400000 in
theorem rceil_any (a b : Int) (w : World) (hb : 1 ≤ b) (hb' : b ≤ 1000000000000000000) (ha : -1000000000000000000 ≤ a) (ha' : a ≤ 1000000000000000000):
    Calls Try.prog 86 #[.int .i64 a, .int .i64 b] w fun e w' => e = .returned (.int .i64 (-(-a / b))) ∧ w' = w := by
  obtain ⟨hq1, hq2⟩ := ediv_bd (-a) b 4000000000000000000 (by omega) hb (by omega) (by omega)
  go_enter Try.func86, Try.ntmps86
  go_wp2_with (go_at_call 85; refine (rfloor_any _ _ _ (by omega) (by omega) (by omega) (by omega)).mono ?_; rintro e w' ⟨rfl, rfl⟩)
  go_ret
  exact ⟨rfl, rfl⟩
set_option maxHeartbeats 1000000 in
theorem times_any (a b : Int × Int) (w : World) :
    Calls Try.prog 45 #[.agg #[.int .i64 a.1, .int .i64 a.2], .agg #[.int .i64 b.1, .int .i64 b.2]] w fun e w' => e = .returned (.tuple #[.agg #[.int .i64 (timesR a b).1.1, .int .i64 (timesR a b).1.2], .int .i64 (timesR a b).2]) ∧ Below w.heap.size w w' := by
  obtain ⟨a1, a2⟩ := a
  obtain ⟨b1, b2⟩ := b
  show Calls Try.prog 45 #[.agg #[.int .i64 a1, .int .i64 a2], .agg #[.int .i64 b1, .int .i64 b2]] w _
  have HE : Hid (timesR (a1, a2) (b1, b2) = if spErr [(a1, a2), (b1, b2)] != 0 then ((0, 0), spErr [(a1, a2), (b1, b2)]) else madeR (min4 (a1 * b1) (a1 * b2) (a2 * b1) (a2 * b2), max4 (a1 * b1) (a1 * b2) (a2 * b1) (a2 * b2))) := rfl
  go_enter Try.func45, Try.ntmps45
  go_wp2_with fail
  refine (spanned_any _ [(a1, a2), (b1, b2)] 2 _ (by simp) (sps_new2 _ _ _ _ _ _ _ (by simp))).mono ?_
  rintro e w1 ⟨rfl, hb1⟩
  have hb2 : Below (w3s w (.int .i64 a1) (.int .i64 a2) (.int .i64 b1) (.int .i64 b2) (.int .i64 0) (.int .i64 0)).heap.size (w3s w (.int .i64 a1) (.int .i64 a2) (.int .i64 b1) (.int .i64 b2) (.int .i64 0) (.int .i64 0)) w1 := ((Below.refl _ _).alloc (Nat.le_refl _) _).trans (hb1.mono (by simp [w3s]))
  obtain ⟨⟨p1, p2⟩, ⟨p3, p4⟩, ⟨⟨p5, p6⟩, p7, p8⟩, ⟨hz0, hz1, hz2⟩, hB⟩ := boxes3s hb2
  have HB := Lib.hid hB
  clear hb1 hb2 hB
  by_cases he : (spErr [(a1, a2), (b1, b2)] != 0) = true
  · rw [if_pos he] at HE
    generalize spErr [(a1, a2), (b1, b2)] = sp at *
    go_wp2_with fail
    refine bodyPost_ret (v := .tuple #[.agg #[.int .i64 0, .int .i64 0], .int .i64 sp]) (by simp [results, Try.results45, go_sem, p5, p6]) rfl ⟨by rw [HE.out], set2_below HB.out (by omega) _ _⟩
  · have HS := Lib.hid (spOk he)
    rw [if_neg he] at HE
    have he' : spErr [(a1, a2), (b1, b2)] = 0 := by simpa using he
    rw [he']
    clear he he'
    obtain ⟨g1, g2, g3⟩ := vB_iff.1 HS.out.1
    obtain ⟨g4, g5, g6⟩ := vB_iff.1 HS.out.2
    simp only at g1 g2 g3 g4 g5 g6
    have m1 := mul_abs (a := a1) (b := b1) (M := 1000000) (N := 1000000) (by omega) (by omega) (by omega) (by omega) (by omega) (by omega)
    have m2 := mul_abs (a := a1) (b := b2) (M := 1000000) (N := 1000000) (by omega) (by omega) (by omega) (by omega) (by omega) (by omega)
    have m3 := mul_abs (a := a2) (b := b1) (M := 1000000) (N := 1000000) (by omega) (by omega) (by omega) (by omega) (by omega) (by omega)
    have m4 := mul_abs (a := a2) (b := b2) (M := 1000000) (N := 1000000) (by omega) (by omega) (by omega) (by omega) (by omega) (by omega)
    have HI := Lib.hid (ints_of_block [a1 * b1, a1 * b2, a2 * b1, a2 * b2] (blk_new w1 (.cells #[.int .i64 (a1 * b1), .int .i64 (a1 * b2), .int .i64 (a2 * b1), .int .i64 (a2 * b2)] 3)) rfl)
    have HF1 : Hid (foldM mn [a1 * b1, a1 * b2, a2 * b1, a2 * b2] = min4 (a1 * b1) (a1 * b2) (a2 * b1) (a2 * b2)) := rfl
    have HF2 : Hid (foldM mx [a1 * b1, a1 * b2, a2 * b1, a2 * b2] = max4 (a1 * b1) (a1 * b2) (a2 * b1) (a2 * b2)) := rfl
    go_wp2_with fail
    refine (min_any _ [a1 * b1, a1 * b2, a2 * b1, a2 * b2] 4 _ (by simp) (by simp) HI.out).mono ?_
    rintro e w' ⟨rfl, rfl⟩
    rw [HF1.out]
    go_wp2_with fail
    refine (max_any _ [a1 * b1, a1 * b2, a2 * b1, a2 * b2] 4 _ (by simp) (by simp) HI.out).mono ?_
    rintro e w' ⟨rfl, rfl⟩
    rw [HF2.out]
    go_wp2_with fail
    refine (made_any _ _ _).mono ?_
    rintro e w2 ⟨rfl, hb1⟩
    have hb2 : Below w1.heap.size w1 w2 := ((Below.refl _ _).alloc (Nat.le_refl _) _).trans (hb1.mono (by simp))
    clear hb1
    generalize madeR (min4 (a1 * b1) (a1 * b2) (a2 * b1) (a2 * b2), max4 (a1 * b1) (a1 * b2) (a2 * b1) (a2 * b2)) = R at *
    obtain ⟨⟨u, v⟩, c⟩ := R
    have q5 := cell_b hb2 p5
    have q6 := cell_b hb2 p6
    have q7 := froz_b hb2 p5 p7
    have q8 := froz_b hb2 p6 p8
    have HB2 := Lib.hid (HB.out.trans (hb2.mono HB.out.size))
    clear hb2 p1 p2 p3 p4 p5 p6 p7 p8
    go_wp2_with fail
    refine bodyPost_ret (v := .tuple #[.agg #[.int .i64 u, .int .i64 v], .int .i64 c]) (by simp [results, Try.results45, go_sem, q5, q6]) rfl ⟨by rw [HE.out], set2_below HB2.out (by omega) _ _⟩
set_option maxHeartbeats 1000000 in
theorem rtimes_any (a b : Int × Int) (w : World) :
    Calls Try.prog 46 #[.agg #[.int .i64 a.1, .int .i64 a.2], .agg #[.int .i64 b.1, .int .i64 b.2]] w fun e w' => e = .returned (.tuple #[.agg #[.int .i64 (timesR a b).1.1, .int .i64 (timesR a b).1.2], .int .i64 (timesR a b).2]) ∧ Below w.heap.size w w' := by
  obtain ⟨a1, a2⟩ := a
  obtain ⟨b1, b2⟩ := b
  show Calls Try.prog 46 #[.agg #[.int .i64 a1, .int .i64 a2], .agg #[.int .i64 b1, .int .i64 b2]] w _
  have HE : Hid (timesR (a1, a2) (b1, b2) = if spErr [(a1, a2), (b1, b2)] != 0 then ((0, 0), spErr [(a1, a2), (b1, b2)]) else madeR (min4 (a1 * b1) (a1 * b2) (a2 * b1) (a2 * b2), max4 (a1 * b1) (a1 * b2) (a2 * b1) (a2 * b2))) := rfl
  go_enter Try.func46, Try.ntmps46
  go_wp2_with fail
  refine (two_any (a1, a2) (b1, b2) _).mono ?_
  rintro e w1 ⟨rfl, hb1⟩
  have hb2 : Below (w3s w (.int .i64 a1) (.int .i64 a2) (.int .i64 b1) (.int .i64 b2) (.int .i64 0) (.int .i64 0)).heap.size (w3s w (.int .i64 a1) (.int .i64 a2) (.int .i64 b1) (.int .i64 b2) (.int .i64 0) (.int .i64 0)) w1 := hb1
  obtain ⟨⟨p1, p2⟩, ⟨p3, p4⟩, ⟨⟨p5, p6⟩, p7, p8⟩, ⟨hz0, hz1, hz2⟩, hB⟩ := boxes3s hb2
  have HB := Lib.hid hB
  clear hb1 hb2 hB
  by_cases he : (spErr [(a1, a2), (b1, b2)] != 0) = true
  · rw [if_pos he] at HE
    generalize spErr [(a1, a2), (b1, b2)] = sp at *
    go_wp2_with fail
    refine bodyPost_ret (v := .tuple #[.agg #[.int .i64 0, .int .i64 0], .int .i64 sp]) (by simp [results, Try.results46, go_sem, p5, p6]) rfl ⟨by rw [HE.out], set2_below HB.out (by omega) _ _⟩
  · have HS := Lib.hid (spOk he)
    rw [if_neg he] at HE
    have he' : spErr [(a1, a2), (b1, b2)] = 0 := by simpa using he
    rw [he']
    clear he he'
    obtain ⟨g1, g2, g3⟩ := vB_iff.1 HS.out.1
    obtain ⟨g4, g5, g6⟩ := vB_iff.1 HS.out.2
    simp only at g1 g2 g3 g4 g5 g6
    have m1 := mul_abs (a := a1) (b := b1) (M := 1000000) (N := 1000000) (by omega) (by omega) (by omega) (by omega) (by omega) (by omega)
    have m2 := mul_abs (a := a1) (b := b2) (M := 1000000) (N := 1000000) (by omega) (by omega) (by omega) (by omega) (by omega) (by omega)
    have m3 := mul_abs (a := a2) (b := b1) (M := 1000000) (N := 1000000) (by omega) (by omega) (by omega) (by omega) (by omega) (by omega)
    have m4 := mul_abs (a := a2) (b := b2) (M := 1000000) (N := 1000000) (by omega) (by omega) (by omega) (by omega) (by omega) (by omega)
    have u1 : IntKind.i64.wrap (a1 * b1) = a1 * b1 := IntWalk.i64_in _ (by omega)
    have u2 : IntKind.i64.wrap (a1 * b2) = a1 * b2 := IntWalk.i64_in _ (by omega)
    have u3 : IntKind.i64.wrap (a2 * b1) = a2 * b1 := IntWalk.i64_in _ (by omega)
    have u4 : IntKind.i64.wrap (a2 * b2) = a2 * b2 := IntWalk.i64_in _ (by omega)
    go_wp2_with fail
    go_quiet (fail)
    clear u1 u2 u3 u4 m1 m2 m3 m4
    generalize a1 * b1 = x1 at *
    generalize a1 * b2 = x2 at *
    generalize a2 * b1 = x3 at *
    generalize a2 * b2 = x4 at *
    have hmin := fun (w : World) => run_min4 (P := Try.prog) w #[3, 3, 3, 3] 3 x1 x2 x3 x4
    have hmax := fun (w : World) => run_max4 (P := Try.prog) w #[3, 3, 3, 3] 3 x1 x2 x3 x4
    generalize min4 x1 x2 x3 x4 = y3 at *
    generalize max4 x1 x2 x3 x4 = z3 at *
    go_wp2_with fail
    refine (rmade_any (_, _) _).mono ?_
    rintro e w2 ⟨rfl, hb1⟩
    have hb2 : Below w1.heap.size w1 w2 := (Below.drewN' (Below.refl _ _) nq).trans hb1
    clear hb1 hmin hmax
    generalize madeR (y3, z3) = R at *
    obtain ⟨⟨u, v⟩, c⟩ := R
    have q5 := cell_b hb2 p5
    have q6 := cell_b hb2 p6
    have q7 := froz_b hb2 p5 p7
    have q8 := froz_b hb2 p6 p8
    have HB2 := Lib.hid (HB.out.trans (hb2.mono HB.out.size))
    clear hb2 p1 p2 p3 p4 p5 p6 p7 p8
    go_wp2_with fail
    refine bodyPost_ret (v := .tuple #[.agg #[.int .i64 u, .int .i64 v], .int .i64 c]) (by simp [results, Try.results46, go_sem, q5, q6]) rfl ⟨by rw [HE.out], set2_below HB2.out (by omega) _ _⟩
def partR (a : Int × Int) (num den : Int) : (Int × Int) × Int := if vB a then (if wB num 0 1000 && wB den 1 1000 then madeR (a.1 * num / den, -(-(a.2 * num) / den)) else ((0, 0), 1)) else ((0, 0), 10)
theorem spErr1 (a : Int × Int) : spErr [a] = if vB a then 0 else 10 := by
  unfold spErr
  cases h1 : vB a <;> simp [h1]
theorem sps_new1 (w : World) (a b : Int) (t : TypeId) (B : Nat) (hB : B = w.heap.size) : Sps (w.alloc (.cells #[.int .i64 a, .int .i64 b] t)) (some ⟨B, 0, none⟩) [(a, b)] := fun _ => by
  subst hB
  refine ⟨_, 0, rfl, by simp, fun k hk => ?_⟩
  match k, hk with
  | 0, _ => simp
set_option maxRecDepth 100000 in
set_option maxHeartbeats 1000000 in
theorem part_any (a : Int × Int) (num den : Int) (w : World) :
    Calls Try.prog 47 #[.agg #[.int .i64 a.1, .int .i64 a.2], .int .i64 num, .int .i64 den] w fun e w' => e = .returned (.tuple #[.agg #[.int .i64 (partR a num den).1.1, .int .i64 (partR a num den).1.2], .int .i64 (partR a num den).2]) ∧ Below w.heap.size w w' := by
  obtain ⟨a1, a2⟩ := a
  show Calls Try.prog 47 #[.agg #[.int .i64 a1, .int .i64 a2], .int .i64 num, .int .i64 den] w _
  have HE : Hid (partR (a1, a2) num den = if vB (a1, a2) then (if wB num 0 1000 && wB den 1 1000 then madeR (a1 * num / den, -(-(a2 * num) / den)) else ((0, 0), 1)) else ((0, 0), 10)) := rfl
  have HS := Lib.hid (spErr1 (a1, a2))
  have HB0 := Lib.hid (show Below w.heap.size w ((w.alloc (.cells #[.int .i64 a1, .int .i64 a2] 27)).alloc (.cells #[.int .i64 0, .int .i64 0] 27)) from ((Below.refl _ w).alloc (Nat.le_refl _) _).alloc (by simp) _)
  have HA0 := Lib.hid (blk_old (.cells #[.int .i64 0, .int .i64 0] 27) (blk_new w (.cells #[.int .i64 a1, .int .i64 a2] 27)))
  have HC0 : Hid (((w.alloc (.cells #[.int .i64 a1, .int .i64 a2] 27)).alloc (.cells #[.int .i64 0, .int .i64 0] 27)).heap[w.heap.size + 1]? = some (.cells #[.int .i64 0, .int .i64 0] 27)) := by
    have := blk_new (w.alloc (.cells #[.int .i64 a1, .int .i64 a2] 27)) (.cells #[.int .i64 0, .int .i64 0] 27)
    rw [World.size_alloc] at this; exact this
  go_enter Try.func47, Try.ntmps47
  go_wp2_with fail
  refine (spanned_any _ [(a1, a2)] 1 _ (by simp) (sps_new1 _ _ _ _ _ (by simp))).mono ?_
  rintro e w1 ⟨rfl, hb0⟩
  rw [HS.out]
  have hb1 : Below ((w.alloc (.cells #[.int .i64 a1, .int .i64 a2] 27)).alloc (.cells #[.int .i64 0, .int .i64 0] 27)).heap.size ((w.alloc (.cells #[.int .i64 a1, .int .i64 a2] 27)).alloc (.cells #[.int .i64 0, .int .i64 0] 27)) w1 := ((Below.refl _ _).alloc (Nat.le_refl _) _).trans (hb0.mono (by simp))
  clear hb0
  have HB := Lib.hid (HB0.out.trans (hb1.mono HB0.out.size))
  obtain ⟨⟨p1, p2⟩, _⟩ := cells2 (blk hb1 HA0.out)
  obtain ⟨⟨p5, p6⟩, p7, p8⟩ := cells2 (blk hb1 HC0.out)
  clear hb1
  by_cases hv : vB (a1, a2) = true
  · rw [hv]
    rw [if_pos hv] at HE
    obtain ⟨g1, g2, g3⟩ := vB_iff.1 hv
    simp only at g1 g2 g3
    clear hv
    by_cases n1 : wB num 0 1000 = true
    · have N1 := Lib.hid n1
      obtain ⟨g4, g5⟩ := wB_iff.1 n1
      clear n1
      by_cases n2 : wB den 1 1000 = true
      · have N2 := Lib.hid n2
        obtain ⟨g6, g7⟩ := wB_iff.1 n2
        clear n2
        rw [N1.out, N2.out] at HE
        have HE2 : Hid (partR (a1, a2) num den = madeR (a1 * num / den, -(-(a2 * num) / den))) := HE.out
        have m1 := mul_abs (a := a1) (b := num) (M := 1000000) (N := 1000) (by omega) (by omega) (by omega) (by omega) (by omega) (by omega)
        have m2 := mul_abs (a := a2) (b := num) (M := 1000000) (N := 1000) (by omega) (by omega) (by omega) (by omega) (by omega) (by omega)
        clear HE
        go_wp2_with fail
        refine (within_any _ _ _ _).mono ?_
        rintro e w' ⟨rfl, rfl⟩
        rw [N1.out]
        go_wp2_with fail
        refine (within_any _ _ _ _).mono ?_
        rintro e w' ⟨rfl, rfl⟩
        rw [N2.out]
        go_wp2_with fail
        have u1 : IntKind.i64.wrap (a1 * num) = a1 * num := IntWalk.i64_in _ (by omega)
        have u2 : IntKind.i64.wrap (a2 * num) = a2 * num := IntWalk.i64_in _ (by omega)
        generalize hm : madeR (a1 * num / den, -(-(a2 * num) / den)) = R at *
        obtain ⟨⟨u, v⟩, c⟩ := R
        have HM := Lib.hid hm
        clear hm
        go_region_with (first | (go_at_call 78; refine (floor_any _ _ _ (by omega) (by omega) (by omega) (by omega)).mono ?_; rintro e w' ⟨rfl, rfl⟩) | (go_at_call 84; refine (ceil_any _ _ _ (by omega) (by omega) (by omega) (by omega)).mono ?_; rintro e w' ⟨rfl, rfl⟩) | (go_at_call 89; refine (made_any _ _ _).mono ?_; rintro e w2 ⟨rfl, hb1⟩; rw [HM.out]; have q5 := cell_b hb1 p5; have q6 := cell_b hb1 p6; have q7 := froz_b hb1 p5 p7; have q8 := froz_b hb1 p6 p8; have HB2 : Hid (Below w.heap.size w w2) := HB.out.trans ((Below.drew (Below.refl _ _)).trans (hb1.mono HB.out.size)); clear hb1 p1 p2 p5 p6 p7 p8))
        all_goals
          go_wp2_with fail
          refine bodyPost_ret (v := .tuple #[.agg #[.int .i64 u, .int .i64 v], .int .i64 c]) (by simp [results, Try.results47, go_sem, q5, q6]) rfl ⟨by rw [HE2.out], set2_below HB2.out (by omega) _ _⟩
      · have n2' : wB den 1 1000 = false := by simpa using n2
        have N2 := Lib.hid n2'
        clear n2 n2'
        rw [N1.out, N2.out] at HE
        have HE2 : Hid (partR (a1, a2) num den = ((0, 0), 1)) := HE.out
        clear HE
        go_wp2_with fail
        refine (within_any _ _ _ _).mono ?_
        rintro e w' ⟨rfl, rfl⟩
        rw [N1.out]
        go_wp2_with fail
        refine (within_any _ _ _ _).mono ?_
        rintro e w' ⟨rfl, rfl⟩
        rw [N2.out]
        go_wp2_with fail
        refine bodyPost_ret (v := .tuple #[.agg #[.int .i64 0, .int .i64 0], .int .i64 1]) (by simp [results, Try.results47, go_sem, p5, p6]) rfl ⟨by rw [HE2.out], set2_below HB.out (by omega) _ _⟩
    · have n1' : wB num 0 1000 = false := by simpa using n1
      have N1 := Lib.hid n1'
      clear n1 n1'
      rw [N1.out] at HE
      have HE2 : Hid (partR (a1, a2) num den = ((0, 0), 1)) := HE.out
      clear HE
      go_wp2_with fail
      refine (within_any _ _ _ _).mono ?_
      rintro e w' ⟨rfl, rfl⟩
      rw [N1.out]
      go_wp2_with fail
      refine bodyPost_ret (v := .tuple #[.agg #[.int .i64 0, .int .i64 0], .int .i64 1]) (by simp [results, Try.results47, go_sem, p5, p6]) rfl ⟨by rw [HE2.out], set2_below HB.out (by omega) _ _⟩
  · have hv' : vB (a1, a2) = false := by simpa using hv
    rw [hv']
    rw [if_neg hv] at HE
    clear hv hv'
    go_wp2_with fail
    refine bodyPost_ret (v := .tuple #[.agg #[.int .i64 0, .int .i64 0], .int .i64 10]) (by simp [results, Try.results47, go_sem, p5, p6]) rfl ⟨by rw [HE.out], set2_below HB.out (by omega) _ _⟩
set_option maxRecDepth 100000 in
set_option maxHeartbeats 1000000 in
theorem rpart_any (a : Int × Int) (num den : Int) (w : World) :
    Calls Try.prog 48 #[.agg #[.int .i64 a.1, .int .i64 a.2], .int .i64 num, .int .i64 den] w fun e w' => e = .returned (.tuple #[.agg #[.int .i64 (partR a num den).1.1, .int .i64 (partR a num den).1.2], .int .i64 (partR a num den).2]) ∧ Below w.heap.size w w' := by
  obtain ⟨a1, a2⟩ := a
  show Calls Try.prog 48 #[.agg #[.int .i64 a1, .int .i64 a2], .int .i64 num, .int .i64 den] w _
  have HE : Hid (partR (a1, a2) num den = if vB (a1, a2) then (if wB num 0 1000 && wB den 1 1000 then madeR (a1 * num / den, -(-(a2 * num) / den)) else ((0, 0), 1)) else ((0, 0), 10)) := rfl
  have HS := Lib.hid (spErr1 (a1, a2))
  have HB0 := Lib.hid (show Below w.heap.size w ((w.alloc (.cells #[.int .i64 a1, .int .i64 a2] 27)).alloc (.cells #[.int .i64 0, .int .i64 0] 27)) from ((Below.refl _ w).alloc (Nat.le_refl _) _).alloc (by simp) _)
  have HA0 := Lib.hid (blk_old (.cells #[.int .i64 0, .int .i64 0] 27) (blk_new w (.cells #[.int .i64 a1, .int .i64 a2] 27)))
  have HC0 : Hid (((w.alloc (.cells #[.int .i64 a1, .int .i64 a2] 27)).alloc (.cells #[.int .i64 0, .int .i64 0] 27)).heap[w.heap.size + 1]? = some (.cells #[.int .i64 0, .int .i64 0] 27)) := by
    have := blk_new (w.alloc (.cells #[.int .i64 a1, .int .i64 a2] 27)) (.cells #[.int .i64 0, .int .i64 0] 27)
    rw [World.size_alloc] at this; exact this
  go_enter Try.func48, Try.ntmps48
  go_wp2_with fail
  refine (rvalid_any (a1, a2) _).mono ?_
  rintro e w1 ⟨rfl, hb1⟩
  have HB := Lib.hid (HB0.out.trans (hb1.mono HB0.out.size))
  obtain ⟨⟨p1, p2⟩, _⟩ := cells2 (blk hb1 HA0.out)
  obtain ⟨⟨p5, p6⟩, p7, p8⟩ := cells2 (blk hb1 HC0.out)
  clear hb1
  by_cases hv : vB (a1, a2) = true
  · rw [hv]
    rw [if_pos hv] at HE
    obtain ⟨g1, g2, g3⟩ := vB_iff.1 hv
    simp only at g1 g2 g3
    clear hv
    by_cases n1 : wB num 0 1000 = true
    · have N1 := Lib.hid n1
      obtain ⟨g4, g5⟩ := wB_iff.1 n1
      clear n1
      by_cases n2 : wB den 1 1000 = true
      · have N2 := Lib.hid n2
        obtain ⟨g6, g7⟩ := wB_iff.1 n2
        clear n2
        rw [N1.out, N2.out] at HE
        have HE2 : Hid (partR (a1, a2) num den = madeR (a1 * num / den, -(-(a2 * num) / den))) := HE.out
        have m1 := mul_abs (a := a1) (b := num) (M := 1000000) (N := 1000) (by omega) (by omega) (by omega) (by omega) (by omega) (by omega)
        have m2 := mul_abs (a := a2) (b := num) (M := 1000000) (N := 1000) (by omega) (by omega) (by omega) (by omega) (by omega) (by omega)
        clear HE
        go_wp2_with fail
        refine (from_any _ _ _ _).mono ?_
        rintro e w' ⟨rfl, rfl⟩
        rw [N1.out]
        go_wp2_with fail
        refine (from_any _ _ _ _).mono ?_
        rintro e w' ⟨rfl, rfl⟩
        rw [N2.out]
        go_wp2_with fail
        have u1 : IntKind.i64.wrap (a1 * num) = a1 * num := IntWalk.i64_in _ (by omega)
        have u2 : IntKind.i64.wrap (a2 * num) = a2 * num := IntWalk.i64_in _ (by omega)
        generalize hm : madeR (a1 * num / den, -(-(a2 * num) / den)) = R at *
        obtain ⟨⟨u, v⟩, c⟩ := R
        have HM := Lib.hid hm
        clear hm
        go_region_with (first | (go_at_call 85; refine (rfloor_any _ _ _ (by omega) (by omega) (by omega) (by omega)).mono ?_; rintro e w' ⟨rfl, rfl⟩) | (go_at_call 86; refine (rceil_any _ _ _ (by omega) (by omega) (by omega) (by omega)).mono ?_; rintro e w' ⟨rfl, rfl⟩) | (go_at_call 90; refine (rmade_any (_, _) _).mono ?_; rintro e w2 ⟨rfl, hb1⟩; rw [HM.out]; have q5 := cell_b hb1 p5; have q6 := cell_b hb1 p6; have q7 := froz_b hb1 p5 p7; have q8 := froz_b hb1 p6 p8; have HB2 : Hid (Below w.heap.size w w2) := HB.out.trans ((Below.drew (Below.refl _ _)).trans (hb1.mono HB.out.size)); clear hb1 p1 p2 p5 p6 p7 p8))
        all_goals
          go_wp2_with fail
          refine bodyPost_ret (v := .tuple #[.agg #[.int .i64 u, .int .i64 v], .int .i64 c]) (by simp [results, Try.results48, go_sem, q5, q6]) rfl ⟨by rw [HE2.out], set2_below HB2.out (by omega) _ _⟩
      · have n2' : wB den 1 1000 = false := by simpa using n2
        have N2 := Lib.hid n2'
        clear n2 n2'
        rw [N1.out, N2.out] at HE
        have HE2 : Hid (partR (a1, a2) num den = ((0, 0), 1)) := HE.out
        clear HE
        go_wp2_with fail
        refine (from_any _ _ _ _).mono ?_
        rintro e w' ⟨rfl, rfl⟩
        rw [N1.out]
        go_wp2_with fail
        refine (from_any _ _ _ _).mono ?_
        rintro e w' ⟨rfl, rfl⟩
        rw [N2.out]
        go_wp2_with fail
        refine bodyPost_ret (v := .tuple #[.agg #[.int .i64 0, .int .i64 0], .int .i64 1]) (by simp [results, Try.results48, go_sem, p5, p6]) rfl ⟨by rw [HE2.out], set2_below HB.out (by omega) _ _⟩
    · have n1' : wB num 0 1000 = false := by simpa using n1
      have N1 := Lib.hid n1'
      clear n1 n1'
      rw [N1.out] at HE
      have HE2 : Hid (partR (a1, a2) num den = ((0, 0), 1)) := HE.out
      clear HE
      go_wp2_with fail
      refine (from_any _ _ _ _).mono ?_
      rintro e w' ⟨rfl, rfl⟩
      rw [N1.out]
      go_wp2_with fail
      refine bodyPost_ret (v := .tuple #[.agg #[.int .i64 0, .int .i64 0], .int .i64 1]) (by simp [results, Try.results48, go_sem, p5, p6]) rfl ⟨by rw [HE2.out], set2_below HB.out (by omega) _ _⟩
  · have hv' : vB (a1, a2) = false := by simpa using hv
    rw [hv']
    rw [if_neg hv] at HE
    clear hv hv'
    go_wp2_with fail
    refine bodyPost_ret (v := .tuple #[.agg #[.int .i64 0, .int .i64 0], .int .i64 10]) (by simp [results, Try.results48, go_sem, p5, p6]) rfl ⟨by rw [HE.out], set2_below HB.out (by omega) _ _⟩
end Go.Proofs.Ytfaiogajaaclcaa
