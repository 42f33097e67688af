/- The law SpansMeets: it returns true; old memory stays. -/
import Derived.Test.YtfaiogajaaclcaaSp
namespace Go.Proofs.Ytfaiogajaaclcaa
open Go.RowKit

theorem blk {W W' : World} {B : Nat} {o : Obj} (hb : Below W.heap.size W W') (h : W.heap[B]? = some o) : W'.heap[B]? = some o := (hb.block _ (Array.getElem?_eq_some_iff.1 h).1).trans h
theorem blk_lt {W : World} {B : Nat} {o : Obj} (h : W.heap[B]? = some o) : B < W.heap.size := (Array.getElem?_eq_some_iff.1 h).1
theorem blk_new (W : World) (o : Obj) : (W.alloc o).heap[W.heap.size]? = some o := World.alloc_heap_new W o
theorem blk_old {W : World} {B : Nat} {o : Obj} (o' : Obj) (h : W.heap[B]? = some o) : (W.alloc o').heap[B]? = some o := blk ((Below.refl _ W).alloc (Nat.le_refl _) _) h
theorem hull_ok {a b r : Int × Int} {re : Int} (h : hullR a b = (r, re)) (h0 : re = 0) : r.1 ≤ a.1 ∧ r.1 ≤ b.1 ∧ a.2 ≤ r.2 ∧ b.2 ≤ r.2 ∧ ¬ (spErr [a, b] != 0) = true := by
  unfold hullR at h
  by_cases hs : (spErr [a, b] != 0) = true
  · rw [if_pos hs] at h
    obtain ⟨rfl, rfl⟩ := Prod.mk.inj h
    simp [h0] at hs
  · rw [if_neg hs, mn_eq, mx_eq] at h
    obtain ⟨rfl, rfl⟩ := Prod.mk.inj h
    exact ⟨by simp only; omega, by simp only; omega, by simp only; omega, by simp only; omega, hs⟩
theorem meet_cases {a b m : Int × Int} {me : Int} (h : meetR a b = (m, me)) (hs : ¬ (spErr [a, b] != 0) = true) (n : Int) :
    (me = 3 ∧ ¬ (a.1 ≤ n ∧ n ≤ a.2 ∧ b.1 ≤ n ∧ n ≤ b.2)) ∨ (me = 0 ∧ (m.1 ≤ n ∧ decide (m.1 ≤ n) = true) ∧ (n ≤ m.2 ∧ decide (n ≤ m.2) = true) ∧ (a.1 ≤ n ∧ n ≤ a.2 ∧ b.1 ≤ n ∧ n ≤ b.2)) ∨
    (me = 0 ∧ (m.1 ≤ n ∧ decide (m.1 ≤ n) = true) ∧ (¬ n ≤ m.2 ∧ decide (n ≤ m.2) = false) ∧ ¬ (a.1 ≤ n ∧ n ≤ a.2 ∧ b.1 ≤ n ∧ n ≤ b.2)) ∨ (me = 0 ∧ (¬ m.1 ≤ n ∧ decide (m.1 ≤ n) = false) ∧ ¬ (a.1 ≤ n ∧ n ≤ a.2 ∧ b.1 ≤ n ∧ n ≤ b.2)) := by
  unfold meetR at h
  rw [if_neg hs, mn_eq, mx_eq] at h
  by_cases hc : min a.2 b.2 < max a.1 b.1
  · rw [if_pos hc] at h
    obtain ⟨rfl, rfl⟩ := Prod.mk.inj h
    exact .inl ⟨rfl, by omega⟩
  · rw [if_neg hc] at h
    obtain ⟨rfl, rfl⟩ := Prod.mk.inj h
    by_cases h1 : max a.1 b.1 ≤ n
    · by_cases h2 : n ≤ min a.2 b.2
      · exact .inr (.inl ⟨rfl, ⟨h1, decide_eq_true h1⟩, ⟨h2, decide_eq_true h2⟩, by omega⟩)
      · exact .inr (.inr (.inl ⟨rfl, ⟨h1, decide_eq_true h1⟩, ⟨h2, decide_eq_false h2⟩, by omega⟩))
    · exact .inr (.inr (.inr ⟨rfl, ⟨h1, decide_eq_false h1⟩, by omega⟩))
theorem in_cases (lo hi n : Int) : ((lo ≤ n ∧ decide (lo ≤ n) = true) ∧ (n ≤ hi ∧ decide (n ≤ hi) = true)) ∨ ((lo ≤ n ∧ decide (lo ≤ n) = true) ∧ (¬ n ≤ hi ∧ decide (n ≤ hi) = false)) ∨ (¬ lo ≤ n ∧ decide (lo ≤ n) = false) := by
  by_cases h1 : lo ≤ n
  · by_cases h2 : n ≤ hi
    · exact .inl ⟨⟨h1, decide_eq_true h1⟩, h2, decide_eq_true h2⟩
    · exact .inr (.inl ⟨⟨h1, decide_eq_true h1⟩, h2, decide_eq_false h2⟩)
  · exact .inr (.inr ⟨h1, decide_eq_false h1⟩)
set_option maxRecDepth 100000 in
set_option maxHeartbeats 8000000 in
theorem meets_any (a b : Int × Int) (n : Int) (w : World) :
    Calls Try.prog 8 #[.agg #[.int .i64 a.1, .int .i64 a.2], .agg #[.int .i64 b.1, .int .i64 b.2], .int .i64 n] w fun e w' => e = .returned (.bool true) ∧ Below w.heap.size w w' := by
  obtain ⟨a1, a2⟩ := a
  obtain ⟨b1, b2⟩ := b
  show Calls Try.prog 8 #[.agg #[.int .i64 a1, .int .i64 a2], .agg #[.int .i64 b1, .int .i64 b2], .int .i64 n] w _
  have HB0 := Lib.hid (show Below w.heap.size w ((w.alloc (.cells #[.int .i64 a1, .int .i64 a2] 27)).alloc (.cells #[.int .i64 b1, .int .i64 b2] 27)) from ((Below.refl _ w).alloc (Nat.le_refl _) _).alloc (by simp) _)
  have HA0 := Lib.hid (blk_old (.cells #[.int .i64 b1, .int .i64 b2] 27) (blk_new w (.cells #[.int .i64 a1, .int .i64 a2] 27)))
  have HC0 : Hid (((w.alloc (.cells #[.int .i64 a1, .int .i64 a2] 27)).alloc (.cells #[.int .i64 b1, .int .i64 b2] 27)).heap[w.heap.size + 1]? = some (.cells #[.int .i64 b1, .int .i64 b2] 27)) := by
    have := blk_new (w.alloc (.cells #[.int .i64 a1, .int .i64 a2] 27)) (.cells #[.int .i64 b1, .int .i64 b2] 27)
    rw [World.size_alloc] at this; exact this
  go_enter Try.func8, Try.ntmps8
  go_wp2_with fail
  refine (meet_any (a1, a2) (b1, b2) _).mono ?_
  rintro e w1 ⟨rfl, hb1⟩
  generalize hM : meetR (a1, a2) (b1, b2) = M
  have HM := Lib.hid hM
  obtain ⟨⟨m1, m2⟩, me⟩ := M
  have HA1 := Lib.hid (blk hb1 HA0.out)
  have HC1 := Lib.hid (blk hb1 HC0.out)
  have HB1 := Lib.hid (HB0.out.trans (hb1.mono HB0.out.size))
  obtain ⟨⟨c1, c2⟩, _⟩ := cells2 HA1.out
  obtain ⟨⟨c3, c4⟩, _⟩ := cells2 HC1.out
  have z1 := blk_lt HA1.out
  have z2 := blk_lt HC1.out
  have HP1 := Lib.hid (blk_new w1 (.cells #[.int .i64 m1, .int .i64 m2] 27))
  clear hM hb1
  go_wp2_with fail
  refine (rmeet_any (a1, a2) (b1, b2) _).mono ?_
  rintro e w2 ⟨rfl, hb2⟩
  rw [HM.out]
  have HA2 := Lib.hid (blk hb2 (blk_old _ HA1.out))
  have HC2 := Lib.hid (blk hb2 (blk_old _ HC1.out))
  have HP2 := Lib.hid (blk hb2 HP1.out)
  have HB2 := Lib.hid ((below_alloc HB1.out _).trans (hb2.mono (below_alloc HB1.out _).size))
  clear c1 c2 c3 c4 z1 z2 hb2
  obtain ⟨⟨c1, c2⟩, _⟩ := cells2 HA2.out
  obtain ⟨⟨c3, c4⟩, _⟩ := cells2 HC2.out
  have z1 := blk_lt HA2.out
  have z2 := blk_lt HC2.out
  have HQ2 := Lib.hid (blk_new w2 (.cells #[.int .i64 m1, .int .i64 m2] 27))
  go_wp2_with fail
  refine (hull_any (a1, a2) (b1, b2) _).mono ?_
  rintro e w3 ⟨rfl, hb3⟩
  generalize hH : hullR (a1, a2) (b1, b2) = R
  have HH := Lib.hid hH
  obtain ⟨⟨r1, r2⟩, re⟩ := R
  have HA3 := Lib.hid (blk hb3 (blk_old _ HA2.out))
  have HC3 := Lib.hid (blk hb3 (blk_old _ HC2.out))
  have HP3 := Lib.hid (blk hb3 (blk_old _ HP2.out))
  have HQ3 := Lib.hid (blk hb3 HQ2.out)
  have HB3 := Lib.hid ((below_alloc HB2.out _).trans (hb3.mono (below_alloc HB2.out _).size))
  clear c1 c2 c3 c4 z1 z2 hb3 hH
  obtain ⟨⟨c1, c2⟩, _⟩ := cells2 HA3.out
  obtain ⟨⟨c3, c4⟩, _⟩ := cells2 HC3.out
  have z1 := blk_lt HA3.out
  have z2 := blk_lt HC3.out
  have HR3 := Lib.hid (blk_new w3 (.cells #[.int .i64 r1, .int .i64 r2] 27))
  go_wp2_with fail
  refine (rhull_any (a1, a2) (b1, b2) _).mono ?_
  rintro e w4 ⟨rfl, hb4⟩
  rw [HH.out]
  have HA4 := Lib.hid (blk hb4 (blk_old _ HA3.out))
  have HC4 := Lib.hid (blk hb4 (blk_old _ HC3.out))
  have HP4 := Lib.hid (blk hb4 (blk_old _ HP3.out))
  have HQ4 := Lib.hid (blk hb4 (blk_old _ HQ3.out))
  have HR4 := Lib.hid (blk hb4 HR3.out)
  have HB4 := Lib.hid ((below_alloc HB3.out _).trans (hb4.mono (below_alloc HB3.out _).size))
  clear c1 c2 c3 c4 z1 z2 hb4
  obtain ⟨⟨c1, c2⟩, _⟩ := cells2 HA4.out
  obtain ⟨⟨c3, c4⟩, _⟩ := cells2 HC4.out
  obtain ⟨⟨c5, c6⟩, _⟩ := cells2 HP4.out
  obtain ⟨⟨c7, c8⟩, _⟩ := cells2 HQ4.out
  obtain ⟨⟨c9, c10⟩, _⟩ := cells2 HR4.out
  have z1 := blk_lt HA4.out
  have z2 := blk_lt HC4.out
  have z3 := blk_lt HP4.out
  have z4 := blk_lt HQ4.out
  have z5 := blk_lt HR4.out
  by_cases hre : (re != 0) = true
  · go_wp2_with fail
    refine (works_any _).mono ?_
    rintro e w5 ⟨rfl, hb5⟩
    have HB5 := Lib.hid ((below_alloc HB4.out _).trans (hb5.mono (below_alloc HB4.out _).size))
    clear hb5
    go_wp2_with fail
    go_ret
    exact ⟨rfl, HB5.out⟩
  · have h0 : re = 0 := by simpa using hre
    obtain ⟨k1, k2, k3, k4, hs⟩ := hull_ok HH.out h0
    have hM := meet_cases HM.out hs n
    simp only at k1 k2 k3 k4 hM
    subst h0
    clear hre hs HH HM
    go_wp2_with fail
    have hA := in_cases a1 a2 n
    have hC := in_cases b1 b2 n
    rcases hA with ⟨⟨a3, a4⟩, a5, a6⟩ | ⟨⟨a3, a4⟩, a5, a6⟩ | ⟨a3, a4⟩ <;> rcases hC with ⟨⟨b3, b4⟩, b5, b6⟩ | ⟨⟨b3, b4⟩, b5, b6⟩ | ⟨b3, b4⟩ <;> rcases hM with ⟨rfl, m3⟩ | ⟨rfl, ⟨m3, m4⟩, ⟨m5, m6⟩, m7⟩ | ⟨rfl, ⟨m3, m4⟩, ⟨m5, m6⟩, m7⟩ | ⟨rfl, ⟨m3, m4⟩, m7⟩
    all_goals try (exfalso; omega)
    all_goals
      try clear m7
      have g1 : (¬ (a1 ≤ n ∧ n ≤ a2) ∧ ¬ (b1 ≤ n ∧ n ≤ b2)) ∨ (r1 ≤ n ∧ n ≤ r2) := by omega
      have HG := Lib.hid g1
      clear g1
      go_quiet (fail)
      go_wp2_with fail
      refine (works_any _).mono ?_
      rintro e w5 ⟨rfl, hb5⟩
      have HB5 := Lib.hid ((Below.drewN' (below_alloc HB4.out _) _).trans (hb5.mono (below_alloc HB4.out _).size))
      clear hb5
      go_wp2_with fail
      go_ret
      exact ⟨rfl, HB5.out⟩
end Go.Proofs.Ytfaiogajaaclcaa
