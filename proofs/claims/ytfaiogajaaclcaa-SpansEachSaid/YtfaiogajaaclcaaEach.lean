/- The law SpansEach: it returns true; old memory stays. -/
import Derived.Test.YtfaiogajaaclcaaSp2
namespace Go.Proofs.Ytfaiogajaaclcaa
open Go.RowKit

/-- a number brought into a span -/
def inSp (n lo hi : Int) : Int := lo + n % (hi - lo + 1)
theorem inSp_bd (n lo hi : Int) (h : lo ≤ hi) : lo ≤ inSp n lo hi ∧ inSp n lo hi ≤ hi := by
  unfold inSp
  have e1 := Int.emod_nonneg n (show hi - lo + 1 ≠ 0 by omega)
  have e2 := Int.emod_lt_of_pos n (show 0 < hi - lo + 1 by omega)
  omega
theorem tmod_twice (n d : Int) (hd : 1 ≤ d) : (n.tmod d + d).tmod d = n % d := by
  have e5 := Int.tmod_lt_of_pos n (show 0 < d by omega)
  have e6 := Int.lt_tmod_of_pos n (show 0 < d by omega)
  rw [Int.tmod_eq_emod_of_nonneg (by omega)]
  rw [Int.add_emod_right]
  have e1 := Int.mul_tdiv_add_tmod n d
  have : n.tmod d = n - d * (n.tdiv d) := by omega
  rw [this, Int.sub_mul_emod_self_left]
set_option maxHeartbeats 1000000 in
theorem lwithin_any (n lo hi : Int) (w : World) (h1 : -1000000 ≤ lo) (h2 : lo ≤ hi) (h3 : hi ≤ 1000000) :
    Calls Try.prog 42 #[.int .i64 n, .agg #[.int .i64 lo, .int .i64 hi]] w fun e w' => e = .returned (.int .i64 (inSp n lo hi)) ∧ Below w.heap.size w w' := by
  have HI : Hid (inSp n lo hi = lo + n % (hi - lo + 1)) := rfl
  go_enter Try.func42, Try.ntmps42
  go_wp2_with fail
  generalize hd : hi - lo + 1 = d at *
  have hd1 : 1 ≤ d := by omega
  have hd2 : d ≤ 2000001 := by omega
  have HT := Lib.hid (tmod_twice n d hd1)
  have e5 := Int.tmod_lt_of_pos n (show 0 < d by omega)
  have e6 := Int.lt_tmod_of_pos n (show 0 < d by omega)
  have e7 := Int.emod_nonneg n (show d ≠ 0 by omega)
  have e8 := Int.emod_lt_of_pos n (show 0 < d by omega)
  have z : (d == 0) = false := by rw [beq_eq_false_iff_ne]; omega
  have u1 : IntKind.i64.wrap (n.tmod d) = n.tmod d := IntWalk.i64_in _ (by omega)
  have u2 : IntKind.i64.wrap (n.tmod d + d) = n.tmod d + d := IntWalk.i64_in _ (by omega)
  have u3 : (n.tmod d + d).tmod d = n % d := HT.out
  have u4 : IntKind.i64.wrap (n % d) = n % d := IntWalk.i64_in _ (by omega)
  have u5 : IntKind.i64.wrap (lo + n % d) = lo + n % d := IntWalk.i64_in _ (by omega)
  have HB := Lib.hid (show ∀ q, Below w.heap.size w ((w.alloc (.cells #[.int .i64 lo, .int .i64 hi] 27)).drewN q) from fun q => Below.drewN' ((Below.refl _ w).alloc (Nat.le_refl _) _) q)
  clear hd
  go_quiet (fail)
  clear u1 u2 u3 u4 u5
  go_wp2_with fail
  go_ret
  exact ⟨by rw [HI.out]; rfl, HB.out _⟩
def IsProd (n a1 a2 b1 b2 : Int) : Prop := n = a1 * b1 ∨ n = a1 * b2 ∨ n = a2 * b1 ∨ n = a2 * b2
set_option maxHeartbeats 1000000 in
theorem product_any (n a1 a2 b1 b2 : Int) (w : World) (h1 : -1000000 ≤ a1) (h2 : a1 ≤ a2) (h3 : a2 ≤ 1000000) (h4 : -1000000 ≤ b1) (h5 : b1 ≤ b2) (h6 : b2 ≤ 1000000) (hp : IsProd n a1 a2 b1 b2) :
    Calls Try.prog 50 #[.int .i64 n, .agg #[.int .i64 a1, .int .i64 a2], .agg #[.int .i64 b1, .int .i64 b2]] w fun e w' => e = .returned (.bool true) ∧ Below w.heap.size w w' := by
  have m1 := mul_abs (a := a1) (b := b1) (M := 1000000) (N := 1000000) (by omega) (by omega) (by omega) (by omega) (by omega) (by omega)
  have m2 := mul_abs (a := a1) (b := b2) (M := 1000000) (N := 1000000) (by omega) (by omega) (by omega) (by omega) (by omega) (by omega)
  have m3 := mul_abs (a := a2) (b := b1) (M := 1000000) (N := 1000000) (by omega) (by omega) (by omega) (by omega) (by omega) (by omega)
  have m4 := mul_abs (a := a2) (b := b2) (M := 1000000) (N := 1000000) (by omega) (by omega) (by omega) (by omega) (by omega) (by omega)
  have HB := Lib.hid (show Below w.heap.size w ((w.alloc (.cells #[.int .i64 a1, .int .i64 a2] 27)).alloc (.cells #[.int .i64 b1, .int .i64 b2] 27)) from ((Below.refl _ w).alloc (Nat.le_refl _) _).alloc (by simp) _)
  have hc : (n == a1 * b1) = true ∨ ((n == a1 * b1) = false ∧ (n == a1 * b2) = true) ∨ ((n == a1 * b1) = false ∧ (n == a1 * b2) = false ∧ (n == a2 * b1) = true) ∨ ((n == a1 * b1) = false ∧ (n == a1 * b2) = false ∧ (n == a2 * b1) = false ∧ (n == a2 * b2) = true) := by
    unfold IsProd at hp
    simp only [beq_iff_eq, beq_eq_false_iff_ne]
    by_cases e1 : n = a1 * b1
    · exact .inl e1
    · by_cases e2 : n = a1 * b2
      · exact .inr (.inl ⟨e1, e2⟩)
      · by_cases e3 : n = a2 * b1
        · exact .inr (.inr (.inl ⟨e1, e2, e3⟩))
        · exact .inr (.inr (.inr ⟨e1, e2, e3, by rcases hp with h | h | h | h <;> first | exact absurd h e1 | exact absurd h e2 | exact absurd h e3 | exact h⟩))
  clear hp
  rcases hc with c1 | ⟨c1, c2⟩ | ⟨c1, c2, c3⟩ | ⟨c1, c2, c3, c4⟩
  all_goals
    go_enter Try.func50, Try.ntmps50
    go_wp2_with fail
    go_ret
    exact ⟨rfl, HB.out⟩
theorem mul_between {x y lo hi : Int} (h1 : lo ≤ x) (h2 : x ≤ hi) : (lo * y ≤ x * y ∧ x * y ≤ hi * y) ∨ (hi * y ≤ x * y ∧ x * y ≤ lo * y) := by
  rcases Int.le_total 0 y with h | h
  · exact .inl ⟨Int.mul_le_mul_of_nonneg_right h1 h, Int.mul_le_mul_of_nonneg_right h2 h⟩
  · exact .inr ⟨Int.mul_le_mul_of_nonpos_right h2 h, Int.mul_le_mul_of_nonpos_right h1 h⟩
theorem min4_le (a b c d : Int) : min4 a b c d ≤ a ∧ min4 a b c d ≤ b ∧ min4 a b c d ≤ c ∧ min4 a b c d ≤ d := by
  unfold min4; simp only [mn_eq]; omega
theorem le_max4 (a b c d : Int) : a ≤ max4 a b c d ∧ b ≤ max4 a b c d ∧ c ≤ max4 a b c d ∧ d ≤ max4 a b c d := by
  unfold max4; simp only [mx_eq]; omega
theorem min4_one (a b c d : Int) : min4 a b c d = a ∨ min4 a b c d = b ∨ min4 a b c d = c ∨ min4 a b c d = d := by
  unfold min4; simp only [mn_eq]; omega
theorem max4_one (a b c d : Int) : max4 a b c d = a ∨ max4 a b c d = b ∨ max4 a b c d = c ∨ max4 a b c d = d := by
  unfold max4; simp only [mx_eq]; omega
theorem made_cases {a r : Int × Int} {e : Int} (h : madeR a = (r, e)) : (e = 0 ∧ r = a ∧ vB a = true) ∨ e = 2 := by
  unfold madeR at h
  by_cases hv : vB a = true
  · rw [if_pos hv] at h
    obtain ⟨rfl, rfl⟩ := Prod.mk.inj h
    exact .inl ⟨rfl, rfl, hv⟩
  · rw [if_neg hv] at h
    obtain ⟨rfl, rfl⟩ := Prod.mk.inj h
    exact .inr rfl
theorem sp_ok2 {a b : Int × Int} (ha : vB a = true) (hb : vB b = true) : ¬ (spErr [a, b] != 0) = true := by
  rw [spErr2, ha, hb]; simp
theorem add_cases {a b r : Int × Int} {e : Int} (ha : vB a = true) (hb : vB b = true) (h : addR a b = (r, e)) : (e = 0 ∧ r.1 = a.1 + b.1 ∧ r.2 = a.2 + b.2) ∨ e = 2 := by
  unfold addR at h
  rw [if_neg (sp_ok2 ha hb)] at h
  rcases made_cases h with ⟨h1, rfl, _⟩ | h1
  · exact .inl ⟨h1, rfl, rfl⟩
  · exact .inr h1
/-- what Times says of the product of two numbers in the spans -/
theorem times_cases {a b r : Int × Int} {e x y : Int} (ha : vB a = true) (hb : vB b = true) (h : timesR a b = (r, e)) (hx1 : a.1 ≤ x) (hx2 : x ≤ a.2) (hy1 : b.1 ≤ y) (hy2 : y ≤ b.2) :
    (e = 0 ∧ r.1 ≤ x * y ∧ x * y ≤ r.2 ∧ IsProd r.1 a.1 a.2 b.1 b.2 ∧ IsProd r.2 a.1 a.2 b.1 b.2) ∨ e = 2 := by
  unfold timesR at h
  rw [if_neg (sp_ok2 ha hb)] at h
  rcases made_cases h with ⟨h1, rfl, _⟩ | h1
  · refine .inl ⟨h1, ?_, ?_, min4_one _ _ _ _, max4_one _ _ _ _⟩
    · have q := min4_le (a.1 * b.1) (a.1 * b.2) (a.2 * b.1) (a.2 * b.2)
      have p1 := mul_between (y := y) hx1 hx2
      have p2 := mul_between (y := a.1) hy1 hy2
      have p3 := mul_between (y := a.2) hy1 hy2
      rw [Int.mul_comm _ a.1, Int.mul_comm _ a.1, Int.mul_comm _ a.1] at p2
      rw [Int.mul_comm _ a.2, Int.mul_comm _ a.2, Int.mul_comm _ a.2] at p3
      show min4 _ _ _ _ ≤ _
      omega
    · have q := le_max4 (a.1 * b.1) (a.1 * b.2) (a.2 * b.1) (a.2 * b.2)
      have p1 := mul_between (y := y) hx1 hx2
      have p2 := mul_between (y := a.1) hy1 hy2
      have p3 := mul_between (y := a.2) hy1 hy2
      rw [Int.mul_comm _ a.1, Int.mul_comm _ a.1, Int.mul_comm _ a.1] at p2
      rw [Int.mul_comm _ a.2, Int.mul_comm _ a.2, Int.mul_comm _ a.2] at p3
      show _ ≤ max4 _ _ _ _
      omega
  · exact .inr h1
theorem div_mul_le' (a d : Int) (hd : 1 ≤ d) : a / d * d ≤ a := by
  have e := Int.mul_ediv_add_emod a d
  have e1 := Int.emod_nonneg a (show d ≠ 0 by omega)
  rw [Int.mul_comm] at e
  omega
theorem part_cases {a r : Int × Int} {e x num den : Int} (ha : vB a = true) (h : partR a num den = (r, e)) (hn1 : 0 ≤ num) (hn2 : num ≤ 1000) (hd1 : 1 ≤ den) (hd2 : den ≤ 1000) (hx1 : a.1 ≤ x) (hx2 : x ≤ a.2) :
    (e = 0 ∧ r.1 * den ≤ x * num ∧ x * num ≤ r.2 * den ∧ -1000000 ≤ r.1 ∧ r.1 ≤ 1000000 ∧ -1000000 ≤ r.2 ∧ r.2 ≤ 1000000) ∨ e = 2 := by
  unfold partR at h
  rw [if_pos ha, wB_iff.2 ⟨hn1, hn2⟩, wB_iff.2 ⟨hd1, hd2⟩] at h
  rcases made_cases h with ⟨h1, rfl, hv⟩ | h1
  · obtain ⟨v1, v2, v3⟩ := vB_iff.1 hv
    simp only at v1 v2 v3
    refine .inl ⟨h1, ?_, ?_, v1, by simp only; omega, by simp only; omega, v3⟩
    · have := div_mul_le' (a.1 * num) den hd1
      have h3 : a.1 * num ≤ x * num := Int.mul_le_mul_of_nonneg_right hx1 hn1
      show a.1 * num / den * den ≤ _
      omega
    · have := div_mul_le' (-(a.2 * num)) den hd1
      have h3 : x * num ≤ a.2 * num := Int.mul_le_mul_of_nonneg_right hx2 hn1
      show _ ≤ -(-(a.2 * num) / den) * den
      rw [Int.neg_mul]
      omega
  · exact .inr h1
end Go.Proofs.Ytfaiogajaaclcaa
