/- Texts of the laws, shared part 6. No conditions. -/
import Derived.Test.YthohcimmoobaoaaPSetsB05
import Derived.Test.YthohcimmoobaoaaRows
/- Loads that swing, in numbers: bounds, sums, lowest terms. No conditions. -/
namespace Go.Proofs.Ythohcimmoobaoaa

structure Slg where
  num : Int
  damp : Int
  den : Int
structure OkS (s : Slg) : Prop where
  d1 : 1 ≤ s.den
  d2 : s.den ≤ 4
  n1 : 0 ≤ s.num
  n2 : s.num ≤ 2 * s.den
  p1 : 0 ≤ s.damp
  p2 : s.damp ≤ s.den
def tk (s : Slg) (x : Int × Int × Int) (g : Int) : Int × Int × Int :=
  (s.den * x.1 + (s.den * x.2.1 - s.num * x.1 - s.damp * x.2.1 + g * (x.2.2 * s.den)), s.den * x.2.1 - s.num * x.1 - s.damp * x.2.1 + g * (x.2.2 * s.den), x.2.2 * s.den)
def run (s : Slg) (x : Int × Int × Int) (gs : List Int) : Int × Int × Int := gs.foldl (tk s) x
/-- what displacement and speed at the start do behind so many ticks, from a row of a matrix on -/
def pq (s : Slg) (z : Int × Int) : Nat → Int × Int
  | 0 => z
  | n + 1 => ((pq s z n).1 * (s.den - s.num) - (pq s z n).2 * s.num, ((pq s z n).1 + (pq s z n).2) * (s.den - s.damp))
def gK (s : Slg) (z : Int × Int) : List Int → Int
  | [] => 0
  | g :: gs => s.den * (g * ((pq s z gs.length).1 + (pq s z gs.length).2) + gK s z gs)
theorem run_lin (s : Slg) (z : Int × Int) : ∀ (gs : List Int) (a v d : Int), z.1 * (run s (a, v, d) gs).1 + z.2 * (run s (a, v, d) gs).2.1 = (pq s z gs.length).1 * a + (pq s z gs.length).2 * v + d * gK s z gs
  | [], a, v, d => by simp [run, pq, gK]
  | g :: gs, a, v, d => by
    have ih := run_lin s z gs (tk s (a, v, d) g).1 (tk s (a, v, d) g).2.1 (tk s (a, v, d) g).2.2
    have e : run s (a, v, d) (g :: gs) = run s ((tk s (a, v, d) g).1, (tk s (a, v, d) g).2.1, (tk s (a, v, d) g).2.2) gs := rfl
    rw [e, ih, List.length_cons]
    simp only [pq, gK, tk]
    generalize (pq s z gs.length).1 = p
    generalize (pq s z gs.length).2 = q
    generalize gK s z gs = k
    grind
theorem run_den (s : Slg) : ∀ (gs : List Int) (a v d : Int), (run s (a, v, d) gs).2.2 = d * s.den ^ gs.length
  | [], a, v, d => by simp [run]
  | g :: gs, a, v, d => by
    have ih := run_den s gs (tk s (a, v, d) g).1 (tk s (a, v, d) g).2.1 (tk s (a, v, d) g).2.2
    have e : run s (a, v, d) (g :: gs) = run s ((tk s (a, v, d) g).1, (tk s (a, v, d) g).2.1, (tk s (a, v, d) g).2.2) gs := rfl
    rw [e, ih, List.length_cons, Int.pow_succ]
    simp only [tk]
    rw [Int.mul_assoc, Int.mul_comm s.den]
def ab (x : Int) : Int := if x < 0 then -x else x
def gB (s : Slg) (z : Int × Int) : Nat → Int
  | 0 => 0
  | n + 1 => s.den * (100 * ab ((pq s z n).1 + (pq s z n).2) + gB s z n)
theorem ab_mul {g p : Int} (h1 : -100 ≤ g) (h2 : g ≤ 100) : -(100 * ab p) ≤ g * p ∧ g * p ≤ 100 * ab p := by
  unfold ab
  split
  · have a1 := Int.mul_nonneg (by omega : 0 ≤ 100 - g) (by omega : 0 ≤ -p)
    have a2 := Int.mul_nonneg (by omega : 0 ≤ 100 + g) (by omega : 0 ≤ -p)
    simp only [Int.sub_mul, Int.add_mul, Int.mul_neg] at a1 a2
    omega
  · have a1 := Int.mul_nonneg (by omega : 0 ≤ 100 - g) (by omega : 0 ≤ p)
    have a2 := Int.mul_nonneg (by omega : 0 ≤ 100 + g) (by omega : 0 ≤ p)
    simp only [Int.sub_mul, Int.add_mul] at a1 a2
    omega
theorem ab_mulK {g p : Int} (h1 : -1000 ≤ g) (h2 : g ≤ 1000) : -(1000 * ab p) ≤ p * g ∧ p * g ≤ 1000 * ab p := by
  rw [Int.mul_comm p g]
  unfold ab
  split
  · have a1 := Int.mul_nonneg (by omega : 0 ≤ 1000 - g) (by omega : 0 ≤ -p)
    have a2 := Int.mul_nonneg (by omega : 0 ≤ 1000 + g) (by omega : 0 ≤ -p)
    simp only [Int.sub_mul, Int.add_mul, Int.mul_neg] at a1 a2
    omega
  · have a1 := Int.mul_nonneg (by omega : 0 ≤ 1000 - g) (by omega : 0 ≤ p)
    have a2 := Int.mul_nonneg (by omega : 0 ≤ 1000 + g) (by omega : 0 ≤ p)
    simp only [Int.sub_mul, Int.add_mul] at a1 a2
    omega
def GustsOk (gs : List Int) : Prop := ∀ g ∈ gs, -100 ≤ g ∧ g ≤ 100
theorem gK_le {s : Slg} (hs : OkS s) (z : Int × Int) : ∀ gs : List Int, GustsOk gs → -(gB s z gs.length) ≤ gK s z gs ∧ gK s z gs ≤ gB s z gs.length
  | [], _ => by simp [gB, gK]
  | g :: gs, h => by
    have ih := gK_le hs z gs fun x hx => h x (List.mem_cons_of_mem _ hx)
    have hg := h g (List.mem_cons_self ..)
    have hm := ab_mul (p := (pq s z gs.length).1 + (pq s z gs.length).2) hg.1 hg.2
    rw [List.length_cons]
    simp only [gB, gK]
    generalize (pq s z gs.length).1 + (pq s z gs.length).2 = p at *
    generalize gK s z gs = k at *
    generalize gB s z gs.length = b at *
    generalize g * p = gp at *
    generalize 100 * ab p = pb at *
    have hd := hs.d1
    generalize s.den = d at *
    have a1 := Int.mul_nonneg (by omega : 0 ≤ d) (by omega : 0 ≤ (pb + b) - (gp + k))
    have a2 := Int.mul_nonneg (by omega : 0 ≤ d) (by omega : 0 ≤ (pb + b) + (gp + k))
    rw [Int.mul_sub] at a1
    rw [Int.mul_add] at a2
    omega
def capN : Int := 1000000000000000
def fine1 (s : Slg) (n : Nat) : Bool := decide (1000 * (ab (pq s (1, 0) n).1 + ab (pq s (1, 0) n).2) + gB s (1, 0) n ≤ capN) && decide (1000 * (ab (pq s (0, 1) n).1 + ab (pq s (0, 1) n).2) + gB s (0, 1) n ≤ capN)
def fineAll : Bool := (List.range 4).all fun d => (List.range (2 * (d + 1) + 1)).all fun n => (List.range (d + 2)).all fun p => (List.range 17).all fun k => fine1 ⟨n, p, d + 1⟩ k
theorem fine_all : fineAll = true := by decide +kernel
theorem fine_get {s : Slg} (hs : OkS s) {n : Nat} (hn : n ≤ 16) : fine1 s n = true := by
  obtain ⟨h1, h2, h3, h4, h5, h6⟩ := hs
  obtain ⟨num, damp, den⟩ := s
  simp only at *
  have h := fine_all
  unfold fineAll at h
  simp only [List.all_eq_true, List.mem_range] at h
  have := h (den.toNat - 1) (by omega) num.toNat (by omega) damp.toNat (by omega) n (by omega)
  have e1 : (num.toNat : Int) = num := by omega
  have e2 : (damp.toNat : Int) = damp := by omega
  have e3 : ((den.toNat - 1 : Nat) : Int) + 1 = den := by omega
  rwa [e1, e2, e3] at this
theorem run_le {s : Slg} (hs : OkS s) {gs : List Int} (hg : GustsOk gs) (hn : gs.length ≤ 16) {a v : Int} (a1 : -1000 ≤ a) (a2 : a ≤ 1000) (v1 : -1000 ≤ v) (v2 : v ≤ 1000) :
    (-capN ≤ (run s (a, v, 1) gs).1 ∧ (run s (a, v, 1) gs).1 ≤ capN) ∧ -capN ≤ (run s (a, v, 1) gs).2.1 ∧ (run s (a, v, 1) gs).2.1 ≤ capN := by
  have hf := fine_get hs hn
  simp only [fine1, Bool.and_eq_true, decide_eq_true_eq] at hf
  have l1 := run_lin s (1, 0) gs a v 1
  have l2 := run_lin s (0, 1) gs a v 1
  have k1 := gK_le hs (1, 0) gs hg
  have k2 := gK_le hs (0, 1) gs hg
  have b1 := ab_mulK (p := (pq s (1, 0) gs.length).1) a1 a2
  have b2 := ab_mulK (p := (pq s (1, 0) gs.length).2) v1 v2
  have b3 := ab_mulK (p := (pq s (0, 1) gs.length).1) a1 a2
  have b4 := ab_mulK (p := (pq s (0, 1) gs.length).2) v1 v2
  simp only [Int.one_mul, Int.zero_mul, Int.add_zero, Int.zero_add] at l1 l2
  omega
theorem den_le {s : Slg} (hs : OkS s) : ∀ n : Nat, 1 ≤ s.den ^ n ∧ s.den ^ n ≤ 4 ^ n
  | 0 => by simp
  | n + 1 => by
    have ih := den_le hs n
    have h1 := hs.d1
    have h2 := hs.d2
    rw [Int.pow_succ, Int.pow_succ]
    generalize s.den ^ n = x at *
    generalize (4 : Int) ^ n = y at *
    generalize s.den = d at *
    have a1 := Int.mul_nonneg (by omega : 0 ≤ x - 1) (by omega : 0 ≤ d)
    have a2 := Int.mul_nonneg (by omega : 0 ≤ y) (by omega : 0 ≤ 4 - d)
    have a3 := Int.mul_nonneg (by omega : 0 ≤ y - x) (by omega : 0 ≤ d)
    rw [Int.sub_mul] at a1 a3
    rw [Int.mul_sub] at a2
    omega
theorem four_le : ∀ n : Nat, n ≤ 16 → (4 : Int) ^ n ≤ 4294967296 := by
  intro n hn
  have : ∀ k : Fin 17, (4 : Int) ^ k.1 ≤ 4294967296 := by decide
  exact this ⟨n, by omega⟩
theorem den_cap {s : Slg} (hs : OkS s) {n : Nat} (hn : n ≤ 16) : 1 ≤ s.den ^ n ∧ s.den ^ n ≤ 4294967296 := by
  have := den_le hs n
  have := four_le n hn
  omega
/-! ### sums of swings -/
theorem run_take (s : Slg) (x : Int × Int × Int) (gs : List Int) (k : Nat) (h : k < gs.length) : run s x (gs.take (k + 1)) = tk s (run s x (gs.take k)) (gs[k]?.getD 0) := by
  unfold run
  rw [← List.take_append_getElem h, List.foldl_append]
  simp [h]
/-! ### lowest terms -/
def gc (num den : Int) : Int := (Int.gcd num den : Int)
def lowF (num den : Int) : Int × Int := (num / gc num den, den / gc num den)
theorem gc_pos {num den : Int} (h : 1 ≤ den) : 1 ≤ gc num den := by
  have : 0 < Int.gcd num den := Int.gcd_pos_of_ne_zero_right _ (by omega)
  unfold gc; omega
theorem gc_num (num den : Int) : num / gc num den * gc num den = num := Int.ediv_mul_cancel (Int.gcd_dvd_left ..)
theorem gc_den (num den : Int) : den / gc num den * gc num den = den := Int.ediv_mul_cancel (Int.gcd_dvd_right ..)
theorem dv_den {q g den : Int} (h1 : 1 ≤ g) (h2 : q * g = den) (h : 1 ≤ den) : 1 ≤ q ∧ q ≤ den := by
  have hq : 1 ≤ q := by
    by_cases hq : 1 ≤ q
    · exact hq
    · have := Int.mul_nonneg (by omega : 0 ≤ -q) (by omega : 0 ≤ g)
      rw [Int.neg_mul] at this
      omega
  have := Int.mul_nonneg (by omega : 0 ≤ q) (by omega : 0 ≤ g - 1)
  rw [Int.mul_sub] at this
  omega
theorem lowF_den {num den : Int} (h : 1 ≤ den) : 1 ≤ (lowF num den).2 ∧ (lowF num den).2 ≤ den := dv_den (gc_pos h) (gc_den num den) h
theorem lowF_num {num den B : Int} (h : 1 ≤ den) (h1 : -B ≤ num) (h2 : num ≤ B) : -B ≤ (lowF num den).1 ∧ (lowF num den).1 ≤ B := by
  have hg := gc_pos (num := num) h
  have h3 := gc_num num den
  show -B ≤ num / gc num den ∧ num / gc num den ≤ B
  have h0 : 0 ≤ B := by omega
  generalize num / gc num den = q at *
  generalize gc num den = g at *
  by_cases hq : 0 ≤ q
  · have := Int.mul_nonneg hq (by omega : 0 ≤ g - 1)
    rw [Int.mul_sub] at this
    omega
  · have := Int.mul_nonneg (by omega : 0 ≤ -q) (by omega : 0 ≤ g - 1)
    rw [Int.mul_sub, Int.neg_mul] at this
    omega
theorem lowF_lt {x y den : Int} (h : 1 ≤ den) : (lowF x den).1 * (lowF y den).2 < (lowF y den).1 * (lowF x den).2 ↔ x < y := by
  have a1 := gc_num x den
  have a2 := gc_den x den
  have b1 := gc_num y den
  have b2 := gc_den y den
  have g1 := gc_pos (num := x) h
  have g2 := gc_pos (num := y) h
  show x / gc x den * (den / gc y den) < y / gc y den * (den / gc x den) ↔ x < y
  generalize x / gc x den = p at *
  generalize den / gc x den = q at *
  generalize y / gc y den = r at *
  generalize den / gc y den = t at *
  generalize gc x den = g at *
  generalize gc y den = k at *
  have hgk : 0 < g * k := Int.mul_pos (by omega) (by omega)
  have e1 : (p * t) * (g * k) = x * den := by rw [← a1]; rw [← b2]; grind
  have e2 : (r * q) * (g * k) = y * den := by rw [← b1]; rw [← a2]; grind
  constructor
  · intro hlt
    have := (Int.mul_lt_mul_right hgk).2 hlt
    rw [e1, e2] at this
    exact (Int.mul_lt_mul_right (by omega : 0 < den)).1 this
  · intro hlt
    have := (Int.mul_lt_mul_right (by omega : 0 < den)).2 hlt
    rw [← e1, ← e2] at this
    exact (Int.mul_lt_mul_right hgk).1 this
/-- the loop that finds the greatest divisor -/
theorem gcd_step {a b : Int} : Int.gcd b (a % b) = Int.gcd a b := by
  rw [Int.gcd_comm b]
  apply Nat.dvd_antisymm
  · refine Int.dvd_gcd ?_ ?_
    · have h1 : ((Int.gcd (a % b) b : Nat) : Int) ∣ a % b := Int.gcd_dvd_left ..
      have h2 : ((Int.gcd (a % b) b : Nat) : Int) ∣ b := Int.gcd_dvd_right ..
      have := Int.dvd_add h1 (Int.dvd_mul_of_dvd_left (c := a / b) h2)
      rwa [Int.emod_add_mul_ediv] at this
    · exact Int.gcd_dvd_right ..
  · refine Int.dvd_gcd ?_ ?_
    · have h1 : ((Int.gcd a b : Nat) : Int) ∣ a := Int.gcd_dvd_left ..
      have h2 : ((Int.gcd a b : Nat) : Int) ∣ b := Int.gcd_dvd_right ..
      have := Int.dvd_sub h1 (Int.dvd_mul_of_dvd_left (c := a / b) h2)
      have e := Int.emod_add_mul_ediv a b
      have e2 : a - b * (a / b) = a % b := by omega
      rwa [e2] at this
    · exact Int.gcd_dvd_right ..
theorem gcd_start (num den : Int) : Int.gcd (if -num > num then -num else num) den = Int.gcd num den := by
  split
  · rw [Int.neg_gcd]
  · rfl
theorem gcd_end {a : Int} (h : 0 ≤ a) : ((Int.gcd a 0 : Nat) : Int) = a := by
  rw [Int.gcd_zero_right]; omega
theorem tdiv_num (num den : Int) : num.tdiv (gc num den) = num / gc num den := Int.tdiv_eq_ediv_of_dvd (Int.gcd_dvd_left ..)
theorem tdiv_den (num den : Int) : den.tdiv (gc num den) = den / gc num den := Int.tdiv_eq_ediv_of_dvd (Int.gcd_dvd_right ..)
/-! ### which fraction is less -/
def ltF (a b : Int × Int) : Bool := decide (a.1 * b.2 < b.1 * a.2)
theorem fl_lt {n d m e p q : Int} (hd : 0 < d) (he : 0 < e) (hp : n / d = p) (hq : m / e = q) (h : p ≠ q) : (n * e < m * d) ↔ p < q := by
  have n1 := Int.mul_ediv_add_emod n d
  have n2 := Int.emod_nonneg n (by omega : d ≠ 0)
  have n3 := Int.emod_lt_of_pos n hd
  have m1 := Int.mul_ediv_add_emod m e
  have m2 := Int.emod_nonneg m (by omega : e ≠ 0)
  have m3 := Int.emod_lt_of_pos m he
  rw [hp] at n1
  rw [hq] at m1
  generalize n % d = r at *
  generalize m % e = t at *
  subst n1 m1
  constructor
  · intro hlt
    by_cases hc : p < q
    · exact hc
    · exfalso
      have hk : 0 ≤ p - q - 1 := by omega
      have a1 := Int.mul_nonneg (Int.mul_nonneg hk (by omega : 0 ≤ d)) (by omega : 0 ≤ e)
      have a2 := Int.mul_nonneg (by omega : 0 ≤ r) (by omega : 0 ≤ e)
      have a3 := Int.mul_pos (by omega : 0 < e - t) hd
      grind
  · intro hc
    have hk : 0 ≤ q - p - 1 := by omega
    have a1 := Int.mul_nonneg (Int.mul_nonneg hk (by omega : 0 ≤ d)) (by omega : 0 ≤ e)
    have a2 := Int.mul_nonneg (by omega : 0 ≤ t) (by omega : 0 ≤ d)
    have a3 := Int.mul_pos (by omega : 0 < d - r) he
    grind
theorem fl_eq {n d m e p : Int} : (n - p * d) * e < (m - p * e) * d ↔ n * e < m * d := by
  rw [Int.sub_mul, Int.sub_mul]
  have : p * d * e = p * e * d := by grind
  omega
/-- two fractions from 0 on and below 1, by their turned ones -/
theorem rest_lt {a b c d : Int} (ha : 0 < a) (hc : 0 < c) : a * d < c * b ↔ (if d / c ≠ b / a then decide (d / c < b / a) else decide ((d % c) * a < (b % a) * c)) = true := by
  have e1 : a * d < c * b ↔ d * a < b * c := by rw [Int.mul_comm a, Int.mul_comm c]
  rw [e1]
  by_cases h : d / c = b / a
  · rw [if_neg (by simpa using h), decide_eq_true_eq]
    have n1 := Int.mul_ediv_add_emod d c
    have m1 := Int.mul_ediv_add_emod b a
    rw [h] at n1
    generalize b / a = p at *
    have f1 : d % c = d - p * c := by rw [Int.mul_comm p]; omega
    have f2 : b % a = b - p * a := by rw [Int.mul_comm p]; omega
    rw [f1, f2]
    exact fl_eq.symm
  · rw [if_pos h, decide_eq_true_eq]
    exact fl_lt hc ha rfl rfl h
/-! ### the parts of a displacement -/
def oneAt (n t : Nat) : List Int := (List.range n).map fun j => if j = t then 1 else 0
def zs (n : Nat) : List Int := List.replicate n 0
theorem oneAt_none (n t : Nat) (h : n ≤ t) : oneAt n t = zs n := by
  unfold oneAt zs
  apply List.ext_getElem
  · simp
  · intro i h1 h2
    have : i < n := by simpa using h1
    simp only [List.getElem_map, List.getElem_range, List.getElem_replicate]
    rw [if_neg (by omega)]
theorem oneAt_zero (n : Nat) : oneAt (n + 1) 0 = 1 :: zs n := by
  unfold oneAt
  rw [List.range_succ_eq_map, List.map_cons, List.map_map, if_pos rfl]
  congr 1
  rw [← oneAt_none n n (Nat.le_refl _)]
  unfold oneAt
  apply List.map_congr_left
  intro j hj
  have := List.mem_range.1 hj
  simp; omega
theorem oneAt_succ (n t : Nat) : oneAt (n + 1) (t + 1) = 0 :: oneAt n t := by
  unfold oneAt
  rw [List.range_succ_eq_map, List.map_cons, List.map_map, if_neg (by omega)]
  congr 1
  apply List.map_congr_left
  intro j hj
  simp
theorem gK_zs (s : Slg) (z : Int × Int) : ∀ n, gK s z (zs n) = 0
  | 0 => rfl
  | n + 1 => by
    show s.den * (0 * _ + gK s z (zs n)) = 0
    rw [gK_zs s z n]; simp
def sumR (n : Nat) (f : Nat → Int) : Int := ((List.range n).map f).sum
theorem sumR_first (n : Nat) (f : Nat → Int) : sumR (n + 1) f = f 0 + sumR n (fun i => f (i + 1)) := by
  unfold sumR
  rw [List.range_succ_eq_map, List.map_cons, List.map_map, List.sum_cons]
  rfl
theorem sumR_last (n : Nat) (f : Nat → Int) : sumR (n + 1) f = sumR n f + f n := by
  unfold sumR
  rw [List.range_succ, List.map_append, List.sum_append]
  simp
theorem sumR_congr {n : Nat} {f g : Nat → Int} (h : ∀ i, i < n → f i = g i) : sumR n f = sumR n g := by
  unfold sumR
  rw [List.map_congr_left fun i hi => h i (List.mem_range.1 hi)]
theorem sumR_mul (n : Nat) (c : Int) (f : Nat → Int) : sumR n (fun i => c * f i) = c * sumR n f := by
  induction n with
  | zero => simp [sumR]
  | succ n ih => rw [sumR_last, sumR_last, ih, Int.mul_add]
theorem sumR_le {n : Nat} {f g : Nat → Int} (h : ∀ i, i < n → f i ≤ g i) : sumR n f ≤ sumR n g := by
  induction n with
  | zero => simp [sumR]
  | succ n ih =>
    rw [sumR_last, sumR_last]
    have h1 := ih fun i hi => h i (by omega)
    have h2 := h n (by omega)
    omega
theorem gK_sum (s : Slg) (z : Int × Int) : ∀ gs : List Int, gK s z gs = sumR gs.length fun t => gK s z (oneAt gs.length t) * (gs[t]?.getD 0)
  | [] => rfl
  | g :: gs => by
    rw [List.length_cons, sumR_first, oneAt_zero]
    have ih := gK_sum s z gs
    have e : ∀ t, gK s z (oneAt (gs.length + 1) (t + 1)) * ((g :: gs)[t + 1]?.getD 0) = s.den * (gK s z (oneAt gs.length t) * (gs[t]?.getD 0)) := fun t => by
      rw [oneAt_succ]
      show s.den * (0 * _ + gK s z (oneAt gs.length t)) * _ = _
      simp only [Int.zero_mul, Int.zero_add, List.getElem?_cons_succ]
      rw [Int.mul_assoc]
    rw [sumR_congr fun i _ => e i, sumR_mul, ← ih]
    show s.den * (g * _ + gK s z gs) = s.den * (1 * ((pq s z (zs gs.length).length).1 + (pq s z (zs gs.length).length).2) + gK s z (zs gs.length)) * g + _
    rw [gK_zs]
    simp only [zs, List.length_replicate]
    generalize (pq s z gs.length).1 + (pq s z gs.length).2 = p
    grind
/-- the i-th number of a start and gusts, alone -/
def unitI (i : Nat) : Int × Int × Int := (if i = 0 then 1 else 0, if i = 1 then 1 else 0, 1)
def gustI (i t : Nat) : Int := if i = t + 2 then 1 else 0
def rowI (n i : Nat) : List Int := (List.range n).map (gustI i)
def part (s : Slg) (n i : Nat) : Int := (run s (unitI i) (rowI n i)).1
theorem rowI_len (n i : Nat) : (rowI n i).length = n := by simp [rowI]
theorem rowI_small (n i : Nat) (h : i < 2) : rowI n i = zs n := by
  unfold rowI zs
  apply List.ext_getElem
  · simp
  · intro j h1 h2
    simp only [List.getElem_map, List.getElem_range, List.getElem_replicate, gustI]
    rw [if_neg (by omega)]
theorem rowI_big (n t : Nat) : rowI n (t + 2) = oneAt n t := by
  unfold rowI oneAt
  apply List.map_congr_left
  intro j hj
  unfold gustI
  by_cases h : j = t
  · rw [if_pos h, if_pos (by omega)]
  · rw [if_neg h, if_neg (by omega)]
theorem gusts_row (n i : Nat) : GustsOk (rowI n i) := by
  intro g hg
  obtain ⟨j, _, rfl⟩ := List.mem_map.1 hg
  unfold gustI
  split <;> omega
theorem part_lin (s : Slg) (n i : Nat) : part s n i = (pq s (1, 0) n).1 * (unitI i).1 + (pq s (1, 0) n).2 * (unitI i).2.1 + gK s (1, 0) (rowI n i) := by
  have h := run_lin s (1, 0) (rowI n i) (unitI i).1 (unitI i).2.1 1
  simp only [Int.one_mul, Int.zero_mul, Int.add_zero, rowI_len] at h
  exact h
/-- what numbers bring, one by one -/
def inp (a v : Int) (gs : List Int) : Nat → Int
  | 0 => a
  | 1 => v
  | t + 2 => gs[t]?.getD 0
theorem run_parts (s : Slg) (a v : Int) (gs : List Int) : (run s (a, v, 1) gs).1 = sumR (gs.length + 2) fun i => part s gs.length i * inp a v gs i := by
  have h := run_lin s (1, 0) gs a v 1
  simp only [Int.one_mul, Int.zero_mul, Int.add_zero] at h
  rw [h, sumR_first, sumR_first, gK_sum]
  have e0 : part s gs.length 0 = (pq s (1, 0) gs.length).1 := by
    rw [part_lin, rowI_small _ _ (by omega), gK_zs]; simp [unitI]
  have e1 : part s gs.length 1 = (pq s (1, 0) gs.length).2 := by
    rw [part_lin, rowI_small _ _ (by omega), gK_zs]; simp [unitI]
  have e2 : ∀ t, part s gs.length (t + 2) = gK s (1, 0) (oneAt gs.length t) := fun t => by
    rw [part_lin, rowI_big]; simp [unitI]
  have e3 : sumR gs.length (fun t => gK s (1, 0) (oneAt gs.length t) * (gs[t]?.getD 0)) = sumR gs.length fun i => part s gs.length (i + 1 + 1) * inp a v gs (i + 1 + 1) := sumR_congr fun t _ => by
    rw [e2 t]; rfl
  rw [e3]
  show _ = part s gs.length 0 * a + (part s gs.length 1 * v + _)
  rw [e0, e1]
  omega
/-! ### sets -/
def endI (p : Int) (x : Int × Int) (high : Bool) : Int := if (high = true ∧ 0 < p) ∨ (high = false ∧ p < 0) then x.2 else x.1
structure SetS where
  s : Slg
  b0 : Int × Int
  b1 : Int × Int
  g : Int × Int
def spI (x : SetS) (i : Nat) : Int × Int := if i = 0 then x.b0 else if i = 1 then x.b1 else x.g
def toI (x : SetS) (n : Nat) (high : Bool) (i : Nat) : Int := endI (part x.s n i) (spI x i) high
def mostI (x : SetS) (n : Nat) (high : Bool) : Int := sumR (n + 2) fun i => part x.s n i * toI x n high i
structure OkX (x : SetS) : Prop where
  s : OkS x.s
  a1 : -1000 ≤ x.b0.1
  a2 : x.b0.1 ≤ x.b0.2
  a3 : x.b0.2 ≤ 1000
  v1 : -1000 ≤ x.b1.1
  v2 : x.b1.1 ≤ x.b1.2
  v3 : x.b1.2 ≤ 1000
  g1 : -100 ≤ x.g.1
  g2 : x.g.1 ≤ x.g.2
  g3 : x.g.2 ≤ 100
theorem end_in {x : Int × Int} (h : x.1 ≤ x.2) (p : Int) (high : Bool) : x.1 ≤ endI p x high ∧ endI p x high ≤ x.2 := by
  unfold endI; split <;> omega
def rowT (x : SetS) (n : Nat) (high : Bool) : List Int := (List.range n).map fun t => toI x n high (t + 2)
theorem rowT_len (x : SetS) (n : Nat) (high : Bool) : (rowT x n high).length = n := by simp [rowT]
theorem rowT_in {x : SetS} (h : OkX x) (n : Nat) (high : Bool) : ∀ g ∈ rowT x n high, x.g.1 ≤ g ∧ g ≤ x.g.2 := by
  intro g hg
  obtain ⟨t, _, rfl⟩ := List.mem_map.1 hg
  exact end_in h.g2 _ _
/-- with its witness a displacement is the end -/
theorem most_is (x : SetS) (n : Nat) (high : Bool) : (run x.s (toI x n high 0, toI x n high 1, 1) (rowT x n high)).1 = mostI x n high := by
  rw [run_parts, rowT_len]
  unfold mostI
  refine sumR_congr fun i hi => ?_
  congr 1
  match i, hi with
  | 0, _ => rfl
  | 1, _ => rfl
  | t + 2, hi =>
    have : t < n := by omega
    simp [inp, rowT, this]
theorem end_most {p v : Int} {x : Int × Int} (h1 : x.1 ≤ v) (h2 : v ≤ x.2) : p * endI p x false ≤ p * v ∧ p * v ≤ p * endI p x true := by
  unfold endI
  by_cases hp : 0 < p
  · rw [if_neg (by simp; omega), if_pos (by simp; omega)]
    exact ⟨Int.mul_le_mul_of_nonneg_left h1 (by omega), Int.mul_le_mul_of_nonneg_left h2 (by omega)⟩
  · by_cases hn : p < 0
    · rw [if_pos (by simp; omega), if_neg (by simp; omega)]
      exact ⟨Int.mul_le_mul_of_nonpos_left (by omega) h2, Int.mul_le_mul_of_nonpos_left (by omega) h1⟩
    · have : p = 0 := by omega
      subst this
      simp
/-- no start and gusts of the sets bring it further -/
theorem most_le (x : SetS) {a v : Int} {gs : List Int} (a1 : x.b0.1 ≤ a) (a2 : a ≤ x.b0.2) (v1 : x.b1.1 ≤ v) (v2 : v ≤ x.b1.2) (hg : ∀ g ∈ gs, x.g.1 ≤ g ∧ g ≤ x.g.2) :
    mostI x gs.length false ≤ (run x.s (a, v, 1) gs).1 ∧ (run x.s (a, v, 1) gs).1 ≤ mostI x gs.length true := by
  rw [run_parts]
  have key : ∀ i, i < gs.length + 2 → (spI x i).1 ≤ inp a v gs i ∧ inp a v gs i ≤ (spI x i).2 := fun i hi => by
    match i, hi with
    | 0, _ => exact ⟨a1, a2⟩
    | 1, _ => exact ⟨v1, v2⟩
    | t + 2, hi =>
      have ht : t < gs.length := by omega
      have := hg gs[t] (List.getElem_mem ht)
      simpa [inp, spI, ht] using this
  exact ⟨sumR_le fun i hi => (end_most (key i hi).1 (key i hi).2).1, sumR_le fun i hi => (end_most (key i hi).1 (key i hi).2).2⟩
/-- numbers that are summed up are small -/
theorem run_small {x : Slg} (hs : OkS x) {n : Nat} (hn : n ≤ 16) (f : Nat → Int) (h0 : -1000 ≤ f 0 ∧ f 0 ≤ 1000) (h1 : -1000 ≤ f 1 ∧ f 1 ≤ 1000) (h2 : ∀ t, -100 ≤ f (t + 2) ∧ f (t + 2) ≤ 100) :
    -capN ≤ sumR (n + 2) (fun i => part x n i * f i) ∧ sumR (n + 2) (fun i => part x n i * f i) ≤ capN := by
  have hg : GustsOk ((List.range n).map fun t => f (t + 2)) := by
    intro g hg
    obtain ⟨t, _, rfl⟩ := List.mem_map.1 hg
    exact h2 t
  have hl : ((List.range n).map fun t => f (t + 2)).length = n := by simp
  have h := (run_le hs hg (by omega) h0.1 h0.2 h1.1 h1.2).1
  have e := run_parts x (f 0) (f 1) ((List.range n).map fun t => f (t + 2))
  rw [e, hl] at h
  have : sumR (n + 2) (fun i => part x n i * inp (f 0) (f 1) ((List.range n).map fun t => f (t + 2)) i) = sumR (n + 2) fun i => part x n i * f i := sumR_congr fun i hi => by
    congr 1
    match i, hi with
    | 0, _ => rfl
    | 1, _ => rfl
    | t + 2, hi =>
      have : t < n := by omega
      simp [inp, this]
  rw [this] at h
  exact h
theorem sumR_if (n k : Nat) (f : Nat → Int) (h : k ≤ n) : sumR n (fun i => if i < k then f i else 0) = sumR k f := by
  induction n with
  | zero =>
    obtain rfl : k = 0 := by omega
    rfl
  | succ n ih =>
    rw [sumR_last]
    by_cases hk : k = n + 1
    · subst hk
      rw [if_pos (by omega), sumR_last]
      congr 1
      exact sumR_congr fun i hi => by rw [if_pos (by omega)]
    · rw [ih (by omega), if_neg (by omega)]; omega
theorem to_in {x : SetS} (hx : OkX x) (n : Nat) (high : Bool) : (-1000 ≤ toI x n high 0 ∧ toI x n high 0 ≤ 1000) ∧ (-1000 ≤ toI x n high 1 ∧ toI x n high 1 ≤ 1000) ∧ ∀ t, -100 ≤ toI x n high (t + 2) ∧ toI x n high (t + 2) ≤ 100 := by
  have h0 := end_in (x := x.b0) hx.a2 (part x.s n 0) high
  have h1 := end_in (x := x.b1) hx.v2 (part x.s n 1) high
  have := hx.a1; have := hx.a3; have := hx.v1; have := hx.v3; have := hx.g1; have := hx.g3
  refine ⟨⟨?_, ?_⟩, ⟨?_, ?_⟩, fun t => ?_⟩
  · show -1000 ≤ endI _ x.b0 high; omega
  · show endI _ x.b0 high ≤ 1000; omega
  · show -1000 ≤ endI _ x.b1 high; omega
  · show endI _ x.b1 high ≤ 1000; omega
  · have h2 := end_in (x := x.g) hx.g2 (part x.s n (t + 2)) high
    show -100 ≤ endI _ x.g high ∧ endI _ x.g high ≤ 100
    omega
/-- partial sums -/
theorem most_part {x : SetS} (hx : OkX x) {n : Nat} (hn : n ≤ 16) (high : Bool) (k : Nat) (hk : k ≤ n + 2) :
    -capN ≤ sumR k (fun i => part x.s n i * toI x n high i) ∧ sumR k (fun i => part x.s n i * toI x n high i) ≤ capN := by
  obtain ⟨h0, h1, h2⟩ := to_in hx n high
  have h := run_small hx.s hn (fun i => if i < k then toI x n high i else 0) (by split <;> omega) (by split <;> omega) (fun t => by have := h2 t; split <;> omega)
  have e : sumR (n + 2) (fun i => part x.s n i * (if i < k then toI x n high i else 0)) = sumR (n + 2) fun i => if i < k then part x.s n i * toI x n high i else 0 := sumR_congr fun i _ => by split <;> simp
  rw [e, sumR_if _ _ _ hk] at h
  exact h
theorem most_one {x : SetS} (hx : OkX x) {n : Nat} (hn : n ≤ 16) (high : Bool) (k : Nat) (hk : k < n + 2) :
    -(2 * capN) ≤ part x.s n k * toI x n high k ∧ part x.s n k * toI x n high k ≤ 2 * capN := by
  have h1 := most_part hx hn high k (by omega)
  have h2 := most_part hx hn high (k + 1) (by omega)
  rw [sumR_last] at h2
  omega
end Go.Proofs.Ythohcimmoobaoaa
/- sling: the small functions. No conditions. -/
set_option linter.unusedSimpArgs false
set_option linter.unusedVariables false
namespace Go.Proofs.Ythohcimmoobaoaa
open Go.RowKit Lift

def slD (s : Slg) : D := .agg [dI s.num, dI s.damp, dI s.den]
def wI (n a b : Int) : Bool := decide (a ≤ n) && decide (n ≤ b)
theorem wI_t {n a b : Int} (h : wI n a b = true) : a ≤ n ∧ n ≤ b := by simpa [wI] using h
theorem in_agg2 (S : Nat → Prop) (a b : Value) : In S (.agg [.val a, .val b]) := .agg _ (by intro d hd; simp at hd; rcases hd with rfl | rfl <;> exact .val _)
theorem in_agg3 (S : Nat → Prop) (a b c : Value) : In S (.agg [.val a, .val b, .val c]) := .agg _ (by intro d hd; simp at hd; rcases hd with rfl | rfl | rfl <;> exact .val _)
set_option maxRecDepth 100000 in
set_option maxHeartbeats 1000000 in
theorem swithin_ac (n a b : Int) : AC Try.prog 53 [dI n, dI a, dI b] [] [] (dB (wI n a b)) := by
  refine ksling_within.ac (n0 := 0) (by simp) ⟨.val _, .val _, .val _, trivial⟩ trivial rfl ?_
  unfold csling_within dI dB wI
  (have hg : (987654321 : Nat) - 987654321 = 0 := rfl; have hr := hg; repeat' (first | refine aw_seq ?_ | (refine aw_skip ?_; try simp only [thenQ, blockQ, if_true, if_false, Nat.reduceEqDiff, reduceCtorEq]) | (refine aw_exit ?_; try simp only [thenQ, blockQ, if_true, if_false, Nat.reduceEqDiff, reduceCtorEq]) | refine aw_ret ?_ | refine aw_block ?_ | refine aw_condT rfl ?_ | refine aw_condF rfl ?_ | (refine ag_bool (fun hg => ?_) (fun hg => ?_) <;> (try (have hq := hg; simp only [Bool.not_eq_true', Bool.not_eq_false', Bool.and_eq_true, Bool.and_eq_false_iff, Bool.or_eq_true, Bool.or_eq_false_iff, decide_eq_true_eq, decide_eq_false_iff_not, bne_iff_ne, beq_iff_eq, beq_eq_false_iff_ne, bne_eq_false_iff_eq, ne_eq, Int.not_lt, Int.not_le, Decidable.not_not] at hq)) <;> (try (have hr := hg; simp only [decide_eq_true_eq, decide_eq_false_iff_not] at hr)) <;> (try (exfalso; omega)) <;> simp (config := {maxSteps := 10000000}) (disch := first | exact okYes (by kernel_rfl) | omega) only [hr, decide_true, Bool.true_and, AG_tt, AOpRun, aexec, FSt.ev, St.F, ↓eget_h, AGo_ok, Nat.reduceAdd, St.app, putO, eput_c, Nat.reduceBEq, eput_n, cond_false, hups, List.map, ARun_some, eget_c, isSh, Bool.false_eq_true, ↓reduceIte, Option.map, abin, ARun_none, beq_self_eq_true, cond_true, ARun_nil, dropE_c, inL_c, inL_n, dropE_n, decide_false, Bool.false_and, AG_ft]) | ((first | refine aw_region ?_ | refine ago_if (by omega) ?_ | skip); simp (config := {maxSteps := 10000000}) (disch := first | exact okYes (by kernel_rfl) | omega) only [thenQ, List.map, List.length, Nat.zero_add, Nat.reduceMul, envOf, Nat.reduceAdd, ARun_none, AOpRun, aexec, FSt.ev, AGo_ok, St.app, putO, eput_c, Nat.reduceBEq, eput_n, cond_false, hups, ARun_nil, dropE_c, inL_n, dropE_n, St.F, ↓eget_h, eget_c, isSh, Bool.false_eq_true, ↓reduceIte, Option.map, abin, ge_iff_le, ARun_some])))
  all_goals (refine end_to [] [] (by first | exact .inl rfl | exact .inr rfl) rfl (by kernel_rfl) (by kernel_rfl) (by kernel_rfl) ?_ ?_ <;> repeat' (first | exact trivial | exact vr_val _))
set_option maxRecDepth 100000 in
set_option maxHeartbeats 1000000 in
theorem rwithin_ac (n a b : Int) : AC Try.prog 56 [dI n, dI a, dI b] [] [] (dB (wI n a b)) := by
  refine kref07_within.ac (n0 := 0) (by simp) ⟨.val _, .val _, .val _, trivial⟩ trivial rfl ?_
  unfold cref07_within dI dB wI
  (have hg : (987654321 : Nat) - 987654321 = 0 := rfl; have hr := hg; repeat' (first | refine aw_seq ?_ | (refine aw_skip ?_; try simp only [thenQ, blockQ, if_true, if_false, Nat.reduceEqDiff, reduceCtorEq]) | (refine aw_exit ?_; try simp only [thenQ, blockQ, if_true, if_false, Nat.reduceEqDiff, reduceCtorEq]) | refine aw_ret ?_ | refine aw_block ?_ | refine aw_condT rfl ?_ | refine aw_condF rfl ?_ | (refine ag_bool (fun hg => ?_) (fun hg => ?_) <;> (try (have hq := hg; simp only [Bool.not_eq_true', Bool.not_eq_false', Bool.and_eq_true, Bool.and_eq_false_iff, Bool.or_eq_true, Bool.or_eq_false_iff, decide_eq_true_eq, decide_eq_false_iff_not, bne_iff_ne, beq_iff_eq, beq_eq_false_iff_ne, bne_eq_false_iff_eq, ne_eq, Int.not_lt, Int.not_le, Decidable.not_not] at hq)) <;> (try (have hr := hg; simp only [decide_eq_true_eq, decide_eq_false_iff_not] at hr)) <;> (try (exfalso; omega)) <;> simp (config := {maxSteps := 10000000}) (disch := first | exact okYes (by kernel_rfl) | omega) only [hr, decide_true, Bool.true_and, AG_tt, AOpRun, aexec, FSt.ev, St.F, ↓eget_h, AGo_ok, Nat.reduceAdd, St.app, putO, eput_c, Nat.reduceBEq, eput_n, cond_false, hups, List.map, ARun_some, eget_c, isSh, Bool.false_eq_true, ↓reduceIte, Option.map, abin, ARun_none, beq_self_eq_true, cond_true, ARun_nil, dropE_c, inL_c, inL_n, dropE_n, decide_false, Bool.false_and, AG_ft]) | ((first | refine aw_region ?_ | refine ago_if (by omega) ?_ | skip); simp (config := {maxSteps := 10000000}) (disch := first | exact okYes (by kernel_rfl) | omega) only [thenQ, List.map, List.length, Nat.zero_add, Nat.reduceMul, envOf, Nat.reduceAdd, ARun_none, AOpRun, aexec, FSt.ev, AGo_ok, St.app, putO, eput_c, Nat.reduceBEq, eput_n, cond_false, hups, ARun_nil, dropE_c, inL_n, dropE_n, St.F, ↓eget_h, eget_c, isSh, Bool.false_eq_true, ↓reduceIte, Option.map, abin, ge_iff_le, ARun_some])))
  all_goals (refine end_to [] [] (by first | exact .inl rfl | exact .inr rfl) rfl (by kernel_rfl) (by kernel_rfl) (by kernel_rfl) ?_ ?_ <;> repeat' (first | exact trivial | exact vr_val _))
/-- the error of a sling -/
def slE (s : Slg) : Int := if (wI s.den 1 4 && wI s.num 0 (2 * s.den) && wI s.damp 0 s.den) = true then 0 else 70
theorem slE_ok {s : Slg} (h : slE s = 0) : OkS s := by
  unfold slE at h
  split at h
  · rename_i hc
    simp only [wI, Bool.and_eq_true, decide_eq_true_eq] at hc
    exact ⟨by omega, by omega, by omega, by omega, by omega, by omega⟩
  · omega
set_option maxRecDepth 100000 in
set_option maxHeartbeats 1000000 in
theorem scheck_ac (s : Slg) : AC Try.prog 25 [slD s] [] [] (dI (slE s)) := by
  refine ksling_Check.ac (n0 := 0) (by simp) ⟨in_agg3 _ _ _ _, trivial⟩ trivial rfl ?_
  unfold csling_Check slD dI
  by_cases h1 : wI s.den 1 4 = true
  · have h2 := wI_t h1
    (have hg : (987654321 : Nat) - 987654321 = 0 := rfl; have hr := hg; repeat' (first | refine aw_seq ?_ | (refine aw_skip ?_; try simp only [thenQ, blockQ, if_true, if_false, Nat.reduceEqDiff, reduceCtorEq]) | (refine aw_exit ?_; try simp only [thenQ, blockQ, if_true, if_false, Nat.reduceEqDiff, reduceCtorEq]) | refine aw_ret ?_ | refine aw_block ?_ | refine aw_condT rfl ?_ | refine aw_condF rfl ?_ | (refine aw_cond rfl (fun hg => ?_) (fun hg => ?_) <;> (try (have hq := hg; simp only [Bool.not_eq_true', Bool.not_eq_false', Bool.and_eq_true, Bool.and_eq_false_iff, Bool.or_eq_true, Bool.or_eq_false_iff, decide_eq_true_eq, decide_eq_false_iff_not, bne_iff_ne, beq_iff_eq, beq_eq_false_iff_ne, bne_eq_false_iff_eq, ne_eq, Int.not_lt, Int.not_le, Decidable.not_not] at hq)) <;> (try (have hr := hg; simp only [decide_eq_true_eq, decide_eq_false_iff_not] at hr)) <;> (try (exfalso; omega))) | (refine ag_bool (fun hg => ?_) (fun hg => ?_) <;> (try (have hq := hg; simp only [Bool.not_eq_true', Bool.not_eq_false', Bool.and_eq_true, Bool.and_eq_false_iff, Bool.or_eq_true, Bool.or_eq_false_iff, decide_eq_true_eq, decide_eq_false_iff_not, bne_iff_ne, beq_iff_eq, beq_eq_false_iff_ne, bne_eq_false_iff_eq, ne_eq, Int.not_lt, Int.not_le, Decidable.not_not] at hq)) <;> (try (have hr := hg; simp only [decide_eq_true_eq, decide_eq_false_iff_not] at hr)) <;> (try (exfalso; omega)) <;> simp (config := {maxSteps := 10000000}) (disch := first | exact okYes (by kernel_rfl) | omega) only [hg, AG_tf, Nat.reduceAdd, St.app, putO, eput_c, Nat.reduceBEq, eput_n, cond_false, hups, ARun_some, eget_c, ↓eget_h, ARun_none, AOpRun, aexec, FSt.ev, St.F, ↓reduceIte, AGo_ok, List.map, ARun_nil, dropE_c, inL_c, inL_n, beq_self_eq_true, cond_true, dropE_n, AG_ff, Nat.zero_add, Option.map, run1, hget_c, hget_n, List.getElem?_cons_succ, List.getElem?_cons_zero]) | ((first | refine aw_region ?_ | refine acall0 (swithin_ac _ _ _) ?_ | refine ago_if (by omega) ?_ | skip); simp (config := {maxSteps := 10000000}) (disch := first | exact okYes (by kernel_rfl) | omega) only [thenQ, List.map, List.length, Nat.zero_add, Nat.reduceAdd, Nat.reduceMul, envOf, ARun_none, AOpRun, aexec, D.isBot, FSt.ev, St.F, ↓eget_h, Bool.false_eq_true, Option.isSome, hget_n, or_self, ↓reduceIte, D.cells, AGo_ok, St.app, putO, eput_c, Nat.reduceBEq, eput_n, cond_false, hups, hput_n, ARun_nil, dropE_c, inL_n, dropE_n, eget_c, Option.map, run1, hget_c, beq_self_eq_true, cond_true, List.getElem?_cons_succ, List.getElem?_cons_zero, dB, h1, Bool.not_true, ARun_some, AG_ff, isSh, abin, fits, inL_c, hg])))
    all_goals (refine end_to [] [] (by first | exact .inl rfl | exact .inr rfl) rfl (by kernel_rfl) (by kernel_rfl) (by kernel_rfl) ?_ ?_ <;> repeat' (first | exact trivial | refine vr_valq ?_))
    all_goals (unfold slE; simp_all)
  · have h2 : wI s.den 1 4 = false := by simpa using h1
    (have hg : (987654321 : Nat) - 987654321 = 0 := rfl; have hr := hg; repeat' (first | refine aw_seq ?_ | (refine aw_skip ?_; try simp only [thenQ, blockQ, if_true, if_false, Nat.reduceEqDiff, reduceCtorEq]) | (refine aw_exit ?_; try simp only [thenQ, blockQ, if_true, if_false, Nat.reduceEqDiff, reduceCtorEq]) | refine aw_ret ?_ | refine aw_block ?_ | refine aw_condT rfl ?_ | refine aw_condF rfl ?_ | ((first | refine aw_region ?_ | refine acall0 (swithin_ac _ _ _) ?_ | refine ago_if (by omega) ?_ | skip); simp (config := {maxSteps := 10000000}) (disch := first | exact okYes (by kernel_rfl) | omega) only [thenQ, List.map, List.length, Nat.zero_add, Nat.reduceAdd, Nat.reduceMul, envOf, ARun_none, AOpRun, aexec, D.isBot, FSt.ev, St.F, ↓eget_h, Bool.false_eq_true, Option.isSome, hget_n, or_self, ↓reduceIte, D.cells, AGo_ok, St.app, putO, eput_c, Nat.reduceBEq, eput_n, cond_false, hups, hput_n, ARun_nil, dropE_c, inL_n, dropE_n, eget_c, Option.map, run1, hget_c, beq_self_eq_true, cond_true, List.getElem?_cons_succ, List.getElem?_cons_zero, dB, h2, Bool.not_false, ARun_some, AG_tf, inL_c])))
    all_goals (refine end_to [] [] (by first | exact .inl rfl | exact .inr rfl) rfl (by kernel_rfl) (by kernel_rfl) (by kernel_rfl) ?_ ?_ <;> repeat' (first | exact trivial | refine vr_valq ?_))
    all_goals (unfold slE; simp_all)
set_option maxRecDepth 100000 in
set_option maxHeartbeats 1000000 in
theorem rcheck7_ac (s : Slg) : AC Try.prog 17 [slD s] [] [] (dI (slE s)) := by
  refine kref07_Check.ac (n0 := 0) (by simp) ⟨in_agg3 _ _ _ _, trivial⟩ trivial rfl ?_
  unfold cref07_Check slD dI
  by_cases h1 : wI s.den 1 4 = true
  · have h2 := wI_t h1
    (have hg : (987654321 : Nat) - 987654321 = 0 := rfl; have hr := hg; repeat' (first | refine aw_seq ?_ | (refine aw_skip ?_; try simp only [thenQ, blockQ, if_true, if_false, Nat.reduceEqDiff, reduceCtorEq]) | (refine aw_exit ?_; try simp only [thenQ, blockQ, if_true, if_false, Nat.reduceEqDiff, reduceCtorEq]) | refine aw_ret ?_ | refine aw_block ?_ | refine aw_condT rfl ?_ | refine aw_condF rfl ?_ | (refine aw_cond rfl (fun hg => ?_) (fun hg => ?_) <;> (try (have hq := hg; simp only [Bool.not_eq_true', Bool.not_eq_false', Bool.and_eq_true, Bool.and_eq_false_iff, Bool.or_eq_true, Bool.or_eq_false_iff, decide_eq_true_eq, decide_eq_false_iff_not, bne_iff_ne, beq_iff_eq, beq_eq_false_iff_ne, bne_eq_false_iff_eq, ne_eq, Int.not_lt, Int.not_le, Decidable.not_not] at hq)) <;> (try (have hr := hg; simp only [decide_eq_true_eq, decide_eq_false_iff_not] at hr)) <;> (try (exfalso; omega))) | (refine ag_bool (fun hg => ?_) (fun hg => ?_) <;> (try (have hq := hg; simp only [Bool.not_eq_true', Bool.not_eq_false', Bool.and_eq_true, Bool.and_eq_false_iff, Bool.or_eq_true, Bool.or_eq_false_iff, decide_eq_true_eq, decide_eq_false_iff_not, bne_iff_ne, beq_iff_eq, beq_eq_false_iff_ne, bne_eq_false_iff_eq, ne_eq, Int.not_lt, Int.not_le, Decidable.not_not] at hq)) <;> (try (have hr := hg; simp only [decide_eq_true_eq, decide_eq_false_iff_not] at hr)) <;> (try (exfalso; omega)) <;> simp (config := {maxSteps := 10000000}) (disch := first | exact okYes (by kernel_rfl) | omega) only [hg, AG_tf, Nat.reduceAdd, St.app, putO, eput_c, Nat.reduceBEq, eput_n, cond_false, hups, ARun_some, eget_c, ↓eget_h, ARun_none, AOpRun, aexec, FSt.ev, St.F, ↓reduceIte, AGo_ok, List.map, ARun_nil, dropE_c, inL_c, inL_n, beq_self_eq_true, cond_true, dropE_n, AG_ff, Nat.zero_add, Option.map, run1, hget_c, hget_n, List.getElem?_cons_succ, List.getElem?_cons_zero]) | ((first | refine aw_region ?_ | refine acall0 (rwithin_ac _ _ _) ?_ | refine ago_if (by omega) ?_ | skip); simp (config := {maxSteps := 10000000}) (disch := first | exact okYes (by kernel_rfl) | omega) only [thenQ, List.map, List.length, Nat.zero_add, Nat.reduceAdd, Nat.reduceMul, envOf, ARun_none, AOpRun, aexec, D.isBot, FSt.ev, St.F, ↓eget_h, Bool.false_eq_true, Option.isSome, hget_n, or_self, ↓reduceIte, D.cells, AGo_ok, St.app, putO, eput_c, Nat.reduceBEq, eput_n, cond_false, hups, hput_n, ARun_nil, dropE_c, inL_n, dropE_n, eget_c, Option.map, run1, hget_c, beq_self_eq_true, cond_true, List.getElem?_cons_succ, List.getElem?_cons_zero, dB, h1, Bool.not_true, ARun_some, AG_ff, isSh, abin, fits, inL_c, hg])))
    all_goals (refine end_to [] [] (by first | exact .inl rfl | exact .inr rfl) rfl (by kernel_rfl) (by kernel_rfl) (by kernel_rfl) ?_ ?_ <;> repeat' (first | exact trivial | refine vr_valq ?_))
    all_goals (unfold slE; simp_all)
  · have h2 : wI s.den 1 4 = false := by simpa using h1
    (have hg : (987654321 : Nat) - 987654321 = 0 := rfl; have hr := hg; repeat' (first | refine aw_seq ?_ | (refine aw_skip ?_; try simp only [thenQ, blockQ, if_true, if_false, Nat.reduceEqDiff, reduceCtorEq]) | (refine aw_exit ?_; try simp only [thenQ, blockQ, if_true, if_false, Nat.reduceEqDiff, reduceCtorEq]) | refine aw_ret ?_ | refine aw_block ?_ | refine aw_condT rfl ?_ | refine aw_condF rfl ?_ | ((first | refine aw_region ?_ | refine acall0 (rwithin_ac _ _ _) ?_ | refine ago_if (by omega) ?_ | skip); simp (config := {maxSteps := 10000000}) (disch := first | exact okYes (by kernel_rfl) | omega) only [thenQ, List.map, List.length, Nat.zero_add, Nat.reduceAdd, Nat.reduceMul, envOf, ARun_none, AOpRun, aexec, D.isBot, FSt.ev, St.F, ↓eget_h, Bool.false_eq_true, Option.isSome, hget_n, or_self, ↓reduceIte, D.cells, AGo_ok, St.app, putO, eput_c, Nat.reduceBEq, eput_n, cond_false, hups, hput_n, ARun_nil, dropE_c, inL_n, dropE_n, eget_c, Option.map, run1, hget_c, beq_self_eq_true, cond_true, List.getElem?_cons_succ, List.getElem?_cons_zero, dB, h2, Bool.not_false, ARun_some, AG_tf, inL_c])))
    all_goals (refine end_to [] [] (by first | exact .inl rfl | exact .inr rfl) rfl (by kernel_rfl) (by kernel_rfl) (by kernel_rfl) ?_ ?_ <;> repeat' (first | exact trivial | refine vr_valq ?_))
    all_goals (unfold slE; simp_all)
def stB (x : Int × Int) : Bool := wI x.1 (-1000) 1000 && wI x.2 (-1000) 1000
set_option maxRecDepth 100000 in
set_option maxHeartbeats 1000000 in
theorem started_ac (x : Int × Int) : AC Try.prog 50 [spD x] [] [] (dB (stB x)) := by
  refine ksling_started.ac (n0 := 0) (by simp) ⟨in_agg2 _ _ _, trivial⟩ trivial rfl ?_
  unfold csling_started spD stB
  (have hg : (987654321 : Nat) - 987654321 = 0 := rfl; have hr := hg; repeat' (first | refine aw_seq ?_ | (refine aw_skip ?_; try simp only [thenQ, blockQ, if_true, if_false, Nat.reduceEqDiff, reduceCtorEq]) | (refine aw_exit ?_; try simp only [thenQ, blockQ, if_true, if_false, Nat.reduceEqDiff, reduceCtorEq]) | refine aw_ret ?_ | refine aw_block ?_ | refine aw_condT rfl ?_ | refine aw_condF rfl ?_ | (refine ag_bool (fun hg => ?_) (fun hg => ?_) <;> (try (have hq := hg; simp only [Bool.not_eq_true', Bool.not_eq_false', Bool.and_eq_true, Bool.and_eq_false_iff, Bool.or_eq_true, Bool.or_eq_false_iff, decide_eq_true_eq, decide_eq_false_iff_not, bne_iff_ne, beq_iff_eq, beq_eq_false_iff_ne, bne_eq_false_iff_eq, ne_eq, Int.not_lt, Int.not_le, Decidable.not_not] at hq)) <;> (try (have hr := hg; simp only [decide_eq_true_eq, decide_eq_false_iff_not] at hr)) <;> (try (exfalso; omega)) <;> simp (config := {maxSteps := 10000000}) (disch := first | exact okYes (by kernel_rfl) | omega) only [Int.reduceNeg, hg, Bool.true_and, AG_tt, AOpRun, aexec, FSt.ev, St.F, eget_c, Nat.reduceBEq, ↓eget_h, cond_false, Int.reduceLE, cast_lit, Int.reduceLT, and_self, ↓reduceIte, Int.reduceToNat, Nat.reduceMul, Nat.zero_add, AGo_ok, Nat.reduceAdd, St.app, putO, eput_c, eput_n, hups, List.map, ARun_some, Option.map, run1, hget_c, beq_self_eq_true, hget_n, cond_true, List.getElem?_cons_succ, List.getElem?_cons_zero, Bool.false_and, AG_ft, ARun_none, Bool.false_eq_true, ARun_nil, dropE_c, inL_c, inL_n, dropE_n]) | ((first | refine aw_region ?_ | refine acall0 (swithin_ac _ _ _) ?_ | refine ago_if (by omega) ?_ | skip); simp (config := {maxSteps := 10000000}) (disch := first | exact okYes (by kernel_rfl) | omega) only [thenQ, List.map, Int.reduceNeg, dB, List.length, Nat.zero_add, Nat.reduceAdd, Nat.reduceMul, envOf, ARun_none, AOpRun, aexec, D.isBot, FSt.ev, St.F, ↓eget_h, Bool.false_eq_true, Option.isSome, hget_n, or_self, ↓reduceIte, D.cells, AGo_ok, St.app, putO, eput_c, Nat.reduceBEq, eput_n, cond_false, hups, hput_n, ARun_nil, dropE_c, inL_n, dropE_n, eget_c, Int.le_refl, cast_lit, Int.reduceLT, and_self, Int.toNat_zero, Option.map, run1, hget_c, beq_self_eq_true, cond_true, List.getElem?_cons_zero, ARun_some, inL_c])))
  all_goals (refine end_to [] [] (by first | exact .inl rfl | exact .inr rfl) rfl (by kernel_rfl) (by kernel_rfl) (by kernel_rfl) ?_ ?_ <;> repeat' (first | exact trivial | exact vr_val _))
set_option maxRecDepth 100000 in
set_option maxHeartbeats 1000000 in
theorem s1_ac (g : Int) : AC Try.prog 52 [dI g] [] [] (dB (!wI g (-100) 100)) := by
  refine ksling_Swing_S1.ac (n0 := 0) (by simp) ⟨.val _, trivial⟩ trivial rfl ?_
  unfold csling_Swing_S1
  (have hg : (987654321 : Nat) - 987654321 = 0 := rfl; have hr := hg; repeat' (first | refine aw_seq ?_ | (refine aw_skip ?_; try simp only [thenQ, blockQ, if_true, if_false, Nat.reduceEqDiff, reduceCtorEq]) | (refine aw_exit ?_; try simp only [thenQ, blockQ, if_true, if_false, Nat.reduceEqDiff, reduceCtorEq]) | refine aw_ret ?_ | refine aw_block ?_ | refine aw_condT rfl ?_ | refine aw_condF rfl ?_ | ((first | refine aw_region ?_ | refine acall0 (swithin_ac _ _ _) ?_ | refine ago_if (by omega) ?_ | skip); simp (config := {maxSteps := 10000000}) (disch := first | exact okYes (by kernel_rfl) | omega) only [thenQ, List.map, Int.reduceNeg, dB, List.length, Nat.zero_add, Nat.reduceMul, envOf, dI, ARun_none, AOpRun, aexec, FSt.ev, AGo_ok, St.app, putO, eput_c, Nat.reduceBEq, eput_n, cond_false, hups, ARun_nil, dropE_c, inL_n, dropE_n, Nat.reduceAdd, St.F, ↓eget_h, eget_c, beq_self_eq_true, cond_true, inL_c])))
  all_goals (refine end_to [] [] (by first | exact .inl rfl | exact .inr rfl) rfl (by kernel_rfl) (by kernel_rfl) (by kernel_rfl) ?_ ?_ <;> repeat' (first | exact trivial | exact vr_val _))
set_option maxRecDepth 100000 in
set_option maxHeartbeats 1000000 in
theorem inside7_ac (x : Int × Int) (m : Int) (hm : 0 ≤ m ∧ m ≤ 1000000) : AC Try.prog 108 [spD x, dI m] [] [] (dB (decide (-m ≤ x.1) && decide (x.2 ≤ m))) := by
  refine kref07_inside.ac (n0 := 0) (by simp) ⟨in_agg2 _ _ _, .val _, trivial⟩ trivial rfl ?_
  unfold cref07_inside spD
  (have hg : (987654321 : Nat) - 987654321 = 0 := rfl; have hr := hg; repeat' (first | refine aw_seq ?_ | (refine aw_skip ?_; try simp only [thenQ, blockQ, if_true, if_false, Nat.reduceEqDiff, reduceCtorEq]) | (refine aw_exit ?_; try simp only [thenQ, blockQ, if_true, if_false, Nat.reduceEqDiff, reduceCtorEq]) | refine aw_ret ?_ | refine aw_block ?_ | refine aw_condT rfl ?_ | refine aw_condF rfl ?_ | (refine ag_bool (fun hg => ?_) (fun hg => ?_) <;> (try (have hq := hg; simp only [Bool.not_eq_true', Bool.not_eq_false', Bool.and_eq_true, Bool.and_eq_false_iff, Bool.or_eq_true, Bool.or_eq_false_iff, decide_eq_true_eq, decide_eq_false_iff_not, bne_iff_ne, beq_iff_eq, beq_eq_false_iff_ne, bne_eq_false_iff_eq, ne_eq, Int.not_lt, Int.not_le, Decidable.not_not] at hq)) <;> (try (have hr := hg; simp only [decide_eq_true_eq, decide_eq_false_iff_not] at hr)) <;> (try (exfalso; omega)) <;> simp (config := {maxSteps := 10000000}) (disch := first | exact okYes (by kernel_rfl) | omega) only [hr, decide_true, Bool.true_and, AG_tt, AOpRun, aexec, FSt.ev, St.F, eget_c, Nat.reduceBEq, ↓eget_h, cond_false, Nat.zero_add, AGo_ok, Nat.reduceAdd, St.app, putO, eput_c, eput_n, hups, List.map, ARun_some, Option.map, run1, hget_c, beq_self_eq_true, hget_n, cond_true, List.getElem?_cons_succ, List.getElem?_cons_zero, isSh, Bool.false_eq_true, ↓reduceIte, abin, ARun_none, ARun_nil, dropE_c, inL_c, inL_n, dropE_n, decide_false, Bool.false_and, AG_ft]) | ((first | refine aw_region ?_ | refine ago_if (by omega) ?_ | skip); simp (config := {maxSteps := 10000000}) (disch := first | exact okYes (by kernel_rfl) | omega) only [thenQ, List.map, dB, List.length, Nat.zero_add, Nat.reduceAdd, Nat.reduceMul, envOf, dI, ARun_none, AOpRun, aexec, D.isBot, FSt.ev, St.F, ↓eget_h, Bool.false_eq_true, Option.isSome, hget_n, or_self, ↓reduceIte, D.cells, AGo_ok, St.app, putO, eput_c, Nat.reduceBEq, eput_n, cond_false, hups, hput_n, ARun_nil, dropE_c, inL_n, dropE_n, eget_c, Option.map, run1, hget_c, beq_self_eq_true, cond_true, List.getElem?_cons_zero, Int.zero_sub, fits, isSh, abin, ge_iff_le, ARun_some])))
  all_goals (refine end_to [] [] (by first | exact .inl rfl | exact .inr rfl) rfl (by kernel_rfl) (by kernel_rfl) (by kernel_rfl) ?_ ?_ <;> repeat' (first | exact trivial | exact vr_val _))
set_option maxRecDepth 100000 in
set_option maxHeartbeats 1000000 in
theorem fraction_ac (x : Int × Int) : AC Try.prog 18 [spD x] [] [] (dB (decide (x.2 > 0))) := by
  refine klaw07_fraction.ac (n0 := 0) (by simp) ⟨in_agg2 _ _ _, trivial⟩ trivial rfl ?_
  unfold claw07_fraction spD
  (have hg : (987654321 : Nat) - 987654321 = 0 := rfl; have hr := hg; repeat' (first | refine aw_seq ?_ | (refine aw_skip ?_; try simp only [thenQ, blockQ, if_true, if_false, Nat.reduceEqDiff, reduceCtorEq]) | (refine aw_exit ?_; try simp only [thenQ, blockQ, if_true, if_false, Nat.reduceEqDiff, reduceCtorEq]) | refine aw_ret ?_ | refine aw_block ?_ | refine aw_condT rfl ?_ | refine aw_condF rfl ?_ | ((first | refine aw_region ?_ | refine ago_if (by omega) ?_ | skip); simp (config := {maxSteps := 10000000}) (disch := first | exact okYes (by kernel_rfl) | omega) only [thenQ, List.map, dB, List.length, Nat.zero_add, Nat.reduceAdd, Nat.reduceMul, envOf, ARun_none, AOpRun, aexec, D.isBot, FSt.ev, St.F, ↓eget_h, Bool.false_eq_true, Option.isSome, hget_n, or_self, ↓reduceIte, D.cells, AGo_ok, St.app, putO, eput_c, Nat.reduceBEq, eput_n, cond_false, hups, hput_n, ARun_nil, dropE_c, inL_n, dropE_n, eget_c, Int.reduceLE, cast_lit, Int.reduceLT, and_self, Int.reduceToNat, Option.map, run1, hget_c, beq_self_eq_true, cond_true, List.getElem?_cons_succ, List.getElem?_cons_zero, isSh, abin, inL_c])))
  all_goals (refine end_to [] [] (by first | exact .inl rfl | exact .inr rfl) rfl (by kernel_rfl) (by kernel_rfl) (by kernel_rfl) ?_ ?_ <;> repeat' (first | exact trivial | exact vr_val _))
theorem mul_bnd {x y a b : Int} (h1 : -a ≤ x) (h2 : x ≤ a) (h3 : -b ≤ y) (h4 : y ≤ b) : -(a * b) ≤ x * y ∧ x * y ≤ a * b := by
  have k1 := Int.mul_nonneg (by omega : 0 ≤ a - x) (by omega : 0 ≤ b - y)
  have k2 := Int.mul_nonneg (by omega : 0 ≤ a + x) (by omega : 0 ≤ b + y)
  have k3 := Int.mul_nonneg (by omega : 0 ≤ a - x) (by omega : 0 ≤ b + y)
  have k4 := Int.mul_nonneg (by omega : 0 ≤ a + x) (by omega : 0 ≤ b - y)
  simp only [Int.sub_mul, Int.add_mul, Int.mul_sub, Int.mul_add] at k1 k2 k3 k4
  omega
def ldC (s : Slg) (x : Int × Int × Int) : List D := [dI s.num, dI s.damp, dI s.den, dI x.1, dI x.2.1, dI x.2.2]
structure Small (x : Int × Int × Int) : Prop where
  a1 : -capN ≤ x.1
  a2 : x.1 ≤ capN
  v1 : -capN ≤ x.2.1
  v2 : x.2.1 ≤ capN
  d1 : 1 ≤ x.2.2
  d2 : x.2.2 ≤ 4294967296
theorem ldC_in (s : Slg) (x : Int × Int × Int) : ∀ d ∈ ldC s x, In (· < 8) d := by
  intro d hd
  simp only [ldC, List.mem_cons, List.not_mem_nil, or_false] at hd
  rcases hd with rfl | rfl | rfl | rfl | rfl | rfl <;> exact .val _
set_option maxRecDepth 100000 in
set_option maxHeartbeats 1000000 in
theorem tick_ac (s : Slg) (x : Int × Int × Int) (g : Int) (hs : OkS s) (hx : Small x) (g1 : -100 ≤ g) (g2 : g ≤ 100) : AC Try.prog 54 [.ptr 0 0, dI g] [(0, ldC s x)] [(0, some (ldC s (tk s x g)))] (.tup []) := by
  obtain ⟨a, v, d⟩ := x
  obtain ⟨a1, a2, v1, v2, d1, d2⟩ := hx
  obtain ⟨s1, s2, s3, s4, s5, s6⟩ := hs
  obtain ⟨num, damp, den⟩ := s
  simp only at a1 a2 v1 v2 d1 d2 s1 s2 s3 s4 s5 s6
  have hcap : capN = 1000000000000000 := rfl
  have m1 := mul_bnd (x := d) (y := den) (a := 4294967296) (b := 4) (by omega) (by omega) (by omega) (by omega)
  have m2 := mul_bnd (x := den) (y := v) (a := 4) (b := capN) (by omega) (by omega) (by omega) (by omega)
  have m3 := mul_bnd (x := num) (y := a) (a := 8) (b := capN) (by omega) (by omega) (by omega) (by omega)
  have m4 := mul_bnd (x := damp) (y := v) (a := 4) (b := capN) (by omega) (by omega) (by omega) (by omega)
  have m5 := mul_bnd (x := g) (y := d * den) (a := 100) (b := 4294967296 * 4) (by omega) (by omega) (by omega) (by omega)
  have m6 := mul_bnd (x := den) (y := a) (a := 4) (b := capN) (by omega) (by omega) (by omega) (by omega)
  refine kpsling_load_tick.ac (n0 := 8) (by simp) ⟨.ptr _ _ (by omega), .val _, trivial⟩ ⟨⟨by omega, ldC_in _ _⟩, trivial⟩ rfl ?_
  unfold cpsling_load_tick ldC dI tk
  (have hg : (987654321 : Nat) - 987654321 = 0 := rfl; have hr := hg; repeat' (first | refine aw_seq ?_ | (refine aw_skip ?_; try simp only [thenQ, blockQ, if_true, if_false, Nat.reduceEqDiff, reduceCtorEq]) | (refine aw_exit ?_; try simp only [thenQ, blockQ, if_true, if_false, Nat.reduceEqDiff, reduceCtorEq]) | refine aw_ret ?_ | refine aw_block ?_ | refine aw_condT rfl ?_ | refine aw_condF rfl ?_ | ((first | refine aw_region ?_ | refine ago_if (by omega) ?_ | skip); simp (config := {maxSteps := 10000000}) (disch := first | exact okYes (by kernel_rfl) | omega) only [thenQ, List.map, List.length, Nat.zero_add, Nat.reduceAdd, Nat.reduceMul, envOf, ARun_none, AOpRun, aexec, FSt.ev, St.F, ↓eget_h, AGo_ok, St.app, putO, eput_c, Nat.reduceBEq, eput_n, cond_false, hups, eget_c, Option.map, run1, hget_c, beq_self_eq_true, hget_n, cond_true, List.getElem?_cons_succ, List.getElem?_cons_zero, isSh, Bool.false_eq_true, ↓reduceIte, abin, fits, D.isBot, D.cells, Nat.reduceLeDiff, List.all, D.leaf, Bool.and_true, and_self, splice, List.take, List.cons_append, List.nil_append, List.drop, List.append_nil, hput_c, hput_n, ARun_nil, dropE_c, inL_c, inL_n, dropE_n])))
  refine end_to [] [(0, 0)] (by first | exact .inl rfl | exact .inr rfl) rfl (by kernel_rfl) (by kernel_rfl) (by kernel_rfl) ?_ ?_ <;> repeat' (first | exact trivial | exact vr_val _ | apply vr_tup | refine And.intro ⟨_, rfl, _, rfl, by decide, ?_⟩ ?_ | apply And.intro)
set_option maxRecDepth 100000 in
set_option maxHeartbeats 1000000 in
theorem lowest_ac (num den : Int) (h1 : -4000000000000000000 ≤ num) (h2 : num ≤ 4000000000000000000) (h3 : 1 ≤ den) (h4 : den ≤ 4000000000000000000) : AC Try.prog 80 [dI num, dI den] [] [] (spD (lowF num den)) := by
  refine ksling_lowest.ac (n0 := 0) (by simp) ⟨.val _, .val _, trivial⟩ trivial rfl ?_
  unfold csling_lowest dI
  (have hg : (987654321 : Nat) - 987654321 = 0 := rfl; have hr := hg; repeat' (first | refine aw_seq ?_ | (refine aw_skip ?_; try simp only [thenQ, blockQ, if_true, if_false, Nat.reduceEqDiff, reduceCtorEq]) | (refine aw_exit ?_; try simp only [thenQ, blockQ, if_true, if_false, Nat.reduceEqDiff, reduceCtorEq]) | refine aw_ret ?_ | refine aw_block ?_ | refine aw_condT rfl ?_ | refine aw_condF rfl ?_ | ((first | refine aw_region ?_ | refine ago_if (by omega) ?_ | skip); simp (config := {maxSteps := 10000000}) (disch := first | exact okYes (by kernel_rfl) | omega) only [thenQ, List.map, List.length, Nat.zero_add, Nat.reduceMul, envOf, ARun_none, AOpRun, aexec, Option.isSome, hget_n, Bool.false_eq_true, ↓reduceIte, AGo_ok, St.app, putO, eput_c, Nat.reduceBEq, eput_n, cond_false, hups, hput_n, ARun_nil, dropE_c, inL_n, dropE_n, Nat.reduceAdd, FSt.ev, St.F, ↓eget_h, eget_c, Int.zero_sub, fits, Option.map, foldI, mx2, inL_c, beq_self_eq_true, cond_true])))
  have hst := gcd_start num den
  have hgp := gc_pos (num := num) h3
  have q1 := lowF_num (num := num) (B := 4000000000000000000) h3 (by omega) (by omega)
  have q2 := lowF_den (num := num) h3
  have e1 := tdiv_num num den
  have e2 := tdiv_den num den
  unfold lowF at q1 q2 ⊢
  simp only at q1 q2
  rw [← e1] at q1 ⊢
  rw [← e2] at q2 ⊢
  refine aw_loop (fun p : Int × Int => ⟨[(0, dI num), (1, dI den), (4, .ptr 0 0), (5, dI p.1), (6, dI p.2)], [(0, [dI 0, dI 0])], 400⟩) (fun p => 0 ≤ p.1 ∧ 0 ≤ p.2 ∧ Int.gcd p.1 p.2 = Int.gcd num den) (fun p => p.2.toNat) ⟨(if -num > num then -num else num, den), ⟨by simp only; split <;> omega, by simp only; omega, hst⟩, ?_⟩ ?_
  · refine wk_to [] [(0, 0)] (by kernel_rfl) (by kernel_rfl) (by kernel_rfl) (by kernel_rfl) (by kernel_rfl) ?_ ?_ <;> repeat' (first | exact trivial | exact vr_val _ | exact vr_ptr _ _ _ rfl | refine And.intro ⟨_, rfl, .inl ⟨_, rfl, by decide, ?_⟩⟩ ?_ | apply And.intro)
  · rintro ⟨a, b⟩ ⟨ha, hb, hgc⟩
    simp only at ha hb hgc
    rcases (by omega : b = 0 ∨ 0 < b) with rfl | hb
    · have hag : a = gc num den := by
        have := gcd_end ha
        rw [hgc] at this
        exact this.symm
      subst hag
      have hne : ¬ gc num den = 0 := by omega
      (have hg : (987654321 : Nat) - 987654321 = 0 := rfl; have hr := hg; repeat' (first | refine aw_seq ?_ | (refine aw_skip ?_; try simp only [thenQ, blockQ, if_true, if_false, Nat.reduceEqDiff, reduceCtorEq]) | (refine aw_exit ?_; try simp only [thenQ, blockQ, if_true, if_false, Nat.reduceEqDiff, reduceCtorEq]) | refine aw_ret ?_ | refine aw_block ?_ | refine aw_condT rfl ?_ | refine aw_condF rfl ?_ | ((first | refine aw_region ?_ | refine ago_if (by omega) ?_ | skip); simp (config := {maxSteps := 10000000}) (disch := first | exact okYes (by kernel_rfl) | omega) only [thenQ, Int.toNat_zero, dI, List.length, Nat.zero_add, Nat.reduceAdd, Nat.reduceMul, ARun_none, AOpRun, aexec, FSt.ev, St.F, eget_c, Nat.reduceBEq, ↓eget_h, cond_false, AGo_ok, St.app, putO, eput_c, eput_n, hups, List.map, isSh, Bool.false_eq_true, ↓reduceIte, Option.map, abin, ARun_nil, dropE_c, inL_c, inL_n, beq_self_eq_true, cond_true, dropE_n, hne, fits, fillD, D.isBot, D.cells, ne_eq, not_true_eq_false, Nat.reduceGT, or_self, splice, List.take, List.nil_append, List.drop, List.cons_append, List.append_nil, hget_c, hget_n, Nat.reduceLeDiff, List.all, D.leaf, Bool.and_true, and_self, hput_c, hput_n])))
      all_goals (refine end_to [] [] (by first | exact .inl rfl | exact .inr rfl) rfl (by kernel_rfl) (by kernel_rfl) (by kernel_rfl) ?_ ?_ <;> repeat' (first | exact trivial | exact vr_val _ | apply vr_agg | apply And.intro))
    · have hne : ¬ b = 0 := by omega
      have r1 := Int.emod_nonneg a hne
      have r2 := Int.emod_lt_of_pos a hb
      (have hg : (987654321 : Nat) - 987654321 = 0 := rfl; have hr := hg; repeat' (first | refine aw_seq ?_ | (refine aw_skip ?_; try simp only [thenQ, blockQ, if_true, if_false, Nat.reduceEqDiff, reduceCtorEq]) | (refine aw_exit ?_; try simp only [thenQ, blockQ, if_true, if_false, Nat.reduceEqDiff, reduceCtorEq]) | refine aw_ret ?_ | refine aw_block ?_ | refine aw_condT rfl ?_ | refine aw_condF rfl ?_ | (refine aw_cond rfl (fun hg => ?_) (fun hg => ?_) <;> (try (have hq := hg; simp only [Bool.not_eq_true', Bool.not_eq_false', Bool.and_eq_true, Bool.and_eq_false_iff, Bool.or_eq_true, Bool.or_eq_false_iff, decide_eq_true_eq, decide_eq_false_iff_not, bne_iff_ne, beq_iff_eq, beq_eq_false_iff_ne, bne_eq_false_iff_eq, ne_eq, Int.not_lt, Int.not_le, Decidable.not_not] at hq)) <;> (try (have hr := hg; simp only [decide_eq_true_eq, decide_eq_false_iff_not] at hr)) <;> (try (exfalso; omega))) | ((first | refine aw_region ?_ | refine ago_if (by omega) ?_ | skip); simp (config := {maxSteps := 10000000}) (disch := first | exact okYes (by kernel_rfl) | omega) only [thenQ, dI, List.length, Nat.zero_add, Nat.reduceAdd, Nat.reduceMul, ARun_none, AOpRun, aexec, FSt.ev, St.F, eget_c, Nat.reduceBEq, ↓eget_h, cond_false, AGo_ok, St.app, putO, eput_c, eput_n, hups, List.map, isSh, Bool.false_eq_true, ↓reduceIte, Option.map, abin, ARun_nil, dropE_c, inL_c, inL_n, beq_self_eq_true, cond_true, dropE_n, blockQ, hr, decide_true, hne, Int.tmod_eq_emod_of_nonneg])))
      exact ⟨(b, a % b), ⟨by simp only; omega, r1, by rw [← hgc]; exact gcd_step⟩, by simp only; omega, by refine wk_to [] [(0, 0)] (by kernel_rfl) (by kernel_rfl) (by kernel_rfl) (by kernel_rfl) (by kernel_rfl) ?_ ?_ <;> repeat' (first | exact trivial | exact vr_val _ | exact vr_ptr _ _ _ rfl | refine And.intro ⟨_, rfl, .inl ⟨_, rfl, by decide, ?_⟩⟩ ?_ | apply And.intro)⟩
end Go.Proofs.Ythohcimmoobaoaa
/- sling: fractions and lists. No conditions. -/
set_option linter.unusedSimpArgs false
set_option linter.unusedVariables false
namespace Go.Proofs.Ythohcimmoobaoaa
open Go.RowKit Lift

set_option maxRecDepth 100000 in
set_option maxHeartbeats 1000000 in
theorem place_ac (s : Slg) (x : Int × Int × Int) (hx : Small x) : AC Try.prog 55 [.ptr 0 0] [(0, ldC s x)] [(0, some (ldC s x))] (spD (lowF x.1 x.2.2)) := by
  obtain ⟨a1, a2, v1, v2, d1, d2⟩ := hx
  have hcap : capN = 1000000000000000 := rfl
  refine kpsling_load_place.ac (n0 := 8) (by simp) ⟨.ptr _ _ (by omega), trivial⟩ ⟨⟨by omega, ldC_in _ _⟩, trivial⟩ rfl ?_
  unfold cpsling_load_place ldC
  (have hg : (987654321 : Nat) - 987654321 = 0 := rfl; have hr := hg; repeat' (first | refine aw_seq ?_ | (refine aw_skip ?_; try simp only [thenQ, blockQ, if_true, if_false, Nat.reduceEqDiff, reduceCtorEq]) | (refine aw_exit ?_; try simp only [thenQ, blockQ, if_true, if_false, Nat.reduceEqDiff, reduceCtorEq]) | refine aw_ret ?_ | refine aw_block ?_ | refine aw_condT rfl ?_ | refine aw_condF rfl ?_ | ((first | refine aw_region ?_ | refine acall0 (lowest_ac x.1 x.2.2 (by omega) (by omega) (by omega) (by omega)) ?_ | refine ago_if (by omega) ?_ | skip); simp (config := {maxSteps := 10000000}) (disch := first | exact okYes (by kernel_rfl) | omega) only [thenQ, List.map, spD, List.length, Nat.zero_add, Nat.reduceMul, Nat.reduceAdd, envOf, ARun_none, AOpRun, aexec, Option.isSome, hget_c, Nat.reduceBEq, hget_n, cond_false, Bool.false_eq_true, ↓reduceIte, AGo_ok, St.app, putO, eput_c, eput_n, hups, hput_c, hput_n, ARun_nil, dropE_c, inL_n, dropE_n, FSt.ev, St.F, ↓eget_h, eget_c, Option.map, run1, beq_self_eq_true, cond_true, List.getElem?_cons_succ, List.getElem?_cons_zero, ↓hget_h, D.isBot, D.cells, Nat.reduceLeDiff, List.all, D.leaf, Bool.and_true, and_self, splice, List.take, List.nil_append, List.drop, List.append_nil, inL_c])))
  all_goals (refine end_to [] [(0, 0)] (by first | exact .inl rfl | exact .inr rfl) rfl (by kernel_rfl) (by kernel_rfl) (by kernel_rfl) ?_ ?_ <;> repeat' (first | exact trivial | exact vr_val _ | apply vr_agg | refine And.intro ⟨_, rfl, _, rfl, by decide, ?_⟩ ?_ | apply And.intro))
theorem fl_go (n d : Int) (h : 1 ≤ d) : (if n.tmod d < 0 then n.tdiv d - 1 else n.tdiv d) = n / d := by
  have e := Int.mul_ediv_add_emod n d
  have m1 := Int.emod_nonneg n (by omega : d ≠ 0)
  have m2 := Int.emod_lt_of_pos n (by omega : 0 < d)
  have t := Int.mul_tdiv_add_tmod n d
  by_cases hn : 0 ≤ n
  · rw [Int.tmod_eq_emod_of_nonneg hn, Int.tdiv_eq_ediv_of_nonneg hn, if_neg (by omega)]
  · by_cases hz : n % d = 0
    · have hd : d ∣ n := Int.dvd_of_emod_eq_zero hz
      rw [Int.tdiv_eq_ediv_of_dvd hd, if_neg]
      have : n.tmod d = 0 := by
        have e2 : n.tdiv d = n / d := Int.tdiv_eq_ediv_of_dvd hd
        rw [e2] at t; omega
      omega
    · have e2 : n.tdiv d = n / d + 1 := by
        rw [Int.tdiv_eq_ediv]
        have : ¬ (0 ≤ n ∨ d ∣ n) := by
          rintro (h | h)
          · exact hn h
          · exact hz (Int.emod_eq_zero_of_dvd h)
        rw [if_neg this, Int.sign_eq_one_of_pos (by omega)]
      rw [e2] at t ⊢
      rw [Int.mul_add, Int.mul_one] at t
      rw [if_pos (by omega)]; omega
theorem td_bd {n d B : Int} (h : 1 ≤ d) (h1 : -B ≤ n) (h2 : n ≤ B) : -B ≤ n.tdiv d ∧ n.tdiv d ≤ B ∧ -B ≤ n.tmod d ∧ n.tmod d ≤ B := by
  have a1 := Int.natAbs_tdiv_le_natAbs n d
  have a2 := Int.natAbs_tmod n d
  have a3 : n.natAbs % d.natAbs ≤ n.natAbs := Nat.mod_le _ _
  omega
set_option maxRecDepth 100000 in
set_option maxHeartbeats 1000000 in
theorem floor_ac (x : Int × Int) (hd : 1 ≤ x.2) (h1 : -4000000000000000000 ≤ x.1) (h2 : x.1 ≤ 4000000000000000000) : AC Try.prog 88 [spD x] [] [] (dI (x.1 / x.2)) := by
  refine klaw07_floor.ac (n0 := 0) (by simp) ⟨in_agg2 _ _ _, trivial⟩ trivial rfl ?_
  unfold claw07_floor spD
  have hne : ¬ x.2 = 0 := by omega
  have hb := td_bd hd h1 h2
  have e := fl_go x.1 x.2 hd
  rw [← e]
  (have hg : (987654321 : Nat) - 987654321 = 0 := rfl; have hr := hg; repeat' (first | refine aw_seq ?_ | (refine aw_skip ?_; try simp only [thenQ, blockQ, if_true, if_false, Nat.reduceEqDiff, reduceCtorEq]) | (refine aw_exit ?_; try simp only [thenQ, blockQ, if_true, if_false, Nat.reduceEqDiff, reduceCtorEq]) | refine aw_ret ?_ | refine aw_block ?_ | refine aw_condT rfl ?_ | refine aw_condF rfl ?_ | (refine aw_cond rfl (fun hg => ?_) (fun hg => ?_) <;> (try (have hq := hg; simp only [Bool.not_eq_true', Bool.not_eq_false', Bool.and_eq_true, Bool.and_eq_false_iff, Bool.or_eq_true, Bool.or_eq_false_iff, decide_eq_true_eq, decide_eq_false_iff_not, bne_iff_ne, beq_iff_eq, beq_eq_false_iff_ne, bne_eq_false_iff_eq, ne_eq, Int.not_lt, Int.not_le, Decidable.not_not] at hq)) <;> (try (have hr := hg; simp only [decide_eq_true_eq, decide_eq_false_iff_not] at hr)) <;> (try (exfalso; omega))) | ((first | refine aw_region ?_ | refine ago_if (by omega) ?_ | skip); simp (config := {maxSteps := 10000000}) (disch := first | exact okYes (by kernel_rfl) | omega) only [thenQ, List.map, dI, List.length, Nat.zero_add, Nat.reduceAdd, Nat.reduceMul, envOf, ARun_none, AOpRun, aexec, D.isBot, FSt.ev, St.F, ↓eget_h, Bool.false_eq_true, Option.isSome, hget_n, or_self, ↓reduceIte, D.cells, AGo_ok, St.app, putO, eput_c, Nat.reduceBEq, eput_n, cond_false, hups, hput_n, ARun_nil, dropE_c, inL_n, dropE_n, eget_c, Int.le_refl, cast_lit, Int.reduceLT, and_self, Int.toNat_zero, Option.map, run1, hget_c, beq_self_eq_true, cond_true, List.getElem?_cons_zero, Int.reduceLE, Int.reduceToNat, List.getElem?_cons_succ, isSh, abin, hne, fits, inL_c, hr, decide_true, decide_false])))
  all_goals (refine end_to [] [] (by first | exact .inl rfl | exact .inr rfl) rfl (by kernel_rfl) (by kernel_rfl) (by kernel_rfl) ?_ ?_ <;> repeat' (first | exact trivial | exact vr_val _))
set_option maxRecDepth 100000 in
set_option maxHeartbeats 1000000 in
theorem rest_ac (a b c d : Int) (ha : 0 ≤ a) (hab : a < b) (hc : 0 ≤ c) (hcd : c < d) (hb : b ≤ 4294967296) (hd : d ≤ 4294967296) : AC Try.prog 89 [dI a, dI b, dI c, dI d] [] [] (dB (decide (a * d < c * b))) := by
  refine klaw07_rest.ac (n0 := 0) (by simp) ⟨.val _, .val _, .val _, .val _, trivial⟩ trivial rfl ?_
  unfold claw07_rest dI
  generalize hR : decide (a * d < c * b) = R
  (have hg : (987654321 : Nat) - 987654321 = 0 := rfl; have hr := hg; repeat' (first | refine aw_seq ?_ | (refine aw_skip ?_; try simp only [thenQ, blockQ, if_true, if_false, Nat.reduceEqDiff, reduceCtorEq]) | (refine aw_exit ?_; try simp only [thenQ, blockQ, if_true, if_false, Nat.reduceEqDiff, reduceCtorEq]) | refine aw_ret ?_ | refine aw_block ?_ | refine aw_condT rfl ?_ | refine aw_condF rfl ?_ | ((first | refine aw_region ?_ | refine ago_if (by omega) ?_ | skip); simp (config := {maxSteps := 10000000}) (disch := first | exact okYes (by kernel_rfl) | omega) only [thenQ, List.map, List.length, Nat.zero_add, Nat.reduceMul, envOf, Nat.reduceAdd, ARun_none, AOpRun, aexec, FSt.ev, AGo_ok, St.app, putO, eput_c, Nat.reduceBEq, eput_n, cond_false, hups, ARun_nil, dropE_c, inL_n, dropE_n])))
  refine aw_loop (fun p : Int × Int × Int × Int => ⟨[(0, dI p.1), (1, dI p.2.1), (2, dI p.2.2.1), (3, dI p.2.2.2)], [], 400⟩) (fun p => 0 ≤ p.1 ∧ p.1 < p.2.1 ∧ 0 ≤ p.2.2.1 ∧ p.2.2.1 < p.2.2.2 ∧ p.2.1 ≤ 4294967296 ∧ p.2.2.2 ≤ 4294967296 ∧ decide (p.1 * p.2.2.2 < p.2.2.1 * p.2.1) = R) (fun p => (p.2.1 + p.2.2.2).toNat) ⟨(a, b, c, d), ⟨ha, hab, hc, hcd, hb, hd, hR⟩, ?_⟩ ?_
  · (refine wk_to [] [] (by kernel_rfl) (by kernel_rfl) (by kernel_rfl) (by kernel_rfl) (by kernel_rfl) ?_ ?_ <;> repeat' (first | exact trivial | exact vr_val _ | apply And.intro))
  · rintro ⟨a, b, c, d⟩ ⟨ha, hab, hc, hcd, hb, hd, hR⟩
    simp only at ha hab hc hcd hb hd hR
    subst hR
    rcases (by omega : c = 0 ∨ 0 < c) with rfl | hc
    · (have hg : (987654321 : Nat) - 987654321 = 0 := rfl; have hr := hg; repeat' (first | refine aw_seq ?_ | (refine aw_skip ?_; try simp only [thenQ, blockQ, if_true, if_false, Nat.reduceEqDiff, reduceCtorEq]) | (refine aw_exit ?_; try simp only [thenQ, blockQ, if_true, if_false, Nat.reduceEqDiff, reduceCtorEq]) | refine aw_ret ?_ | refine aw_block ?_ | refine aw_condT rfl ?_ | refine aw_condF rfl ?_ | ((first | refine aw_region ?_ | refine ago_if (by omega) ?_ | skip); simp (config := {maxSteps := 10000000}) (disch := first | exact okYes (by kernel_rfl) | omega) only [thenQ, dI, List.length, Nat.zero_add, Nat.reduceAdd, Nat.reduceMul, ARun_none, AOpRun, aexec, FSt.ev, St.F, eget_c, Nat.reduceBEq, ↓eget_h, cond_false, AGo_ok, St.app, putO, eput_c, eput_n, hups, List.map, isSh, Bool.false_eq_true, ↓reduceIte, Option.map, abin, beq_self_eq_true, ARun_nil, dropE_c, inL_c, inL_n, cond_true, dropE_n, blockQ])))
      all_goals (refine end_to [] [] (by first | exact .inl rfl | exact .inr rfl) rfl (by kernel_rfl) (by kernel_rfl) (by kernel_rfl) ?_ ?_ <;> repeat' (first | exact trivial | refine vr_valq ?_))
      have := Int.mul_nonneg ha (by omega : 0 ≤ d)
      exact congrArg Value.bool (decide_eq_false (by rw [Int.zero_mul]; omega)).symm
    · have hc0 : ¬ c = 0 := by omega
      rcases (by omega : a = 0 ∨ 0 < a) with rfl | ha
      · have := Int.mul_pos hc hab
        (have hg : (987654321 : Nat) - 987654321 = 0 := rfl; have hr := hg; repeat' (first | refine aw_seq ?_ | (refine aw_skip ?_; try simp only [thenQ, blockQ, if_true, if_false, Nat.reduceEqDiff, reduceCtorEq]) | (refine aw_exit ?_; try simp only [thenQ, blockQ, if_true, if_false, Nat.reduceEqDiff, reduceCtorEq]) | refine aw_ret ?_ | refine aw_block ?_ | refine aw_condT rfl ?_ | refine aw_condF rfl ?_ | (refine aw_cond rfl (fun hg => ?_) (fun hg => ?_) <;> (try (have hq := hg; simp only [Bool.not_eq_true', Bool.not_eq_false', Bool.and_eq_true, Bool.and_eq_false_iff, Bool.or_eq_true, Bool.or_eq_false_iff, decide_eq_true_eq, decide_eq_false_iff_not, bne_iff_ne, beq_iff_eq, beq_eq_false_iff_ne, bne_eq_false_iff_eq, ne_eq, Int.not_lt, Int.not_le, Decidable.not_not] at hq)) <;> (try (have hr := hg; simp only [decide_eq_true_eq, decide_eq_false_iff_not] at hr)) <;> (try (exfalso; omega))) | ((first | refine aw_region ?_ | refine ago_if (by omega) ?_ | skip); simp (config := {maxSteps := 10000000}) (disch := first | exact okYes (by kernel_rfl) | omega) only [thenQ, dI, List.length, Nat.zero_add, Nat.reduceAdd, Nat.reduceMul, ARun_none, AOpRun, aexec, FSt.ev, St.F, eget_c, Nat.reduceBEq, ↓eget_h, cond_false, AGo_ok, St.app, putO, eput_c, eput_n, hups, List.map, isSh, Bool.false_eq_true, ↓reduceIte, Option.map, abin, ARun_nil, dropE_c, inL_c, inL_n, beq_self_eq_true, cond_true, dropE_n, hg, blockQ])))
        all_goals (refine end_to [] [] (by first | exact .inl rfl | exact .inr rfl) rfl (by kernel_rfl) (by kernel_rfl) (by kernel_rfl) ?_ ?_ <;> repeat' (first | exact trivial | refine vr_valq ?_))
        exact congrArg Value.bool (decide_eq_true (by rw [Int.zero_mul]; exact this)).symm
      · have ha0 : ¬ a = 0 := by omega
        have hl := rest_lt (b := b) (d := d) ha hc
        have b1 := td_bd (n := d) (d := c) (B := 4294967296) (by omega) (by omega) (by omega)
        have b2 := td_bd (n := b) (d := a) (B := 4294967296) (by omega) (by omega) (by omega)
        rw [Int.tdiv_eq_ediv_of_nonneg (by omega)] at b1 b2
        have m1 := Int.emod_nonneg d hc0
        have m2 := Int.emod_lt_of_pos d hc
        have m3 := Int.emod_nonneg b ha0
        have m4 := Int.emod_lt_of_pos b ha
        by_cases hq : d / c = b / a
        · have hq2 : (d / c == b / a) = true := by simpa using hq
          rw [if_neg (by simpa using hq), decide_eq_true_eq] at hl
          (have hg : (987654321 : Nat) - 987654321 = 0 := rfl; have hr := hg; repeat' (first | refine aw_seq ?_ | (refine aw_skip ?_; try simp only [thenQ, blockQ, if_true, if_false, Nat.reduceEqDiff, reduceCtorEq]) | (refine aw_exit ?_; try simp only [thenQ, blockQ, if_true, if_false, Nat.reduceEqDiff, reduceCtorEq]) | refine aw_ret ?_ | refine aw_block ?_ | refine aw_condT rfl ?_ | refine aw_condF rfl ?_ | (refine aw_cond rfl (fun hg => ?_) (fun hg => ?_) <;> (try (have hq := hg; simp only [Bool.not_eq_true', Bool.not_eq_false', Bool.and_eq_true, Bool.and_eq_false_iff, Bool.or_eq_true, Bool.or_eq_false_iff, decide_eq_true_eq, decide_eq_false_iff_not, bne_iff_ne, beq_iff_eq, beq_eq_false_iff_ne, bne_eq_false_iff_eq, ne_eq, Int.not_lt, Int.not_le, Decidable.not_not] at hq)) <;> (try (have hr := hg; simp only [decide_eq_true_eq, decide_eq_false_iff_not] at hr)) <;> (try (exfalso; omega))) | ((first | refine aw_region ?_ | refine ago_if (by omega) ?_ | skip); simp (config := {maxSteps := 10000000}) (disch := first | exact okYes (by kernel_rfl) | omega) only [thenQ, dI, List.length, Nat.zero_add, Nat.reduceAdd, Nat.reduceMul, ARun_none, AOpRun, aexec, FSt.ev, St.F, eget_c, Nat.reduceBEq, ↓eget_h, cond_false, AGo_ok, St.app, putO, eput_c, eput_n, hups, List.map, isSh, Bool.false_eq_true, ↓reduceIte, Option.map, abin, ARun_nil, dropE_c, inL_c, inL_n, beq_self_eq_true, cond_true, dropE_n, hg, hc0, Int.tdiv_eq_ediv_of_nonneg, fits, ha0, Int.tmod_eq_emod_of_nonneg, blockQ])))
          exact ⟨(d % c, c, b % a, a), ⟨m1, m2, m3, m4, by simp only; omega, by simp only; omega, decide_eq_decide.2 hl.symm⟩, by simp only; omega, by refine wk_to [] [] (by kernel_rfl) (by kernel_rfl) (by kernel_rfl) (by kernel_rfl) (by kernel_rfl) ?_ ?_ <;> repeat' (first | exact trivial | exact vr_val _ | apply And.intro)⟩
        · rw [if_pos hq, decide_eq_true_eq] at hl
          (have hg : (987654321 : Nat) - 987654321 = 0 := rfl; have hr := hg; repeat' (first | refine aw_seq ?_ | (refine aw_skip ?_; try simp only [thenQ, blockQ, if_true, if_false, Nat.reduceEqDiff, reduceCtorEq]) | (refine aw_exit ?_; try simp only [thenQ, blockQ, if_true, if_false, Nat.reduceEqDiff, reduceCtorEq]) | refine aw_ret ?_ | refine aw_block ?_ | refine aw_condT rfl ?_ | refine aw_condF rfl ?_ | (refine aw_cond rfl (fun hg => ?_) (fun hg => ?_) <;> (try (have hq := hg; simp only [Bool.not_eq_true', Bool.not_eq_false', Bool.and_eq_true, Bool.and_eq_false_iff, Bool.or_eq_true, Bool.or_eq_false_iff, decide_eq_true_eq, decide_eq_false_iff_not, bne_iff_ne, beq_iff_eq, beq_eq_false_iff_ne, bne_eq_false_iff_eq, ne_eq, Int.not_lt, Int.not_le, Decidable.not_not] at hq)) <;> (try (have hr := hg; simp only [decide_eq_true_eq, decide_eq_false_iff_not] at hr)) <;> (try (exfalso; omega))) | ((first | refine aw_region ?_ | refine ago_if (by omega) ?_ | skip); simp (config := {maxSteps := 10000000}) (disch := first | exact okYes (by kernel_rfl) | omega) only [thenQ, dI, List.length, Nat.zero_add, Nat.reduceAdd, Nat.reduceMul, ARun_none, AOpRun, aexec, FSt.ev, St.F, eget_c, Nat.reduceBEq, ↓eget_h, cond_false, AGo_ok, St.app, putO, eput_c, eput_n, hups, List.map, isSh, Bool.false_eq_true, ↓reduceIte, Option.map, abin, ARun_nil, dropE_c, inL_c, inL_n, beq_self_eq_true, cond_true, dropE_n, hg, hc0, Int.tdiv_eq_ediv_of_nonneg, fits, ha0, blockQ])))
          all_goals (refine end_to [] [] (by first | exact .inl rfl | exact .inr rfl) rfl (by kernel_rfl) (by kernel_rfl) (by kernel_rfl) ?_ ?_ <;> repeat' (first | exact trivial | refine vr_valq ?_))
          exact congrArg Value.bool (decide_eq_decide.2 hl.symm)
/-- a fraction: below what it is divided by, and small -/
structure Fra (x : Int × Int) : Prop where
  d1 : 1 ≤ x.2
  d2 : x.2 ≤ 4294967296
  n1 : -4000000000000000 ≤ x.1
  n2 : x.1 ≤ 4000000000000000
theorem fl_rest {x : Int × Int} (h : Fra x) : 0 ≤ x.1 - x.1 / x.2 * x.2 ∧ x.1 - x.1 / x.2 * x.2 < x.2 ∧ -4000000000000000 - 4294967296 ≤ x.1 / x.2 * x.2 ∧ x.1 / x.2 * x.2 ≤ 4000000000000000 := by
  have e := Int.mul_ediv_add_emod x.1 x.2
  have m1 := Int.emod_nonneg x.1 (by have := h.d1; omega : x.2 ≠ 0)
  have m2 := Int.emod_lt_of_pos x.1 (by have := h.d1; omega : 0 < x.2)
  have := h.d2; have := h.n1; have := h.n2
  rw [Int.mul_comm x.2] at e
  omega
set_option maxRecDepth 100000 in
set_option maxHeartbeats 1000000 in
theorem less_ac (x y : Int × Int) (hx : Fra x) (hy : Fra y) : AC Try.prog 44 [spD x, spD y] [] [] (dB (ltF x y)) := by
  have x0 := fl_rest hx
  have y0 := fl_rest hy
  have hx1 := hx.d1; have hx2 := hx.d2; have hx3 := hx.n1; have hx4 := hx.n2
  have hy1 := hy.d1; have hy2 := hy.d2; have hy3 := hy.n1; have hy4 := hy.n2
  refine klaw07_less.ac (n0 := 0) (by simp) ⟨in_agg2 _ _ _, in_agg2 _ _ _, trivial⟩ trivial rfl ?_
  unfold claw07_less spD ltF
  by_cases hq : x.1 / x.2 = y.1 / y.2
  · have hq2 : (x.1 / x.2 == y.1 / y.2) = true := by simpa using hq
    have hl := fl_eq (n := x.1) (d := x.2) (m := y.1) (e := y.2) (p := x.1 / x.2)
    have y0' := y0
    rw [← hq] at y0'
    (have hg : (987654321 : Nat) - 987654321 = 0 := rfl; have hr := hg; repeat' (first | refine aw_seq ?_ | (refine aw_skip ?_; try simp only [thenQ, blockQ, if_true, if_false, Nat.reduceEqDiff, reduceCtorEq]) | (refine aw_exit ?_; try simp only [thenQ, blockQ, if_true, if_false, Nat.reduceEqDiff, reduceCtorEq]) | refine aw_ret ?_ | refine aw_block ?_ | refine aw_condT rfl ?_ | refine aw_condF rfl ?_ | (refine aw_cond rfl (fun hg => ?_) (fun hg => ?_) <;> (try (have hq := hg; simp only [Bool.not_eq_true', Bool.not_eq_false', Bool.and_eq_true, Bool.and_eq_false_iff, Bool.or_eq_true, Bool.or_eq_false_iff, decide_eq_true_eq, decide_eq_false_iff_not, bne_iff_ne, beq_iff_eq, beq_eq_false_iff_ne, bne_eq_false_iff_eq, ne_eq, Int.not_lt, Int.not_le, Decidable.not_not] at hq)) <;> (try (have hr := hg; simp only [decide_eq_true_eq, decide_eq_false_iff_not] at hr)) <;> (try (exfalso; omega))) | ((first | refine aw_region ?_ | refine acall0 (floor_ac x (by omega) (by omega) (by omega)) ?_ | refine acall0 (floor_ac y (by omega) (by omega) (by omega)) ?_ | refine acall0 (rest_ac (x.1 - x.1 / x.2 * x.2) x.2 (y.1 - y.1 / y.2 * y.2) y.2 (by omega) (by omega) (by omega) (by omega) (by omega) (by omega)) ?_ | refine ago_if (by omega) ?_ | skip); simp (config := {maxSteps := 10000000}) (disch := first | exact okYes (by kernel_rfl) | omega) only [thenQ, List.map, dB, List.length, Nat.zero_add, Nat.reduceAdd, Nat.reduceMul, envOf, ARun_none, AOpRun, aexec, D.isBot, FSt.ev, St.F, ↓eget_h, Bool.false_eq_true, Option.isSome, hget_n, or_self, ↓reduceIte, D.cells, AGo_ok, St.app, putO, eput_c, Nat.reduceBEq, eput_n, cond_false, hups, hput_n, eget_c, hget_c, hput_c, ARun_nil, dropE_c, inL_n, dropE_n, beq_self_eq_true, cond_true, Nat.reduceLeDiff, List.drop, List.take, dI, ↓hget_h, inL_c, isSh, Option.map, abin, hg, Int.le_refl, cast_lit, Int.reduceLT, and_self, Int.toNat_zero, run1, List.getElem?_cons_zero, Int.reduceLE, Int.reduceToNat, List.getElem?_cons_succ, fits])))
    all_goals (refine end_to [] [] (by first | exact .inl rfl | exact .inr rfl) rfl (by kernel_rfl) (by kernel_rfl) (by kernel_rfl) ?_ ?_ <;> repeat' (first | exact trivial | refine vr_valq ?_))
    rw [← hq]
    exact congrArg Value.bool (decide_eq_decide.2 hl)
  · have hl := fl_lt (n := x.1) (d := x.2) (m := y.1) (e := y.2) (by omega) (by omega) rfl rfl hq
    (have hg : (987654321 : Nat) - 987654321 = 0 := rfl; have hr := hg; repeat' (first | refine aw_seq ?_ | (refine aw_skip ?_; try simp only [thenQ, blockQ, if_true, if_false, Nat.reduceEqDiff, reduceCtorEq]) | (refine aw_exit ?_; try simp only [thenQ, blockQ, if_true, if_false, Nat.reduceEqDiff, reduceCtorEq]) | refine aw_ret ?_ | refine aw_block ?_ | refine aw_condT rfl ?_ | refine aw_condF rfl ?_ | (refine aw_cond rfl (fun hg => ?_) (fun hg => ?_) <;> (try (have hq := hg; simp only [Bool.not_eq_true', Bool.not_eq_false', Bool.and_eq_true, Bool.and_eq_false_iff, Bool.or_eq_true, Bool.or_eq_false_iff, decide_eq_true_eq, decide_eq_false_iff_not, bne_iff_ne, beq_iff_eq, beq_eq_false_iff_ne, bne_eq_false_iff_eq, ne_eq, Int.not_lt, Int.not_le, Decidable.not_not] at hq)) <;> (try (have hr := hg; simp only [decide_eq_true_eq, decide_eq_false_iff_not] at hr)) <;> (try (exfalso; omega))) | ((first | refine aw_region ?_ | refine acall0 (floor_ac x (by omega) (by omega) (by omega)) ?_ | refine acall0 (floor_ac y (by omega) (by omega) (by omega)) ?_ | refine ago_if (by omega) ?_ | skip); simp (config := {maxSteps := 10000000}) (disch := first | exact okYes (by kernel_rfl) | omega) only [thenQ, List.map, dB, List.length, Nat.zero_add, Nat.reduceAdd, Nat.reduceMul, envOf, ARun_none, AOpRun, aexec, D.isBot, FSt.ev, St.F, ↓eget_h, Bool.false_eq_true, Option.isSome, hget_n, or_self, ↓reduceIte, D.cells, AGo_ok, St.app, putO, eput_c, Nat.reduceBEq, eput_n, cond_false, hups, hput_n, eget_c, hget_c, hput_c, ARun_nil, dropE_c, inL_n, dropE_n, beq_self_eq_true, cond_true, Nat.reduceLeDiff, List.drop, List.take, dI, ↓hget_h, inL_c, isSh, Option.map, abin, hg])))
    all_goals (refine end_to [] [] (by first | exact .inl rfl | exact .inr rfl) rfl (by kernel_rfl) (by kernel_rfl) (by kernel_rfl) ?_ ?_ <;> repeat' (first | exact trivial | refine vr_valq ?_))
    exact congrArg Value.bool (decide_eq_decide.2 hl.symm)
/-! ### lists -/
theorem sps_same {a b : Bx} (h : a.length = b.length) (k : ∀ j, j < a.length → lo a j = lo b j ∧ hi a j = hi b j) : a = b := by
  apply List.ext_getElem h
  intro i h1 h2
  have := k i h1
  simp only [lo, hi, h1, h2, List.getElem?_eq_getElem, Option.getD_some] at this
  exact Prod.ext this.1 this.2
set_option maxRecDepth 100000 in
set_option maxHeartbeats 1000000 in
theorem sameFr_ac (a b : Bx) (ha : a.length ≤ maxLen) (hb : b.length ≤ maxLen) : AC Try.prog 27 [.list (sps a), .list (sps b)] [] [] (dB (decide (a = b))) := by
  refine klaw07_sameFractions.ac (n0 := 0) (by simp) ⟨.list _, .list _, trivial⟩ trivial rfl ?_
  unfold claw07_sameFractions
  have hm : maxLen ≤ 9223372036854775807 := by decide
  by_cases hl : a.length = b.length
  · have hl2 : ((a.length : Int) == (b.length : Int)) = true := by rw [hl]; simp
    generalize hR : decide (a = b) = R
    (have hg : (987654321 : Nat) - 987654321 = 0 := rfl; have hr := hg; repeat' (first | refine aw_seq ?_ | (refine aw_skip ?_; try simp only [thenQ, blockQ, if_true, if_false, Nat.reduceEqDiff, reduceCtorEq]) | (refine aw_exit ?_; try simp only [thenQ, blockQ, if_true, if_false, Nat.reduceEqDiff, reduceCtorEq]) | refine aw_ret ?_ | refine aw_block ?_ | refine aw_condT rfl ?_ | refine aw_condF rfl ?_ | (refine aw_cond rfl (fun hg => ?_) (fun hg => ?_) <;> (try (have hq := hg; simp only [Bool.not_eq_true', Bool.not_eq_false', Bool.and_eq_true, Bool.and_eq_false_iff, Bool.or_eq_true, Bool.or_eq_false_iff, decide_eq_true_eq, decide_eq_false_iff_not, bne_iff_ne, beq_iff_eq, beq_eq_false_iff_ne, bne_eq_false_iff_eq, ne_eq, Int.not_lt, Int.not_le, Decidable.not_not] at hq)) <;> (try (have hr := hg; simp only [decide_eq_true_eq, decide_eq_false_iff_not] at hr)) <;> (try (exfalso; omega))) | ((first | refine aw_region ?_ | refine ago_if (by omega) ?_ | skip); simp (config := {maxSteps := 10000000}) (disch := first | exact okYes (by kernel_rfl) | omega) only [thenQ, List.map, List.length, Nat.zero_add, Nat.reduceMul, envOf, ARun_none, AOpRun, aexec, FSt.ev, AGo_ok, St.app, putO, eput_c, Nat.reduceBEq, eput_n, cond_false, hups, ARun_nil, dropE_c, inL_n, dropE_n, Nat.reduceAdd, St.F, ↓eget_h, eget_c, sps_len, isSh, Bool.false_eq_true, ↓reduceIte, Option.map, abin, inL_c, beq_self_eq_true, cond_true, hg])))
    refine aw_loop (fun k : Nat => ⟨[(0, .list (sps a)), (1, .list (sps b)), (5, dI k)], [], 400⟩) (fun k => k ≤ a.length ∧ ∀ j, j < k → lo a j = lo b j ∧ hi a j = hi b j) (fun k => a.length - k) ⟨0, ⟨by omega, by omega⟩, ?_⟩ ?_
    · refine wk_to [] [] (by kernel_rfl) (by kernel_rfl) (by kernel_rfl) (by kernel_rfl) (by kernel_rfl) ?_ ?_ <;> repeat' (first | exact trivial | exact vr_val _ | exact vr_list _ | apply And.intro)
    · rintro k ⟨hk, hp⟩
      by_cases hk2 : k < a.length
      · have g1 := sps_gd a k hk2
        have g2 := sps_gd b k (by omega)
        by_cases he : lo a k = lo b k ∧ hi a k = hi b k
        · have e1 := he.1
          have e2 := he.2
          (have hg : (987654321 : Nat) - 987654321 = 0 := rfl; have hr := hg; repeat' (first | refine aw_seq ?_ | (refine aw_skip ?_; try simp only [thenQ, blockQ, if_true, if_false, Nat.reduceEqDiff, reduceCtorEq]) | (refine aw_exit ?_; try simp only [thenQ, blockQ, if_true, if_false, Nat.reduceEqDiff, reduceCtorEq]) | refine aw_ret ?_ | refine aw_block ?_ | refine aw_condT rfl ?_ | refine aw_condF rfl ?_ | (refine aw_cond rfl (fun hg => ?_) (fun hg => ?_) <;> (try (have hq := hg; simp only [Bool.not_eq_true', Bool.not_eq_false', Bool.and_eq_true, Bool.and_eq_false_iff, Bool.or_eq_true, Bool.or_eq_false_iff, decide_eq_true_eq, decide_eq_false_iff_not, bne_iff_ne, beq_iff_eq, beq_eq_false_iff_ne, bne_eq_false_iff_eq, ne_eq, Int.not_lt, Int.not_le, Decidable.not_not] at hq)) <;> (try (have hr := hg; simp only [decide_eq_true_eq, decide_eq_false_iff_not] at hr)) <;> (try (exfalso; omega))) | ((first | refine aw_region ?_ | refine ago_if (by omega) ?_ | skip); simp (config := {maxSteps := 10000000}) (disch := first | exact okYes (by kernel_rfl) | omega) only [thenQ, dI, List.length, Nat.zero_add, Nat.reduceAdd, Nat.reduceMul, ARun_none, AOpRun, aexec, FSt.ev, St.F, eget_c, Nat.reduceBEq, ↓eget_h, cond_false, AGo_ok, St.app, putO, eput_c, eput_n, hups, List.map, sps_len, isSh, Bool.false_eq_true, ↓reduceIte, Option.map, abin, ARun_nil, dropE_c, inL_c, inL_n, beq_self_eq_true, cond_true, dropE_n, hr, decide_true, Int.natCast_nonneg, sps_all, and_self, opt1, Int.toNat_natCast, g1, e1, e2, Nat.reduceLeDiff, List.take, g2, D.isAgg, D.cells, isB, eqCells, scalarEq, Bool.and_true, bne_self_eq_false, fits])))
          refine ⟨k + 1, ⟨by omega, fun j hj => ?_⟩, by omega, ?_⟩
          · rcases (by omega : j < k ∨ j = k) with h | rfl
            · exact hp j h
            · exact he
          · refine wk_to [] [] (by kernel_rfl) (by kernel_rfl) (by kernel_rfl) (by kernel_rfl) (by kernel_rfl) ?_ ?_ <;> repeat' (first | exact trivial | exact vr_val _ | exact vr_list _ | apply And.intro)
        · have hne : ¬ a = b := fun h => he (by rw [h]; exact ⟨rfl, rfl⟩)
          rw [← hR, decide_eq_false hne]
          have hb : (lo a k == lo b k && (hi a k == hi b k && true)) = false := by
            by_cases h1 : lo a k = lo b k
            · simp [h1]; exact fun h => he ⟨h1, h⟩
            · simp [h1]
          (have hg : (987654321 : Nat) - 987654321 = 0 := rfl; have hr := hg; repeat' (first | refine aw_seq ?_ | (refine aw_skip ?_; try simp only [thenQ, blockQ, if_true, if_false, Nat.reduceEqDiff, reduceCtorEq]) | (refine aw_exit ?_; try simp only [thenQ, blockQ, if_true, if_false, Nat.reduceEqDiff, reduceCtorEq]) | refine aw_ret ?_ | refine aw_block ?_ | refine aw_condT rfl ?_ | refine aw_condF rfl ?_ | (refine aw_cond rfl (fun hg => ?_) (fun hg => ?_) <;> (try (have hq := hg; simp only [Bool.not_eq_true', Bool.not_eq_false', Bool.and_eq_true, Bool.and_eq_false_iff, Bool.or_eq_true, Bool.or_eq_false_iff, decide_eq_true_eq, decide_eq_false_iff_not, bne_iff_ne, beq_iff_eq, beq_eq_false_iff_ne, bne_eq_false_iff_eq, ne_eq, Int.not_lt, Int.not_le, Decidable.not_not] at hq)) <;> (try (have hr := hg; simp only [decide_eq_true_eq, decide_eq_false_iff_not] at hr)) <;> (try (exfalso; omega))) | ((first | refine aw_region ?_ | refine ago_if (by omega) ?_ | skip); simp (config := {maxSteps := 10000000}) (disch := first | exact okYes (by kernel_rfl) | omega) only [thenQ, dI, List.length, Nat.zero_add, Nat.reduceAdd, Nat.reduceMul, ARun_none, AOpRun, aexec, FSt.ev, St.F, eget_c, Nat.reduceBEq, ↓eget_h, cond_false, AGo_ok, St.app, putO, eput_c, eput_n, hups, List.map, sps_len, isSh, Bool.false_eq_true, ↓reduceIte, Option.map, abin, ARun_nil, dropE_c, inL_c, inL_n, beq_self_eq_true, cond_true, dropE_n, hr, decide_true, Int.natCast_nonneg, sps_all, and_self, opt1, Int.toNat_natCast, g1, Nat.reduceLeDiff, List.take, g2, D.isAgg, D.cells, isB, eqCells, scalarEq, Bool.and_true, hg, blockQ])))
          all_goals (refine end_to [] [] (by first | exact .inl rfl | exact .inr rfl) rfl (by kernel_rfl) (by kernel_rfl) (by kernel_rfl) ?_ ?_ <;> repeat' (first | exact trivial | exact vr_val _))
      · obtain rfl : k = a.length := by omega
        rw [← hR, decide_eq_true (sps_same hl hp)]
        (have hg : (987654321 : Nat) - 987654321 = 0 := rfl; have hr := hg; repeat' (first | refine aw_seq ?_ | (refine aw_skip ?_; try simp only [thenQ, blockQ, if_true, if_false, Nat.reduceEqDiff, reduceCtorEq]) | (refine aw_exit ?_; try simp only [thenQ, blockQ, if_true, if_false, Nat.reduceEqDiff, reduceCtorEq]) | refine aw_ret ?_ | refine aw_block ?_ | refine aw_condT rfl ?_ | refine aw_condF rfl ?_ | (refine aw_cond rfl (fun hg => ?_) (fun hg => ?_) <;> (try (have hq := hg; simp only [Bool.not_eq_true', Bool.not_eq_false', Bool.and_eq_true, Bool.and_eq_false_iff, Bool.or_eq_true, Bool.or_eq_false_iff, decide_eq_true_eq, decide_eq_false_iff_not, bne_iff_ne, beq_iff_eq, beq_eq_false_iff_ne, bne_eq_false_iff_eq, ne_eq, Int.not_lt, Int.not_le, Decidable.not_not] at hq)) <;> (try (have hr := hg; simp only [decide_eq_true_eq, decide_eq_false_iff_not] at hr)) <;> (try (exfalso; omega))) | ((first | refine aw_region ?_ | refine ago_if (by omega) ?_ | skip); simp (config := {maxSteps := 10000000}) (disch := first | exact okYes (by kernel_rfl) | omega) only [thenQ, dI, List.length, Nat.zero_add, Nat.reduceAdd, Nat.reduceMul, ARun_none, AOpRun, aexec, FSt.ev, St.F, eget_c, Nat.reduceBEq, ↓eget_h, cond_false, AGo_ok, St.app, putO, eput_c, eput_n, hups, List.map, sps_len, isSh, Bool.false_eq_true, ↓reduceIte, Option.map, abin, ARun_nil, dropE_c, inL_c, inL_n, beq_self_eq_true, cond_true, dropE_n, hr, decide_false])))
        all_goals (refine end_to [] [] (by first | exact .inl rfl | exact .inr rfl) rfl (by kernel_rfl) (by kernel_rfl) (by kernel_rfl) ?_ ?_ <;> repeat' (first | exact trivial | exact vr_val _))
  · have hne : ¬ a = b := fun h => hl (by rw [h])
    rw [decide_eq_false hne]
    (have hg : (987654321 : Nat) - 987654321 = 0 := rfl; have hr := hg; repeat' (first | refine aw_seq ?_ | (refine aw_skip ?_; try simp only [thenQ, blockQ, if_true, if_false, Nat.reduceEqDiff, reduceCtorEq]) | (refine aw_exit ?_; try simp only [thenQ, blockQ, if_true, if_false, Nat.reduceEqDiff, reduceCtorEq]) | refine aw_ret ?_ | refine aw_block ?_ | refine aw_condT rfl ?_ | refine aw_condF rfl ?_ | (refine aw_cond rfl (fun hg => ?_) (fun hg => ?_) <;> (try (have hq := hg; simp only [Bool.not_eq_true', Bool.not_eq_false', Bool.and_eq_true, Bool.and_eq_false_iff, Bool.or_eq_true, Bool.or_eq_false_iff, decide_eq_true_eq, decide_eq_false_iff_not, bne_iff_ne, beq_iff_eq, beq_eq_false_iff_ne, bne_eq_false_iff_eq, ne_eq, Int.not_lt, Int.not_le, Decidable.not_not] at hq)) <;> (try (have hr := hg; simp only [decide_eq_true_eq, decide_eq_false_iff_not] at hr)) <;> (try (exfalso; omega))) | ((first | refine aw_region ?_ | refine ago_if (by omega) ?_ | skip); simp (config := {maxSteps := 10000000}) (disch := first | exact okYes (by kernel_rfl) | omega) only [thenQ, List.map, List.length, Nat.zero_add, Nat.reduceMul, envOf, ARun_none, AOpRun, aexec, FSt.ev, AGo_ok, St.app, putO, eput_c, Nat.reduceBEq, eput_n, cond_false, hups, ARun_nil, dropE_c, inL_n, dropE_n, Nat.reduceAdd, St.F, ↓eget_h, eget_c, sps_len, isSh, Bool.false_eq_true, ↓reduceIte, Option.map, abin, inL_c, beq_self_eq_true, cond_true, hg])))
    all_goals (refine end_to [] [] (by first | exact .inl rfl | exact .inr rfl) rfl (by kernel_rfl) (by kernel_rfl) (by kernel_rfl) ?_ ?_ <;> repeat' (first | exact trivial | exact vr_val _))
end Go.Proofs.Ythohcimmoobaoaa
/- The functions' bodies, translated. Written by a program; no conditions. -/
namespace Go.Proofs.Ythohcimmoobaoaa
open Go.RowKit Lift

/-- spans_within -/
def cspans_within : ACode :=
  (.seq
   (.region false [⟨some 6, .mv (.const (.bool false)), none, []⟩] [])
  (.seq
   (.region false [⟨some 7, .mv (.tmp 0), none, []⟩,
     ⟨some 8, .mv (.tmp 1), none, []⟩,
     ⟨some 9, .bin .geq (.tmp 7) (.tmp 8), none, []⟩,
     ⟨some 10, .mv (.tmp 9), none, []⟩,
     ⟨some 11, .mv (.tmp 0), (some (some 10, true)), []⟩,
     ⟨some 12, .mv (.tmp 2), (some (some 10, true)), []⟩,
     ⟨some 13, .bin .leq (.tmp 11) (.tmp 12), (some (some 10, true)), []⟩,
     ⟨some 14, .pick (.tmp 10) (.tmp 13) (.const (.bool false)), none, []⟩,
     ⟨some 6, .mv (.tmp 14), none, []⟩] [7, 8, 9, 10, 11, 12, 13, 14])
  .ret))
set_option maxRecDepth 100000 in
theorem kspans_within : IsCode Try.prog 96 15 cspans_within [.tmp 6] :=
  ⟨Try.f96, _, [0, 1, 2, 6], Try.func96, rfl, by decide, rfl, by kernel_rfl, by kernel_rfl⟩
/-- spans_valid -/
def cspans_valid : ACode :=
  (.seq
   (.region false [⟨some 1, .box (.tmp 0), none, []⟩,
     ⟨some 2, .mv (.const (.bool false)), none, []⟩] [])
  (.seq
   (.region false [⟨some 3, .fad 0 (.tmp 1), none, []⟩,
     ⟨some 4, .load1 (.tmp 3), none, []⟩,
     ⟨some 5, .fad 1 (.tmp 1), none, []⟩,
     ⟨some 6, .load1 (.tmp 5), none, []⟩,
     ⟨some 7, .call (.func 96) [(.tmp 4), (.const (.int .i64 (-1000000))), (.tmp 6)], none, []⟩,
     ⟨some 8, .mv (.tmp 7), none, []⟩,
     ⟨some 9, .fad 1 (.tmp 1), (some (some 8, true)), []⟩,
     ⟨some 10, .load1 (.tmp 9), (some (some 8, true)), []⟩,
     ⟨some 11, .bin .leq (.tmp 10) (.const (.int .i64 1000000)), (some (some 8, true)), []⟩,
     ⟨some 12, .pick (.tmp 8) (.tmp 11) (.const (.bool false)), none, []⟩,
     ⟨some 2, .mv (.tmp 12), none, []⟩] [3, 4, 5, 6, 7, 8, 9, 10, 11, 12])
  .ret))
set_option maxRecDepth 100000 in
theorem kspans_valid : IsCode Try.prog 115 13 cspans_valid [.tmp 2] :=
  ⟨Try.f115, _, [0, 1, 2], Try.func115, rfl, by decide, rfl, by kernel_rfl, by kernel_rfl⟩
/-- spans_spanned_S1 -/
def cspans_spanned_S1 : ACode :=
  (.seq
   (.region false [⟨some 1, .box (.tmp 0), none, []⟩,
     ⟨some 2, .mv (.const (.bool false)), none, []⟩] [])
  (.seq
   (.region false [⟨some 3, .loadN 2 (.tmp 1), none, []⟩,
     ⟨some 4, .call (.func 115) [(.tmp 3)], none, []⟩,
     ⟨some 5, .un .not (.tmp 4), none, []⟩,
     ⟨some 2, .mv (.tmp 5), none, []⟩] [3, 4, 5])
  .ret))
set_option maxRecDepth 100000 in
theorem kspans_spanned_S1 : IsCode Try.prog 114 6 cspans_spanned_S1 [.tmp 2] :=
  ⟨Try.f114, _, [0, 1, 2], Try.func114, rfl, by decide, rfl, by kernel_rfl, by kernel_rfl⟩
/-- slices_IndexFunc_L_L_Japi_Span_Kapi_Span_J -/
def cslices_IndexFunc_L_L_Japi_Span_Kapi_Span_J : ACode :=
  (.seq
   (.region false [⟨some 4, .mv (.const (.int .i64 0)), none, []⟩] [])
  (.seq
   (.seq
    (.region false [⟨some 6, .mv (.tmp 0), none, []⟩,
      ⟨some 7, .len_ (.tmp 6), none, []⟩,
      ⟨some 8, .mv (.const (.int .i64 0)), none, []⟩] [6])
   (.block 0
     (.loop
       (.seq
        (.region false [⟨some 9, .bin .lss (.tmp 8) (.tmp 7), none, []⟩] [])
       (.seq
        (.cond (.tmp 9)
          .skip
          (.exit 0))
       (.seq
        (.block 1
          (.seq
           (.region false [⟨some 10, .mv (.tmp 8), none, []⟩,
             ⟨some 5, .mv (.tmp 10), none, []⟩] [10])
          (.seq
           (.region false [⟨some 11, .mv (.tmp 1), none, []⟩,
             ⟨some 12, .mv (.tmp 0), none, []⟩,
             ⟨some 13, .mv (.tmp 5), none, []⟩,
             ⟨some 14, .iadS 2 (.tmp 12) (.tmp 13), none, []⟩,
             ⟨some 15, .loadN 2 (.tmp 14), none, []⟩,
             ⟨some 16, .call (.tmp 11) [(.tmp 15)], none, []⟩] [11, 12, 13, 14, 15])
          (.cond (.tmp 16)
            (.seq
             (.region false [⟨some 17, .mv (.tmp 5), none, []⟩,
               ⟨some 4, .mv (.tmp 17), none, []⟩] [17])
            .ret)
            .skip))))
       (.region false [⟨some 18, .bin .add (.tmp 8) (.const (.int .i64 1)), none, []⟩,
         ⟨some 8, .mv (.tmp 18), none, []⟩] [18])))))))
  (.seq
   (.region false [⟨some 4, .mv (.const (.int .i64 (-1))), none, []⟩] [])
  .ret)))
set_option maxRecDepth 100000 in
theorem kslices_IndexFunc_L_L_Japi_Span_Kapi_Span_J : IsCode Try.prog 126 19 cslices_IndexFunc_L_L_Japi_Span_Kapi_Span_J [.tmp 4] :=
  ⟨Try.f126, _, [16, 9, 0, 8, 7, 1, 5, 4], Try.func126, rfl, by decide, rfl, by kernel_rfl, by kernel_rfl⟩
/-- slices_ContainsFunc_L_L_Japi_Span_Kapi_Span_J -/
def cslices_ContainsFunc_L_L_Japi_Span_Kapi_Span_J : ACode :=
  (.seq
   (.region false [⟨some 4, .mv (.const (.bool false)), none, []⟩] [])
  (.seq
   (.region false [⟨some 5, .mv (.tmp 0), none, []⟩,
     ⟨some 6, .mv (.tmp 1), none, []⟩,
     ⟨some 7, .call (.func 126) [(.tmp 5), (.tmp 6)], none, []⟩,
     ⟨some 8, .bin .geq (.tmp 7) (.const (.int .i64 0)), none, []⟩,
     ⟨some 4, .mv (.tmp 8), none, []⟩] [5, 6, 7, 8])
  .ret))
set_option maxRecDepth 100000 in
theorem kslices_ContainsFunc_L_L_Japi_Span_Kapi_Span_J : IsCode Try.prog 113 9 cslices_ContainsFunc_L_L_Japi_Span_Kapi_Span_J [.tmp 4] :=
  ⟨Try.f113, _, [0, 1, 4], Try.func113, rfl, by decide, rfl, by kernel_rfl, by kernel_rfl⟩
/-- spans_spanned -/
def cspans_spanned : ACode :=
  (.seq
   (.region false [⟨some 2, .mv (.const (.int .i64 0)), none, []⟩] [])
  (.seq
   (.seq
    (.region false [⟨some 3, .mv (.tmp 0), none, []⟩,
      ⟨some 4, .call (.func 113) [(.tmp 3), (.func 114)], none, []⟩] [3])
   (.cond (.tmp 4)
     (.seq
      (.region false [⟨some 2, .mv (.const (.int .i64 10)), none, []⟩] [])
     .ret)
     .skip))
  (.seq
   (.region false [⟨some 2, .mv (.const (.int .i64 0)), none, []⟩] [])
  .ret)))
set_option maxRecDepth 100000 in
theorem kspans_spanned : IsCode Try.prog 101 5 cspans_spanned [.tmp 2] :=
  ⟨Try.f101, _, [4, 0, 2], Try.func101, rfl, by decide, rfl, by kernel_rfl, by kernel_rfl⟩
/-- spans_Check -/
def cspans_Check : ACode :=
  (.seq
   (.region false [⟨some 2, .mv (.const (.int .i64 0)), none, []⟩] [])
  (.seq
   (.seq
    (.region false [⟨some 3, .mv (.tmp 0), none, []⟩,
      ⟨some 4, .len_ (.tmp 3), none, []⟩,
      ⟨some 5, .call (.func 96) [(.tmp 4), (.const (.int .i64 1)), (.const (.int .i64 3))], none, []⟩,
      ⟨some 6, .un .not (.tmp 5), none, []⟩] [3, 4, 5])
   (.cond (.tmp 6)
     (.seq
      (.region false [⟨some 2, .mv (.const (.int .i64 10)), none, []⟩] [])
     .ret)
     .skip))
  (.seq
   (.region false [⟨some 7, .mv (.tmp 0), none, []⟩,
     ⟨some 8, .call (.func 101) [(.tmp 7)], none, []⟩,
     ⟨some 2, .mv (.tmp 8), none, []⟩] [7, 8])
  .ret)))
set_option maxRecDepth 100000 in
theorem kspans_Check : IsCode Try.prog 72 9 cspans_Check [.tmp 2] :=
  ⟨Try.f72, _, [6, 0, 2], Try.func72, rfl, by decide, rfl, by kernel_rfl, by kernel_rfl⟩
/-- ref01_From -/
def cref01_From : ACode :=
  (.seq
   (.region false [⟨some 6, .mv (.const (.bool false)), none, []⟩] [])
  (.seq
   (.region false [⟨some 7, .mv (.tmp 0), none, []⟩,
     ⟨some 8, .mv (.tmp 1), none, []⟩,
     ⟨some 9, .bin .geq (.tmp 7) (.tmp 8), none, []⟩,
     ⟨some 10, .mv (.tmp 9), none, []⟩,
     ⟨some 11, .mv (.tmp 0), (some (some 10, true)), []⟩,
     ⟨some 12, .mv (.tmp 2), (some (some 10, true)), []⟩,
     ⟨some 13, .bin .leq (.tmp 11) (.tmp 12), (some (some 10, true)), []⟩,
     ⟨some 14, .pick (.tmp 10) (.tmp 13) (.const (.bool false)), none, []⟩,
     ⟨some 6, .mv (.tmp 14), none, []⟩] [7, 8, 9, 10, 11, 12, 13, 14])
  .ret))
set_option maxRecDepth 100000 in
theorem kref01_From : IsCode Try.prog 94 15 cref01_From [.tmp 6] :=
  ⟨Try.f94, _, [0, 1, 2, 6], Try.func94, rfl, by decide, rfl, by kernel_rfl, by kernel_rfl⟩
/-- ref01_Valid -/
def cref01_Valid : ACode :=
  (.seq
   (.region false [⟨some 1, .box (.tmp 0), none, []⟩,
     ⟨some 2, .mv (.const (.bool false)), none, []⟩] [])
  (.seq
   (.region false [⟨some 3, .fad 0 (.tmp 1), none, []⟩,
     ⟨some 4, .load1 (.tmp 3), none, []⟩,
     ⟨some 5, .call (.func 94) [(.tmp 4), (.const (.int .i64 (-1000000))), (.const (.int .i64 1000000))], none, []⟩,
     ⟨some 6, .mv (.tmp 5), none, []⟩,
     ⟨some 7, .fad 1 (.tmp 1), (some (some 6, true)), []⟩,
     ⟨some 8, .load1 (.tmp 7), (some (some 6, true)), []⟩,
     ⟨some 9, .fad 0 (.tmp 1), (some (some 6, true)), []⟩,
     ⟨some 10, .load1 (.tmp 9), (some (some 6, true)), []⟩,
     ⟨some 11, .call (.func 94) [(.tmp 8), (.tmp 10), (.const (.int .i64 1000000))], (some (some 6, true)), []⟩,
     ⟨some 12, .pick (.tmp 6) (.tmp 11) (.const (.bool false)), none, []⟩,
     ⟨some 2, .mv (.tmp 12), none, []⟩] [3, 4, 5, 6, 7, 8, 9, 10, 11, 12])
  .ret))
set_option maxRecDepth 100000 in
theorem kref01_Valid : IsCode Try.prog 61 13 cref01_Valid [.tmp 2] :=
  ⟨Try.f61, _, [0, 1, 2], Try.func61, rfl, by decide, rfl, by kernel_rfl, by kernel_rfl⟩
/-- ref01_Check -/
def cref01_Check : ACode :=
  (.seq
   (.region false [⟨some 2, .mv (.const (.int .i64 0)), none, []⟩] [])
  (.seq
   (.seq
    (.region false [⟨some 4, .mv (.tmp 0), none, []⟩,
      ⟨some 5, .len_ (.tmp 4), none, []⟩,
      ⟨some 6, .call (.func 94) [(.tmp 5), (.const (.int .i64 1)), (.const (.int .i64 3))], none, []⟩,
      ⟨some 7, .un .not (.tmp 6), none, []⟩] [4, 5, 6])
   (.cond (.tmp 7)
     (.seq
      (.region false [⟨some 2, .mv (.const (.int .i64 10)), none, []⟩] [])
     .ret)
     .skip))
  (.seq
   (.seq
    (.region false [⟨some 3, .mv (.const (.int .i64 0)), none, []⟩] [])
   (.block 0
     (.loop
       (.seq
        (.seq
         (.region false [⟨some 8, .mv (.tmp 3), none, []⟩,
           ⟨some 9, .mv (.tmp 0), none, []⟩,
           ⟨some 10, .len_ (.tmp 9), none, []⟩,
           ⟨some 11, .bin .lss (.tmp 8) (.tmp 10), none, []⟩] [8, 9, 10])
        (.cond (.tmp 11)
          .skip
          (.exit 0)))
       (.seq
        (.block 1
          (.seq
           (.region false [⟨some 14, .mv (.tmp 0), none, []⟩,
             ⟨some 15, .mv (.tmp 3), none, []⟩,
             ⟨some 16, .iadS 2 (.tmp 14) (.tmp 15), none, []⟩,
             ⟨some 17, .loadN 2 (.tmp 16), none, []⟩,
             ⟨some 18, .call (.func 61) [(.tmp 17)], none, []⟩,
             ⟨some 19, .un .not (.tmp 18), none, []⟩] [14, 15, 16, 17, 18])
          (.cond (.tmp 19)
            (.seq
             (.region false [⟨some 2, .mv (.const (.int .i64 10)), none, []⟩] [])
            .ret)
            .skip)))
       (.region false [⟨some 12, .mv (.tmp 3), none, []⟩,
         ⟨some 13, .bin .add (.tmp 12) (.const (.int .i64 1)), none, []⟩,
         ⟨some 3, .mv (.tmp 13), none, []⟩] [12, 13]))))))
  (.seq
   (.region false [⟨some 2, .mv (.const (.int .i64 0)), none, []⟩] [])
  .ret))))
set_option maxRecDepth 100000 in
theorem kref01_Check : IsCode Try.prog 86 20 cref01_Check [.tmp 2] :=
  ⟨Try.f86, _, [19, 11, 7, 0, 3, 2], Try.func86, rfl, by decide, rfl, by kernel_rfl, by kernel_rfl⟩
end Go.Proofs.Ythohcimmoobaoaa
