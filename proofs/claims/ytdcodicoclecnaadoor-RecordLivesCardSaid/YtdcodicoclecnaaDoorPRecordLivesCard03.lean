/- Texts of the law RecordLivesCard, part 3. No conditions. -/
import Derived.Test.YtdcodicoclecnaaDoorPRecordLivesCard02
import Derived.Test.YtdcodicoclecnaaDoorRows
set_option linter.unusedSimpArgs false
set_option linter.unusedVariables false
/- Lists of numbers, rows and spans as abstract values. No conditions. -/
namespace Go.Proofs.YtdcodicoclecnaaDoor
open Go.RowKit Lift

def dI (n : Int) : D := .val (.int .i64 n)
def dB (b : Bool) : D := .val (.bool b)
def ints (l : List Int) : List (List D) := l.map fun n => [.val (.int .i64 n)]
def rows (l : List (List Int)) : List (List D) := l.map fun r => [.list (ints r)]
theorem ints_len (l : List Int) : (ints l).length = l.length := by simp [ints]
theorem rows_len (l : List (List Int)) : (rows l).length = l.length := by simp [rows]
theorem ints_all (l : List Int) : (ints l).all (fun x => x.length == 1) = true := by simp [ints]
theorem rows_all (l : List (List Int)) : (rows l).all (fun x => x.length == 1) = true := by simp [rows]
def icells (l : List Int) : List D := l.map fun n => .val (.int .i64 n)
def rcells (l : List (List Int)) : List D := l.map fun r => .list (ints r)
theorem ints_flat (l : List Int) : (ints l).flatten = icells l := by
  induction l with
  | nil => rfl
  | cons x l ih => simp [ints, icells] at ih ⊢; exact ih
theorem rows_flat (l : List (List Int)) : (rows l).flatten = rcells l := by
  induction l with
  | nil => rfl
  | cons x l ih => simp [rows, rcells] at ih ⊢; exact ih
theorem icells_leaf (l : List Int) : (icells l).all D.leaf = true := by simp [icells, D.leaf]
theorem icells_in (l : List Int) : ∀ d ∈ icells l, In (fun _ => False) d := by
  intro d hd; obtain ⟨x, _, rfl⟩ := List.mem_map.1 hd; exact .val _
theorem rcells_in (l : List (List Int)) : ∀ d ∈ rcells l, In (fun _ => False) d := by
  intro d hd; obtain ⟨x, _, rfl⟩ := List.mem_map.1 hd; exact .list _
theorem icells_len (l : List Int) : (icells l).length = l.length := by simp [icells]
theorem rcells_len (l : List (List Int)) : (rcells l).length = l.length := by simp [rcells]
theorem ints_one (l : List Int) : ∀ e ∈ ints l, e.length = 1 := by simp [ints]
theorem rows_one (l : List (List Int)) : ∀ e ∈ rows l, e.length = 1 := by simp [rows]
theorem ints_gd (l : List Int) (k : Nat) (h : k < l.length) : (ints l)[k]? = some [.val (.int .i64 (l[k]?.getD 0))] := by simp [ints, h]
theorem rows_gd (l : List (List Int)) (k : Nat) (h : k < l.length) : (rows l)[k]? = some [.list (ints (l[k]?.getD []))] := by simp [rows, h]
end Go.Proofs.YtdcodicoclecnaaDoor
/- Bits in numbers: and, or, shifts, masks. No conditions. -/
namespace Go.Proofs.YtdcodicoclecnaaDoor
open Go.RowKit Lift

theorem bv_nat (a : Nat) (h : a < 9223372036854775808) : (BitVec.ofInt IntKind.i64.bits (a : Int)).toNat = a := by
  show (BitVec.ofInt 64 (a : Int)).toNat = a
  rw [BitVec.toNat_ofInt]
  have : ((2 ^ 64 : Nat) : Int) = 18446744073709551616 := by decide
  rw [this]; omega
theorem and_nat (a b : Nat) (ha : a < 9223372036854775808) (hb : b < 9223372036854775808) : IntKind.i64.wrap ((BitVec.ofInt IntKind.i64.bits (a : Int) &&& BitVec.ofInt IntKind.i64.bits (b : Int)).toNat) = ((a &&& b : Nat) : Int) := by
  rw [BitVec.toNat_and, bv_nat a ha, bv_nat b hb]
  have : a &&& b ≤ a := Nat.and_le_left
  exact wrap_in (by omega) (by omega)
theorem or_nat (a b : Nat) (ha : a < 9223372036854775808) (hb : b < 9223372036854775808) : IntKind.i64.wrap ((BitVec.ofInt IntKind.i64.bits (a : Int) ||| BitVec.ofInt IntKind.i64.bits (b : Int)).toNat) = ((a ||| b : Nat) : Int) := by
  rw [BitVec.toNat_or, bv_nat a ha, bv_nat b hb]
  have : a ||| b < 2 ^ 63 := Nat.or_lt_two_pow (by omega) (by omega)
  exact wrap_in (by omega) (by omega)
theorem fdiv_pow (a k : Nat) : Int.fdiv (a : Int) (2 ^ k) = ((a / 2 ^ k : Nat) : Int) := by
  rw [Int.fdiv_eq_ediv_of_nonneg _ (by exact Int.le_of_lt (Int.pow_pos (by omega)))]
  simp
theorem pow_mono {a b : Nat} (h : a ≤ b) : 2 ^ a ≤ 2 ^ b := Nat.pow_le_pow_right (by omega) h
theorem shl_nat (a k : Nat) : (a : Int) * 2 ^ k = ((a * 2 ^ k : Nat) : Int) := by simp
def msk (B S : Nat) : Nat := (2 ^ S - 1) * 2 ^ B
theorem msk_test (B S j : Nat) : (msk B S).testBit j = (decide (B ≤ j) && decide (j < B + S)) := by
  unfold msk
  rw [← Nat.shiftLeft_eq, Nat.testBit_shiftLeft, Nat.testBit_two_pow_sub_one]
  by_cases h : B ≤ j
  · simp only [ge_iff_le, h, decide_true, Bool.true_and]
    exact decide_eq_decide.2 (by omega)
  · simp [h]
theorem msk_lt {B S : Nat} (h : B + S ≤ 12) : msk B S < 4096 := by
  refine Nat.lt_pow_two_of_testBit (n := 12) _ fun i hi => ?_
  rw [msk_test]
  simp only [Bool.and_eq_false_iff, decide_eq_false_iff_not]
  right; omega
theorem and_msk (w B S : Nat) : (w &&& msk B S) / 2 ^ B = w / 2 ^ B % 2 ^ S := by
  refine Nat.eq_of_testBit_eq fun j => ?_
  rw [← Nat.shiftRight_eq_div_pow, Nat.testBit_shiftRight, Nat.testBit_and, msk_test, Nat.testBit_mod_two_pow, ← Nat.shiftRight_eq_div_pow, Nat.testBit_shiftRight]
  have h1 : B ≤ B + j := by omega
  by_cases h : j < S
  · have h2 : B + j < B + S := by omega
    simp [h]
  · have h2 : ¬ B + j < B + S := by omega
    simp [h]
theorem half_iff (n S : Nat) (hS : 1 ≤ S) (h : n < 2 ^ S) : n / 2 ^ (S - 1) = 1 ↔ 2 ^ (S - 1) ≤ n := by
  obtain ⟨k, rfl⟩ : ∃ k, S = k + 1 := ⟨S - 1, by omega⟩
  rw [Nat.add_sub_cancel]
  rw [Nat.pow_succ] at h
  have hp : 0 < 2 ^ k := Nat.pow_pos (by omega)
  constructor
  · intro h1
    have := Nat.div_mul_le_self n (2 ^ k)
    rw [h1] at this; omega
  · intro h1
    refine Nat.div_eq_of_lt_le (by omega) (by omega)
theorem and_zero_iff (a b : Nat) : a &&& b = 0 ↔ ∀ j, ¬ (a.testBit j = true ∧ b.testBit j = true) := by
  constructor
  · intro h j hj
    have := congrArg (fun x => x.testBit j) h
    simp [Nat.testBit_and, hj.1, hj.2] at this
  · intro h
    refine Nat.eq_of_testBit_eq fun j => ?_
    rw [Nat.testBit_and, Nat.zero_testBit]
    have := h j
    cases h1 : a.testBit j <;> cases h2 : b.testBit j <;> simp_all
end Go.Proofs.YtdcodicoclecnaaDoor
/- A recorder's layout, its frames and samples, in numbers. No conditions. -/
namespace Go.Proofs.YtdcodicoclecnaaDoor
open Go.RowKit Lift

structure Fl where
  word : Int
  bit : Int
  size : Int
  sgn : Bool
  num : Int
  den : Int
  add : Int
  every : Int
  phase : Int
structure Lay where
  words : Int
  s0 : Int
  s1 : Int
  s2 : Int
  s3 : Int
  fl : List Fl
def flC (f : Fl) : List D := [dI f.word, dI f.bit, dI f.size, dB f.sgn, dI f.num, dI f.den, dI f.add, dI f.every, dI f.phase]
def flD (f : Fl) : D := .agg (flC f)
def fls (l : List Fl) : List (List D) := l.map flC
def layC (l : Lay) : List D := [dI l.words, dI l.s0, dI l.s1, dI l.s2, dI l.s3, .list (fls l.fl)]
def layD (l : Lay) : D := .agg (layC l)
def fl0 : Fl := ⟨0, 0, 0, false, 0, 0, 0, 0, 0⟩
theorem fls_len (l : List Fl) : (fls l).length = l.length := by simp [fls]
theorem fls_all (l : List Fl) : (fls l).all (fun x => x.length == 9) = true := by simp [fls, flC]
theorem fls_nine (l : List Fl) : ∀ e ∈ fls l, e.length = 9 := by simp [fls, flC]
theorem fls_gd (l : List Fl) (k : Nat) (h : k < l.length) : (fls l)[k]? = some (flC (l[k]?.getD fl0)) := by simp [fls, h]
def flcells (l : List Fl) : List D := l.flatMap flC
theorem fls_flat (l : List Fl) : (fls l).flatten = flcells l := by simp [fls, flcells, List.flatMap]
def sync (l : Lay) : List Int := [l.s0, l.s1, l.s2, l.s3]

structure FOk (w : Int) (f : Fl) : Prop where
  w1 : 1 ≤ f.word
  w2 : f.word ≤ w - 1
  b1 : 0 ≤ f.bit
  s1 : 1 ≤ f.size
  bs : f.bit + f.size ≤ 12
  n1 : -1000 ≤ f.num
  n2 : f.num ≤ 1000
  d1 : 1 ≤ f.den
  d2 : f.den ≤ 1000
  a1 : -1000000 ≤ f.add
  a2 : f.add ≤ 1000000
  ev : f.every = 1 ∨ f.every = 2 ∨ f.every = 4
  p1 : 0 ≤ f.phase
  p2 : f.phase ≤ f.every - 1
def inSub (f : Fl) (s : Int) : Prop := s.tmod f.every = f.phase
instance (f : Fl) (s : Int) : Decidable (inSub f s) := inferInstanceAs (Decidable (_ = _))
def Ovl (f g : Fl) : Prop := f.word = g.word ∧ f.bit < g.bit + g.size ∧ g.bit < f.bit + f.size
structure LayOk (l : Lay) : Prop where
  w1 : 2 ≤ l.words
  w2 : l.words ≤ 32
  nf : l.fl.length ≤ 16
  sy : ∀ k, k < 4 → 0 ≤ (sync l)[k]?.getD 0 ∧ (sync l)[k]?.getD 0 ≤ 4095
  sd : ∀ i, i < 4 → ∀ k, k < i → (sync l)[i]?.getD 0 ≠ (sync l)[k]?.getD 0
  fo : ∀ k, k < l.fl.length → FOk l.words (l.fl[k]?.getD fl0)
  ov : ∀ i, i < l.fl.length → ∀ k, k < i → ∀ s : Nat, s < 4 → inSub (l.fl[i]?.getD fl0) s → inSub (l.fl[k]?.getD fl0) s → ¬ Ovl (l.fl[i]?.getD fl0) (l.fl[k]?.getD fl0)
open Classical in
noncomputable def layE (l : Lay) (E : Int) : Int := if LayOk l then 0 else E
theorem layE_ok {l : Lay} {E : Int} (h : LayOk l) : layE l E = 0 := if_pos h
theorem layE_no {l : Lay} {E : Int} (h : ¬ LayOk l) : layE l E = E := if_neg h

def mskF (f : Fl) : Nat := msk f.bit.toNat f.size.toNat
theorem mskF_test (f : Fl) (j : Nat) : (mskF f).testBit j = (decide (f.bit.toNat ≤ j) && decide (j < f.bit.toNat + f.size.toNat)) := msk_test _ _ _
theorem mskF_lt {w : Int} {f : Fl} (h : FOk w f) : mskF f < 4096 := msk_lt (by have := h.b1; have := h.s1; have := h.bs; omega)
def rawU (f : Fl) (w : Nat) : Nat := w / 2 ^ f.bit.toNat % 2 ^ f.size.toNat
def rawI (f : Fl) (w : Nat) : Int := if f.sgn = true ∧ 2 ^ (f.size.toNat - 1) ≤ rawU f w then (rawU f w : Int) - 2 ^ f.size.toNat else rawU f w
def valI (f : Fl) (r : Int) : Int := f.add * f.den + r * f.num
theorem rawU_lt {w : Int} {f : Fl} (h : FOk w f) (x : Nat) : rawU f x < 4096 := by
  have h1 : rawU f x < 2 ^ f.size.toNat := Nat.mod_lt _ (Nat.pow_pos (by omega))
  have h2 : 2 ^ f.size.toNat ≤ 2 ^ 12 := pow_mono (by have := h.b1; have := h.bs; omega)
  omega
theorem size_pow {w : Int} {f : Fl} (h : FOk w f) : 1 ≤ 2 ^ f.size.toNat ∧ 2 ^ f.size.toNat ≤ 4096 ∧ f.size.toNat ≤ 12 ∧ 1 ≤ f.size.toNat ∧ f.bit.toNat ≤ 12 ∧ f.bit.toNat + f.size.toNat ≤ 12 ∧ 2 ^ f.size.toNat = 2 * 2 ^ (f.size.toNat - 1) := by
  have := h.b1; have := h.bs; have := h.s1
  have h1 : 1 ≤ 2 ^ f.size.toNat := Nat.pow_pos (by omega)
  have h2 : 2 ^ f.size.toNat ≤ 2 ^ 12 := pow_mono (by omega)
  obtain ⟨k, hk⟩ : ∃ k, f.size.toNat = k + 1 := ⟨f.size.toNat - 1, by omega⟩
  refine ⟨h1, h2, by omega, by omega, by omega, by omega, ?_⟩
  rw [hk, Nat.add_sub_cancel, Nat.pow_succ]; omega
theorem rawI_bd {w : Int} {f : Fl} (h : FOk w f) (x : Nat) : -4096 ≤ rawI f x ∧ rawI f x ≤ 4096 := by
  have h1 := rawU_lt h x
  have h2 := size_pow h
  have h3 : ((2 ^ f.size.toNat : Nat) : Int) = (2 : Int) ^ f.size.toNat := by simp
  unfold rawI
  split <;> omega
theorem mulB {a b A B : Int} (h1 : -A ≤ a) (h2 : a ≤ A) (h3 : -B ≤ b) (h4 : b ≤ B) : -(A * B) ≤ a * b ∧ a * b ≤ A * B := by
  have hA : 0 ≤ A := by omega
  have hB : 0 ≤ B := by omega
  have e : (a * b).natAbs ≤ (A * B).natAbs := by
    rw [Int.natAbs_mul, Int.natAbs_mul]
    exact Nat.mul_le_mul (by omega) (by omega)
  have : 0 ≤ A * B := Int.mul_nonneg hA hB
  omega
def wOk (x : Int) : Bool := decide (0 ≤ x) && decide (x ≤ 4095)
def frOk (l : Lay) (fr : List Int) : Prop := (fr.length : Int) = l.words ∧ fr.all wOk = true
instance (l : Lay) (fr : List Int) : Decidable (frOk l fr) := inferInstanceAs (Decidable (_ ∧ _))
def idx4 (l : Lay) (x : Int) : Int := if x = l.s0 then 0 else if x = l.s1 then 1 else if x = l.s2 then 2 else if x = l.s3 then 3 else -1
def subF (l : Lay) (fr : List Int) : Int := if frOk l fr then idx4 l (fr[0]?.getD 0) else -1
theorem subF_ok {l : Lay} {fr : List Int} (h : 0 ≤ subF l fr) : frOk l fr := by
  unfold subF at h
  split at h
  · assumption
  · omega
def smp (l : Lay) (f : Fl) (fr : List Int) : Option Int := if 0 ≤ subF l fr ∧ inSub f (subF l fr) then some (valI f (rawI f (fr[f.word.toNat]?.getD 0).toNat)) else none
def frm (frs : List (List Int)) (k : Nat) : List Int := frs[k]?.getD []
end Go.Proofs.YtdcodicoclecnaaDoor
/- Conditions and events over frames, in numbers. No conditions. -/
namespace Go.Proofs.YtdcodicoclecnaaDoor
open Go.RowKit Lift

structure Cd where
  field : Int
  lim : Int
  above : Bool
def cdC (c : Cd) : List D := [dI c.field, dI c.lim, dB c.above]
def cds (l : List Cd) : List (List D) := l.map cdC
def cd0 : Cd := ⟨0, 0, false⟩
theorem cds_len (l : List Cd) : (cds l).length = l.length := by simp [cds]
theorem cds_all (l : List Cd) : (cds l).all (fun x => x.length == 3) = true := by simp [cds, cdC]
theorem cds_three (l : List Cd) : ∀ e ∈ cds l, e.length = 3 := by simp [cds, cdC]
theorem cds_gd (l : List Cd) (k : Nat) (h : k < l.length) : (cds l)[k]? = some (cdC (l[k]?.getD cd0)) := by simp [cds, h]
def cdcells (l : List Cd) : List D := l.flatMap cdC
theorem cds_flat (l : List Cd) : (cds l).flatten = cdcells l := by simp [cds, cdcells, List.flatMap]
def cndV (c : Cd) (f : Fl) (v : Int) : Bool := if c.above = true then decide (v ≥ c.lim * f.den) else decide (v ≤ c.lim * f.den)

section
variable (l : Lay) (frs : List (List Int)) (c : Cd) (f : Fl)
def hAt : Nat → Nat → Bool
  | 0, _ => false
  | k + 1, j => match smp l f (frm frs k) with
    | some v => if k ≤ j ∧ (j : Int) < k + f.every then cndV c f v else hAt k j
    | none => hAt k j
def lookR (j : Nat) : Nat → Bool
  | 0 => false
  | k + 1 => if (k : Int) ≤ j - f.every then false else match smp l f (frm frs k) with
    | some v => cndV c f v
    | none => lookR j k
variable {l frs c f}
theorem lookR_far {j : Nat} : ∀ {k : Nat}, (k : Int) ≤ j - f.every + 1 → lookR l frs c f j k = false
  | 0, _ => rfl
  | k + 1, h => by unfold lookR; rw [if_pos (by omega)]
theorem hAt_look (hev : 1 ≤ f.every) {j : Nat} : ∀ {k : Nat}, k ≤ j + 1 → hAt l frs c f k j = lookR l frs c f j k
  | 0, _ => rfl
  | k + 1, h => by
    have ih := hAt_look hev (j := j) (k := k) (by omega)
    unfold hAt lookR
    by_cases hk : (k : Int) ≤ j - f.every
    · rw [if_pos hk]
      have h1 : ¬ (k ≤ j ∧ (j : Int) < k + f.every) := by omega
      have h2 : hAt l frs c f k j = false := by rw [ih]; exact lookR_far (by omega)
      cases smp l f (frm frs k) with
      | some v => simp only [if_neg h1]; exact h2
      | none => exact h2
    · rw [if_neg hk]
      have h1 : k ≤ j ∧ (j : Int) < k + f.every := by omega
      cases smp l f (frm frs k) with
      | some v => simp only [if_pos h1]
      | none => exact ih
theorem hAt_late {j : Nat} : ∀ {k : Nat}, j + 1 ≤ k → hAt l frs c f k j = hAt l frs c f (j + 1) j
  | 0, h => by omega
  | k + 1, h => by
    rcases (by omega : j = k ∨ j + 1 ≤ k) with rfl | h'
    · rfl
    · have ih := hAt_late h'
      rw [← ih]
      rw [hAt]
      have h1 : ¬ (k ≤ j ∧ (j : Int) < k + f.every) := by omega
      cases smp l f (frm frs k) with
      | some v => simp only [if_neg h1]
      | none => rfl
variable (l frs c f)
def holdJ (j : Nat) : Bool := lookR l frs c f j (j + 1)
variable {l frs c f}
theorem hAt_hold (hev : 1 ≤ f.every) {j k : Nat} (h : j < k) : hAt l frs c f k j = holdJ l frs c f j := by
  rw [hAt_late h, hAt_look hev (by omega)]; rfl
variable (l frs c f)
def hL (n k : Nat) : List Bool := (List.range n).map fun j => hAt l frs c f k j
end
theorem hL_len {l : Lay} {frs : List (List Int)} {c : Cd} {f : Fl} (n k : Nat) : (hL l frs c f n k).length = n := by simp [hL]

def bools (l : List Bool) : List (List D) := l.map fun b => [dB b]
def bcl (l : List Bool) : List D := l.map dB
theorem bools_len (l : List Bool) : (bools l).length = l.length := by simp [bools]
theorem bools_all (l : List Bool) : (bools l).all (fun x => x.length == 1) = true := by simp [bools]
theorem bools_one (l : List Bool) : ∀ e ∈ bools l, e.length = 1 := by
  intro e he; obtain ⟨b, _, rfl⟩ := List.mem_map.1 he; rfl
theorem bools_gd (l : List Bool) (k : Nat) (h : k < l.length) : (bools l)[k]? = some [dB (l[k]?.getD false)] := by simp [bools, h]
theorem bools_flat (l : List Bool) : (bools l).flatten = bcl l := by
  induction l with
  | nil => rfl
  | cons x l ih => simp [bools, bcl] at ih ⊢; exact ih
theorem bcl_len (l : List Bool) : (bcl l).length = l.length := by simp [bcl]
theorem bcl_leaf (l : List Bool) : (bcl l).all D.leaf = true := by simp [bcl, D.leaf, dB]
theorem bcl_in (l : List Bool) : ∀ d ∈ bcl l, In (fun _ => False) d := by
  intro d hd; obtain ⟨x, _, rfl⟩ := List.mem_map.1 hd; exact .val _
/-! ### events -/
def fOf (l : Lay) (c : Cd) : Fl := l.fl[c.field.toNat]?.getD fl0
def allK (l : Lay) (frs : List (List Int)) (cs : List Cd) (k j : Nat) : Bool := (cs.take k).all fun c => holdJ l frs c (fOf l c) j
def isJ (l : Lay) (frs : List (List Int)) (cs : List Cd) (j : Nat) : Bool := decide (j < frs.length) && cs.all fun c => holdJ l frs c (fOf l c) j
section
variable (is : Nat → Bool) (H : Int)
def evK : Nat → Int × List (Int × Int)
  | 0 => (0, [])
  | i + 1 => if is i = true then evK i else ((i : Int) + 1, if (i : Int) - (evK i).1 ≥ H then (evK i).2 ++ [((evK i).1, (i : Int) - 1)] else (evK i).2)
theorem evK_bd : ∀ i, 0 ≤ (evK is H i).1 ∧ (evK is H i).1 ≤ i ∧ (evK is H i).2.length ≤ i
  | 0 => by simp [evK]
  | i + 1 => by
    have ih := evK_bd i
    unfold evK
    split
    · omega
    · simp only
      split
      · simp; omega
      · omega
theorem ev_in (i : Nat) (h : is i = true) : (evK is H (i + 1)).2 = (evK is H i).2 := by
  rw [evK, if_pos h]
theorem ev_in1 (i : Nat) (h : is i = true) : (evK is H (i + 1)).1 = (evK is H i).1 := by
  rw [evK, if_pos h]
theorem ev_out1 (i : Nat) (h : is i = false) : (evK is H (i + 1)).1 = (i : Int) + 1 := by
  rw [evK, if_neg (by simp [h])]
theorem ev_out (i : Nat) (h : is i = false) : (evK is H (i + 1)).2 = if (i : Int) - (evK is H i).1 ≥ H then (evK is H i).2 ++ [((evK is H i).1, (i : Int) - 1)] else (evK is H i).2 := by
  rw [evK, if_neg (by simp [h])]
/-! ### what is found -/
theorem ev_run : ∀ i (j : Nat), (evK is H i).1 ≤ j → j < i → is j = true
  | 0, j, _, h => by omega
  | i + 1, j, h1, h2 => by
    cases hi : is i with
    | true =>
      rw [ev_in1 is H i hi] at h1
      rcases (by omega : j < i ∨ j = i) with h | rfl
      · exact ev_run i j h1 h
      · exact hi
    | false => rw [ev_out1 is H i hi] at h1; omega
theorem ev_sound : ∀ i (a b : Int), (a, b) ∈ (evK is H i).2 → 0 ≤ a ∧ b < i ∧ b - a + 1 ≥ H ∧ ∀ j : Nat, a ≤ j → (j : Int) ≤ b → is j = true
  | 0, a, b, h => by simp [evK] at h
  | i + 1, a, b, h => by
    cases hi : is i with
    | true =>
      rw [ev_in is H i hi] at h
      have := ev_sound i a b h
      exact ⟨this.1, by omega, this.2.2.1, this.2.2.2⟩
    | false =>
      rw [ev_out is H i hi] at h
      have keep : (a, b) ∈ (evK is H i).2 → 0 ≤ a ∧ b < ((i + 1 : Nat) : Int) ∧ b - a + 1 ≥ H ∧ ∀ j : Nat, a ≤ j → (j : Int) ≤ b → is j = true := fun h => by
        have := ev_sound i a b h
        exact ⟨this.1, by omega, this.2.2.1, this.2.2.2⟩
      split at h
      · rename_i hc
        rcases List.mem_append.1 h with h | h
        · exact keep h
        · simp only [List.mem_singleton, Prod.mk.injEq] at h
          obtain ⟨rfl, rfl⟩ := h
          have b0 := evK_bd is H i
          exact ⟨b0.1, by omega, by omega, fun j h1 h2 => ev_run is H i j h1 (by omega)⟩
      · exact keep h
end
end Go.Proofs.YtdcodicoclecnaaDoor
/- Lists of numbers and truth values in memory. No conditions. -/
namespace Go.Proofs.YtdcodicoclecnaaDoor
open Go.RowKit Lift

theorem ic_gd (l : List Int) (k : Nat) (h : k < l.length) : (icells l)[k]? = some (.val (.int .i64 (l[k]?.getD 0))) := by simp [icells, h]
theorem ic_t (l : List Int) (k : Nat) (v : Int) (h : k < l.length) : (icells l).take k ++ [.val (.int .i64 v)] ++ (icells l).drop (k + 1) = icells (l.set k v) := by
  unfold icells
  rw [List.map_set, ← List.map_take, ← List.map_drop, List.set_eq_take_append_cons_drop, if_pos (by simpa using h)]
  simp
theorem bc_t (l : List Bool) (k : Nat) (v : Bool) (h : k < l.length) : (bcl l).take k ++ [.val (.bool v)] ++ (bcl l).drop (k + 1) = bcl (l.set k v) := by
  unfold bcl
  rw [List.map_set, ← List.map_take, ← List.map_drop, List.set_eq_take_append_cons_drop, if_pos (by simpa using h)]
  simp [dB]
theorem bc_gd (l : List Bool) (k : Nat) (h : k < l.length) : (bcl l)[k]? = some (.val (.bool (l[k]?.getD false))) := by simp [bcl, dB, h]
theorem rep_ic (n : Nat) : (List.replicate n [D.val (.int .i64 0)]).flatten = icells (List.replicate n 0) := by
  induction n with
  | zero => rfl
  | succ n ih => simp only [List.replicate_succ, List.flatten_cons, ih]; rfl
theorem rep_bc (n : Nat) : (List.replicate n [D.val (.bool false)]).flatten = bcl (List.replicate n false) := by
  induction n with
  | zero => rfl
  | succ n ih => simp only [List.replicate_succ, List.flatten_cons, ih]; rfl
theorem ic_take (l : List Int) (n : Nat) (h : l.length = n) : (icells l).take n = icells l := List.take_of_length_le (by rw [icells_len]; omega)
theorem bc_take (l : List Bool) (n : Nat) (h : l.length = n) : (bcl l).take n = bcl l := List.take_of_length_le (by rw [bcl_len]; omega)
theorem ic_app (l : List Int) (v : Int) : icells l ++ [.val (.int .i64 v)] = icells (l ++ [v]) := by simp [icells]
theorem bc_app (l : List Bool) (v : Bool) : bcl l ++ [.val (.bool v)] = bcl (l ++ [v]) := by simp [bcl, dB]
theorem bc_noY (n : Nat) (l : List Bool) : (bcl l).all (noY n) = true := by
  cases n <;> simp [bcl, dB, noY]
theorem layC_in (l : Lay) : ∀ d ∈ layC l, In (fun _ => False) d := by
  intro d hd; simp [layC] at hd; rcases hd with rfl | rfl | rfl | rfl | rfl | rfl <;> first | exact .val _ | exact .list _
theorem in_layD (S : Nat → Prop) (l : Lay) : In S (layD l) := .agg _ (by intro d hd; simp [layC] at hd; rcases hd with rfl | rfl | rfl | rfl | rfl | rfl <;> first | exact .val _ | exact .list _)
theorem own_ints {H : Heap} {V : List Nat} {g off n : Nat} {c : List D} (L : List Int) (hg : g ∈ V) (hH : H g = some c) (hl : L.length = n) (hoff : off + n ≤ c.length) (hc : (c.drop off).take n = icells L) (hin : ∀ d ∈ c, In (fun _ => False) d) : Vw H V (.own g off n 1) (.list (ints L)) :=
  .own g off n 1 c (ints L) hg hH (by omega) (ints_one L) (by rw [ints_len, hl]) (by rw [Nat.mul_one, hc, ints_flat]) hin
theorem vec_ints {H : Heap} {V : List Nat} {g n : Nat} (L : List Int) (hg : g ∈ V) (hH : H g = some (icells L)) (hl : L.length = n) : Vw H V (.vec g n 1) (.list (ints L)) :=
  .vec g n 1 (icells L) (ints L) hg hH (by rw [icells_len]; omega) (ints_one L) (by rw [ints_len, hl]) (by rw [Nat.mul_one, ic_take L n hl, ints_flat]) (icells_in L)
theorem vec_bools {H : Heap} {V : List Nat} {g n : Nat} (L : List Bool) (hg : g ∈ V) (hH : H g = some (bcl L)) (hl : L.length = n) : Vw H V (.vec g n 1) (.list (bools L)) :=
  .vec g n 1 (bcl L) (bools L) hg hH (by rw [bcl_len]; omega) (bools_one L) (by rw [bools_len, hl]) (by rw [Nat.mul_one, bc_take L n hl, bools_flat]) (bcl_in L)
end Go.Proofs.YtdcodicoclecnaaDoor
/- Within. No conditions. -/
namespace Go.Proofs.YtdcodicoclecnaaDoor
open Go.RowKit Lift

def wI (n a b : Int) : Bool := decide (a ≤ n) && decide (n ≤ b)
theorem wI_t {n a b : Int} (h : wI n a b = true) : a ≤ n ∧ n ≤ b := by simpa [wI] using h
theorem wI_f {n a b : Int} (h : wI n a b = false) : n < a ∨ b < n := by simp [wI] at h; omega
end Go.Proofs.YtdcodicoclecnaaDoor
/- Boxes as abstract values; what is left of a box without another one. No conditions. -/
namespace Go.Proofs.YtdcodicoclecnaaDoor
open Go.RowKit Lift

abbrev Bx := List (Int × Int)
def sps (b : Bx) : List (List D) := b.map fun x => [.val (.int .i64 x.1), .val (.int .i64 x.2)]
def scells : Bx → List D
  | [] => []
  | x :: b => .val (.int .i64 x.1) :: .val (.int .i64 x.2) :: scells b
def bcells (l : List Bx) : List D := l.map fun b => .list (sps b)
def lo (b : Bx) (k : Nat) : Int := (b[k]?.getD (0, 0)).1
def hi (b : Bx) (k : Nat) : Int := (b[k]?.getD (0, 0)).2
theorem sps_len (b : Bx) : (sps b).length = b.length := by simp [sps]
theorem sps_all (b : Bx) : (sps b).all (fun x => x.length == 2) = true := by simp [sps]
theorem sps_two (b : Bx) : ∀ e ∈ sps b, e.length = 2 := by intro e he; obtain ⟨x, _, rfl⟩ := List.mem_map.1 he; rfl
theorem sps_flat (b : Bx) : (sps b).flatten = scells b := by
  induction b with
  | nil => rfl
  | cons x b ih => simp [sps, scells] at ih ⊢; exact ih
theorem scells_len (b : Bx) : (scells b).length = b.length * 2 := by
  induction b with
  | nil => rfl
  | cons x b ih => simp [scells, ih]; omega
theorem scells_mem {b : Bx} : ∀ {d : D}, d ∈ scells b → ∃ n, d = .val (.int .i64 n) := by
  induction b with
  | nil => intro d h; simp [scells] at h
  | cons x b ih =>
    intro d h
    simp only [scells, List.mem_cons] at h
    rcases h with rfl | rfl | h
    · exact ⟨_, rfl⟩
    · exact ⟨_, rfl⟩
    · exact ih h
theorem scells_in (b : Bx) : ∀ d ∈ scells b, In (fun _ => False) d := fun d hd => by obtain ⟨n, rfl⟩ := scells_mem hd; exact .val _
theorem bcells_in (l : List Bx) : ∀ d ∈ bcells l, In (fun _ => False) d := by
  intro d hd; obtain ⟨x, _, rfl⟩ := List.mem_map.1 hd; exact .list _
/-! ### what the functions compute -/
structure OkB (b : Bx) : Prop where
  pos : 1 ≤ b.length
  len : b.length ≤ 3
  low : ∀ k, k < b.length → -1000000 ≤ lo b k
  le : ∀ k, k < b.length → lo b k ≤ hi b k
  high : ∀ k, k < b.length → hi b k ≤ 1000000
end Go.Proofs.YtdcodicoclecnaaDoor
/- What comes behind a region, hidden while the region is walked. No conditions. -/
namespace Go.Proofs.YtdcodicoclecnaaDoor.Lift
open Go Go.RowKit

theorem aw_hide {rd : Rd} {P : Program} {n : Nat} {pre : List Nat} {Q : AExit → St → Prop} {s : St} {x : ACode} (h : ∀ K : AExit → St → Prop, K = Q → AWb rd P n pre x K s) : AWb rd P n pre x Q s := h Q rfl
section
variable {K : St → Prop} {Q : AExit → St → Prop} {s : St}
theorem thenQ_n (h : K s) : thenQ K Q .norm s := h
theorem thenQ_e {i : Nat} (h : Q (.ex i) s) : thenQ K Q (.ex i) s := h
theorem blockQ_n {id : Nat} (h : Q .norm s) : blockQ id Q .norm s := h
theorem blockQ_t {id : Nat} (h : Q .norm s) : blockQ id Q (.ex id) s := by simp only [blockQ, if_true]; exact h
theorem blockQ_f {id i : Nat} (hn : i ≠ id) (h : Q (.ex i) s) : blockQ id Q (.ex i) s := by simp only [blockQ]; rw [if_neg hn]; exact h
end
end Go.Proofs.YtdcodicoclecnaaDoor.Lift
/- Calls that change objects, checked by computing. No conditions. -/
namespace Go.Proofs.YtdcodicoclecnaaDoor.Lift
open Go Go.RowKit

theorem aw_condT {rd : Rd} {P : Program} {n : Nat} {pre : List Nat} {Q : AExit → St → Prop} {s : St} {c : Operand} {x y : ACode} (hb : s.F.ev c = .val (.bool true)) (h : AWb rd P n pre x Q s) : AWb rd P n pre (.cond c x y) Q s := aw_cond hb (fun _ => h) (fun h => nomatch h)
theorem aw_condF {rd : Rd} {P : Program} {n : Nat} {pre : List Nat} {Q : AExit → St → Prop} {s : St} {c : Operand} {x y : ACode} (hb : s.F.ev c = .val (.bool false)) (h : AWb rd P n pre y Q s) : AWb rd P n pre (.cond c x y) Q s := aw_cond hb (fun h => nomatch h) (fun _ => h)
def HasAll (hp : Hp) : Hp → Prop
  | [] => True
  | x :: l => hget hp x.1 = some x.2 ∧ HasAll hp l
theorem HasAll.get {hp : Hp} : ∀ {h : Hp}, HasAll hp h → ∀ x ∈ h, hget hp x.1 = some x.2
  | [], _, x, hx => by simp at hx
  | y :: l, h, x, hx => by
    rcases List.mem_cons.1 hx with rfl | hx
    · exact h.1
    · exact HasAll.get h.2 x hx
def newOk (hp h : Hp) (up : Ups) : Bool := up.all fun x => (h.map (·.1)).contains x.1 || (hget hp x.1).isNone
theorem newOk_get {hp h : Hp} {up : Ups} (hk : newOk hp h up = true) : ∀ g ∈ up.map (·.1), g ∉ h.map (·.1) → hget hp g = none := fun g hg hn => by
  obtain ⟨x, hx, rfl⟩ := List.mem_map.1 hg
  have := List.all_eq_true.1 hk x hx
  simp only [Bool.or_eq_true, List.contains_iff_mem, Option.isNone_iff_eq_none] at this
  exact this.resolve_left hn
section
variable {P : Program} {dr : Bool} {b : Nat} {Q : St → Prop} {dst : Option Nat} {anc : List Nat} {l : List AOper} {k : Nat} {s : St} {log : Lg}
theorem acallB {f : FuncId} {first caps args : List D} {d : D} {h : Hp} {up : Ups} (hA : AC P f (first ++ args ++ caps) h up d) (hh : HasAll s.hp h) (hf : newOk s.hp h up = true) (hn : okNew s.hp (b + 8 * k) (up.map (·.1)) = true)
    (hl : okLog dr log anc (h.map (·.1) ++ []) (up.map (·.1)) = true) (hK : ARun P dr b Q l (k + 1) (s.app dst d up) ((k, h.map (·.1) ++ [], up.map (·.1)) :: log)) : ACallK P dr b Q (.fn f first caps) args dst anc l k s log :=
  acallH hA [] (VwL.refl _) (.inl rfl) (by simp) (by simp) hh.get (newOk_get hf) hn hl hK
end
end Go.Proofs.YtdcodicoclecnaaDoor.Lift
/- parts: a register and a hangar, in numbers. No conditions. -/
namespace Go.Proofs.YtdcodicoclecnaaDoor
open Go Go.RowKit Lift

def w64 (x : Int) : Int := IntKind.i64.wrap x
structure Kd where
  h : Int
  c : Int
  p : Int
structure P0 where
  kd : Int
  h : Int
  c : Int
  kn : Bool
structure Reg where
  ks : List Kd
  ps : List P0
  ms : Int
  os : List (Int × Int)
def kdC (k : Kd) : List D := [dI k.h, dI k.c, dI k.p]
def p0C (p : P0) : List D := [dI p.kd, dI p.h, dI p.c, dB p.kn]
def odC (o : Int × Int) : List D := [dI o.1, dI o.2]
def kds (l : List Kd) : List (List D) := l.map kdC
def p0s (l : List P0) : List (List D) := l.map p0C
def ods (l : List (Int × Int)) : List (List D) := l.map odC
def regC (r : Reg) : List D := [.list (kds r.ks), .list (p0s r.ps), dI r.ms, .list (ods r.os)]
def regD (r : Reg) : D := .agg (regC r)
theorem kds_len (l : List Kd) : (kds l).length = l.length := by simp [kds]
theorem p0s_len (l : List P0) : (p0s l).length = l.length := by simp [p0s]
theorem ods_len (l : List (Int × Int)) : (ods l).length = l.length := by simp [ods]
def kdB (k : Kd) : Bool := wI k.h 1 100000 && wI k.c 1 100000 && wI k.p 0 4
def kinB (r : Reg) (n : Int) : Bool := wI n 0 (w64 (r.ks.length - 1))
def p0B (r : Reg) (p : P0) : Bool := kinB r p.kd && wI p.h 0 100000 && wI p.c 0 100000
def odB (r : Reg) (o : Int × Int) : Bool := kinB r o.1 && wI o.2 0 100000
def validB (r : Reg) : Bool := !(decide ((r.ks.length : Int) > 6) || decide ((r.ps.length : Int) > 24) || decide ((r.os.length : Int) > 6) || !wI r.ms 0 4) && (!(r.ks.any fun k => !kdB k) && !(r.ps.any fun p => !p0B r p) && !(r.os.any fun o => !odB r o))

/-! ### views of nested objects -/
def inF : D → Bool
  | .val _ | .list _ | .at_ _ | .bot | .cap0 => true
  | .fn _ k l => (k ++ l).all fun d => match d with
    | .val _ | .list _ | .at_ _ | .bot | .cap0 => true
    | _ => false
  | _ => false
theorem inF_in {S : Nat → Prop} {d : D} (h : inF d = true) : In S d := by
  cases d with
  | val v => exact .val v
  | list l => exact .list l
  | at_ l => exact .at_ l
  | bot => exact .bot
  | cap0 => exact .cap0
  | fn f k l =>
    simp only [inF, List.all_eq_true] at h
    have key : ∀ d, d ∈ k ++ l → In S d := fun d hd => by
      have := h d hd
      cases d with
      | val v => exact .val v
      | list l => exact .list l
      | at_ l => exact .at_ l
      | bot => exact .bot
      | cap0 => exact .cap0
      | _ => simp at this
    exact .fn f k l (fun d hd => key d (by simp [hd])) (fun d hd => key d (by simp [hd]))
  | _ => simp [inF] at h
section
variable {H : Heap} {V : List Nat}
theorem vw_fn1 {f : FuncId} {a b : D} (h : Vw H V a b) : Vw H V (.fn f [] [a]) (.fn f [] [b]) :=
  .fn f [] [a] [] [b] rfl (fun i hi => by simp at hi) rfl fun i hi hi' => by
    have : i = 0 := by simpa using hi
    subst this; exact h
theorem vw_fn2 {f : FuncId} {a b a' b' : D} (h : Vw H V a b) (h' : Vw H V a' b') : Vw H V (.fn f [] [a, a']) (.fn f [] [b, b']) :=
  .fn f [] [a, a'] [] [b, b'] rfl (fun i hi => by simp at hi) rfl fun i hi hi' => by
    rcases (by simp at hi; omega : i = 0 ∨ i = 1) with rfl | rfl
    · exact h
    · exact h'
theorem vw_obj {g : Nat} {c l : List D} (hg : g ∈ V) (hc : H g = some c) (hl : VwL H V c l) (hin : l.all inF = true) : Vw H V (.ptr g 0) (.at_ l) := by
  obtain ⟨h1, h2⟩ := hl.get
  refine .ptrN g 0 c l hg hc (by omega) (fun i hi hi' => ?_) fun d hd => inF_in (List.all_eq_true.1 hin d hd)
  have := h2 i (by omega) hi
  simpa using this
theorem vw_vec1 {g n : Nat} {c l : List D} (hg : g ∈ V) (hc : H g = some c) (hl : VwL H V c l) (hn : l.length = n) (hin : l.all inF = true) : Vw H V (.vec g n 1) (.list (l.map fun d => [d])) := by
  obtain ⟨h1, h2⟩ := hl.get
  have hf : (l.map fun d => [d]).flatten = l := by
    clear hl h1 h2 hn hin
    induction l with
    | nil => rfl
    | cons a l ih => simp at ih ⊢; exact ih
  refine .vecN g n 1 c _ hg hc (by omega) (by simp) (by simpa using hn) (fun i hi hi' => ?_) fun d hd => ?_
  · simp only [hf] at hi ⊢
    exact h2 i (by omega) hi
  · rw [hf] at hd
    exact inF_in (List.all_eq_true.1 hin d hd)
end
end Go.Proofs.YtdcodicoclecnaaDoor
/- The functions' bodies, translated. Written by a program; no conditions. -/
namespace Go.Proofs.YtdcodicoclecnaaDoor
open Go.RowKit Lift

def cparts_within : ACode :=
 (.seq
 (.region false [oo 6 (.mv (.const (.bool false)))] [])
 (.seq
 (.region false [oo 7 (.mv (.tmp 0)),
 oo 8 (.mv (.tmp 1)),
 oo 9 (.bin .geq (.tmp 7) (.tmp 8)),
 oo 10 (.mv (.tmp 9)),
 og 11 10 true (.mv (.tmp 0)) [],
 og 12 10 true (.mv (.tmp 2)) [],
 og 13 10 true (.bin .leq (.tmp 11) (.tmp 12)) [],
 oo 14 (.pick (.tmp 10) (.tmp 13) (.const (.bool false))),
 oo 6 (.mv (.tmp 14))] [7,8,9,10,11,12,13,14])
 .ret))
set_option maxRecDepth 100000 in
theorem kparts_within : IsCode Tryd.prog 55 15 cparts_within [.tmp 6] :=
 ⟨Tryd.f55, _, [0,1,2,6], Tryd.func55, rfl, by decide, rfl, by kernel_rfl, by kernel_rfl⟩
def cparts_valid_S1 : ACode :=
 (.seq
 (.region false [oo 3 (.mv (.const (.bool false)))] [])
 (.seq
 (.region false [oo 4 (.mv (.tmp 0)),
 oo 5 (.fad 0 (.tmp 1)),
 oo 6 (.load1 (.tmp 5)),
 oo 7 (.len_ (.tmp 6)),
 oo 8 (.bin .sub (.tmp 7) (kI 1)),
 oo 9 (.call (.func 55) [(.tmp 4), (kI 0), (.tmp 8)]),
 oo 3 (.mv (.tmp 9))] [4,5,6,7,8,9])
 .ret))
set_option maxRecDepth 100000 in
theorem kparts_valid_S1 : IsCode Tryd.prog 56 10 cparts_valid_S1 [.tmp 3] :=
 ⟨Tryd.f56, _, [0,1,3], Tryd.func56, rfl, by decide, rfl, by kernel_rfl, by kernel_rfl⟩
def cparts_valid_S2 : ACode :=
 (.seq
 (.region false [oo 1 (.box (.tmp 0)),
 oo 2 (.mv (.const (.bool false)))] [])
 (.seq
 (.region false [oo 3 (.fad 0 (.tmp 1)),
 oo 4 (.load1 (.tmp 3)),
 oo 5 (.call (.func 55) [(.tmp 4), (kI 1), (kI 100000)]),
 oo 6 (.un .not (.tmp 5)),
 oo 7 (.mv (.tmp 6)),
 og 8 7 false (.fad 1 (.tmp 1)) [],
 og 9 7 false (.load1 (.tmp 8)) [],
 og 10 7 false (.call (.func 55) [(.tmp 9), (kI 1), (kI 100000)]) [],
 og 11 7 false (.un .not (.tmp 10)) [],
 oo 12 (.pick (.tmp 7) (.const (.bool true)) (.tmp 11)),
 oo 13 (.mv (.tmp 12)),
 og 14 13 false (.fad 2 (.tmp 1)) [],
 og 15 13 false (.load1 (.tmp 14)) [],
 og 16 13 false (.call (.func 55) [(.tmp 15), (kI 0), (kI 4)]) [],
 og 17 13 false (.un .not (.tmp 16)) [],
 oo 18 (.pick (.tmp 13) (.const (.bool true)) (.tmp 17)),
 oo 2 (.mv (.tmp 18))] [3,4,5,6,7,8,9,10,11,12,13,14,15,16,17,18])
 .ret))
set_option maxRecDepth 100000 in
theorem kparts_valid_S2 : IsCode Tryd.prog 58 19 cparts_valid_S2 [.tmp 2] :=
 ⟨Tryd.f58, _, [0,1,2], Tryd.func58, rfl, by decide, rfl, by kernel_rfl, by kernel_rfl⟩
def cparts_valid_S3 : ACode :=
 (.seq
 (.region false [oo 2 (.box (.tmp 0)),
 oo 3 (.mv (.const (.bool false)))] [])
 (.seq
 (.region false [oo 4 (.load1 (.tmp 1)),
 oo 5 (.fad 0 (.tmp 2)),
 oo 6 (.load1 (.tmp 5)),
 oo 7 (.call (.tmp 4) [(.tmp 6)]),
 oo 8 (.un .not (.tmp 7)),
 oo 9 (.mv (.tmp 8)),
 og 10 9 false (.fad 1 (.tmp 2)) [],
 og 11 9 false (.load1 (.tmp 10)) [],
 og 12 9 false (.call (.func 55) [(.tmp 11), (kI 0), (kI 100000)]) [],
 og 13 9 false (.un .not (.tmp 12)) [],
 oo 14 (.pick (.tmp 9) (.const (.bool true)) (.tmp 13)),
 oo 15 (.mv (.tmp 14)),
 og 16 15 false (.fad 2 (.tmp 2)) [],
 og 17 15 false (.load1 (.tmp 16)) [],
 og 18 15 false (.call (.func 55) [(.tmp 17), (kI 0), (kI 100000)]) [],
 og 19 15 false (.un .not (.tmp 18)) [],
 oo 20 (.pick (.tmp 15) (.const (.bool true)) (.tmp 19)),
 oo 3 (.mv (.tmp 20))] [4,5,6,7,8,9,10,11,12,13,14,15,16,17,18,19,20])
 .ret))
set_option maxRecDepth 100000 in
theorem kparts_valid_S3 : IsCode Tryd.prog 60 21 cparts_valid_S3 [.tmp 3] :=
 ⟨Tryd.f60, _, [0,1,2,3], Tryd.func60, rfl, by decide, rfl, by kernel_rfl, by kernel_rfl⟩
def cparts_valid_S4 : ACode :=
 (.seq
 (.region false [oo 2 (.box (.tmp 0)),
 oo 3 (.mv (.const (.bool false)))] [])
 (.seq
 (.region false [oo 4 (.load1 (.tmp 1)),
 oo 5 (.fad 0 (.tmp 2)),
 oo 6 (.load1 (.tmp 5)),
 oo 7 (.call (.tmp 4) [(.tmp 6)]),
 oo 8 (.un .not (.tmp 7)),
 oo 9 (.mv (.tmp 8)),
 og 10 9 false (.fad 1 (.tmp 2)) [],
 og 11 9 false (.load1 (.tmp 10)) [],
 og 12 9 false (.call (.func 55) [(.tmp 11), (kI 0), (kI 100000)]) [],
 og 13 9 false (.un .not (.tmp 12)) [],
 oo 14 (.pick (.tmp 9) (.const (.bool true)) (.tmp 13)),
 oo 3 (.mv (.tmp 14))] [4,5,6,7,8,9,10,11,12,13,14])
 .ret))
set_option maxRecDepth 100000 in
theorem kparts_valid_S4 : IsCode Tryd.prog 62 15 cparts_valid_S4 [.tmp 3] :=
 ⟨Tryd.f62, _, [0,1,2,3], Tryd.func62, rfl, by decide, rfl, by kernel_rfl, by kernel_rfl⟩
def cslices_IndexFunc_L_L_Japi_Kind_Kapi_Kind_J : ACode :=
 (.seq
 (.region false [oo 4 (.mv (kI 0))] [])
 (.seq
 (.seq
 (.region false [oo 6 (.mv (.tmp 0)),
 oo 7 (.len_ (.tmp 6)),
 oo 8 (.mv (kI 0))] [6])
 (.block 0
 (.loop
 (.seq
 (.region false [oo 9 (.bin .lss (.tmp 8) (.tmp 7))] [])
 (.seq
 (.cond (.tmp 9)
 .skip
 (.exit 0))
 (.seq
 (.block 1
 (.seq
 (.region false [oo 10 (.mv (.tmp 8)),
 oo 5 (.mv (.tmp 10))] [10])
 (.seq
 (.region false [oo 11 (.mv (.tmp 1)),
 oo 12 (.mv (.tmp 0)),
 oo 13 (.mv (.tmp 5)),
 oo 14 (.iadS 3 (.tmp 12) (.tmp 13)),
 oo 15 (.loadN 3 (.tmp 14)),
 oo 16 (.call (.tmp 11) [(.tmp 15)])] [11,12,13,14,15])
 (.cond (.tmp 16)
 (.seq
 (.region false [oo 17 (.mv (.tmp 5)),
 oo 4 (.mv (.tmp 17))] [17])
 .ret)
 .skip))))
 (.region false [oo 18 (.bin .add (.tmp 8) (kI 1)),
 oo 8 (.mv (.tmp 18))] [18])))))))
 (.seq
 (.region false [oo 4 (.mv (kI (-1)))] [])
 .ret)))
set_option maxRecDepth 100000 in
theorem kslices_IndexFunc_L_L_Japi_Kind_Kapi_Kind_J : IsCode Tryd.prog 79 19 cslices_IndexFunc_L_L_Japi_Kind_Kapi_Kind_J [.tmp 4] :=
 ⟨Tryd.f79, _, [16,9,0,8,7,1,5,4], Tryd.func79, rfl, by decide, rfl, by kernel_rfl, by kernel_rfl⟩
def cslices_ContainsFunc_L_L_Japi_Kind_Kapi_Kind_J : ACode :=
 (.seq
 (.region false [oo 4 (.mv (.const (.bool false)))] [])
 (.seq
 (.region false [oo 5 (.mv (.tmp 0)),
 oo 6 (.mv (.tmp 1)),
 oo 7 (.call (.func 79) [(.tmp 5), (.tmp 6)]),
 oo 8 (.bin .geq (.tmp 7) (kI 0)),
 oo 4 (.mv (.tmp 8))] [5,6,7,8])
 .ret))
set_option maxRecDepth 100000 in
theorem kslices_ContainsFunc_L_L_Japi_Kind_Kapi_Kind_J : IsCode Tryd.prog 57 9 cslices_ContainsFunc_L_L_Japi_Kind_Kapi_Kind_J [.tmp 4] :=
 ⟨Tryd.f57, _, [0,1,4], Tryd.func57, rfl, by decide, rfl, by kernel_rfl, by kernel_rfl⟩
def cslices_IndexFunc_L_L_Japi_Part_Kapi_Part_J : ACode :=
 (.seq
 (.region false [oo 4 (.mv (kI 0))] [])
 (.seq
 (.seq
 (.region false [oo 6 (.mv (.tmp 0)),
 oo 7 (.len_ (.tmp 6)),
 oo 8 (.mv (kI 0))] [6])
 (.block 0
 (.loop
 (.seq
 (.region false [oo 9 (.bin .lss (.tmp 8) (.tmp 7))] [])
 (.seq
 (.cond (.tmp 9)
 .skip
 (.exit 0))
 (.seq
 (.block 1
 (.seq
 (.region false [oo 10 (.mv (.tmp 8)),
 oo 5 (.mv (.tmp 10))] [10])
 (.seq
 (.region false [oo 11 (.mv (.tmp 1)),
 oo 12 (.mv (.tmp 0)),
 oo 13 (.mv (.tmp 5)),
 oo 14 (.iadS 4 (.tmp 12) (.tmp 13)),
 oo 15 (.loadN 4 (.tmp 14)),
 oo 16 (.call (.tmp 11) [(.tmp 15)])] [11,12,13,14,15])
 (.cond (.tmp 16)
 (.seq
 (.region false [oo 17 (.mv (.tmp 5)),
 oo 4 (.mv (.tmp 17))] [17])
 .ret)
 .skip))))
 (.region false [oo 18 (.bin .add (.tmp 8) (kI 1)),
 oo 8 (.mv (.tmp 18))] [18])))))))
 (.seq
 (.region false [oo 4 (.mv (kI (-1)))] [])
 .ret)))
set_option maxRecDepth 100000 in
theorem kslices_IndexFunc_L_L_Japi_Part_Kapi_Part_J : IsCode Tryd.prog 80 19 cslices_IndexFunc_L_L_Japi_Part_Kapi_Part_J [.tmp 4] :=
 ⟨Tryd.f80, _, [16,9,0,8,7,1,5,4], Tryd.func80, rfl, by decide, rfl, by kernel_rfl, by kernel_rfl⟩
def cslices_ContainsFunc_L_L_Japi_Part_Kapi_Part_J : ACode :=
 (.seq
 (.region false [oo 4 (.mv (.const (.bool false)))] [])
 (.seq
 (.region false [oo 5 (.mv (.tmp 0)),
 oo 6 (.mv (.tmp 1)),
 oo 7 (.call (.func 80) [(.tmp 5), (.tmp 6)]),
 oo 8 (.bin .geq (.tmp 7) (kI 0)),
 oo 4 (.mv (.tmp 8))] [5,6,7,8])
 .ret))
set_option maxRecDepth 100000 in
theorem kslices_ContainsFunc_L_L_Japi_Part_Kapi_Part_J : IsCode Tryd.prog 59 9 cslices_ContainsFunc_L_L_Japi_Part_Kapi_Part_J [.tmp 4] :=
 ⟨Tryd.f59, _, [0,1,4], Tryd.func59, rfl, by decide, rfl, by kernel_rfl, by kernel_rfl⟩
def cslices_IndexFunc_L_L_Japi_Order_Kapi_Order_J : ACode :=
 (.seq
 (.region false [oo 4 (.mv (kI 0))] [])
 (.seq
 (.seq
 (.region false [oo 6 (.mv (.tmp 0)),
 oo 7 (.len_ (.tmp 6)),
 oo 8 (.mv (kI 0))] [6])
 (.block 0
 (.loop
 (.seq
 (.region false [oo 9 (.bin .lss (.tmp 8) (.tmp 7))] [])
 (.seq
 (.cond (.tmp 9)
 .skip
 (.exit 0))
 (.seq
 (.block 1
 (.seq
 (.region false [oo 10 (.mv (.tmp 8)),
 oo 5 (.mv (.tmp 10))] [10])
 (.seq
 (.region false [oo 11 (.mv (.tmp 1)),
 oo 12 (.mv (.tmp 0)),
 oo 13 (.mv (.tmp 5)),
 oo 14 (.iadS 2 (.tmp 12) (.tmp 13)),
 oo 15 (.loadN 2 (.tmp 14)),
 oo 16 (.call (.tmp 11) [(.tmp 15)])] [11,12,13,14,15])
 (.cond (.tmp 16)
 (.seq
 (.region false [oo 17 (.mv (.tmp 5)),
 oo 4 (.mv (.tmp 17))] [17])
 .ret)
 .skip))))
 (.region false [oo 18 (.bin .add (.tmp 8) (kI 1)),
 oo 8 (.mv (.tmp 18))] [18])))))))
 (.seq
 (.region false [oo 4 (.mv (kI (-1)))] [])
 .ret)))
set_option maxRecDepth 100000 in
theorem kslices_IndexFunc_L_L_Japi_Order_Kapi_Order_J : IsCode Tryd.prog 81 19 cslices_IndexFunc_L_L_Japi_Order_Kapi_Order_J [.tmp 4] :=
 ⟨Tryd.f81, _, [16,9,0,8,7,1,5,4], Tryd.func81, rfl, by decide, rfl, by kernel_rfl, by kernel_rfl⟩
def cslices_ContainsFunc_L_L_Japi_Order_Kapi_Order_J : ACode :=
 (.seq
 (.region false [oo 4 (.mv (.const (.bool false)))] [])
 (.seq
 (.region false [oo 5 (.mv (.tmp 0)),
 oo 6 (.mv (.tmp 1)),
 oo 7 (.call (.func 81) [(.tmp 5), (.tmp 6)]),
 oo 8 (.bin .geq (.tmp 7) (kI 0)),
 oo 4 (.mv (.tmp 8))] [5,6,7,8])
 .ret))
set_option maxRecDepth 100000 in
theorem kslices_ContainsFunc_L_L_Japi_Order_Kapi_Order_J : IsCode Tryd.prog 61 9 cslices_ContainsFunc_L_L_Japi_Order_Kapi_Order_J [.tmp 4] :=
 ⟨Tryd.f61, _, [0,1,4], Tryd.func61, rfl, by decide, rfl, by kernel_rfl, by kernel_rfl⟩
def cparts_valid : ACode :=
 (.seq
 (.region false [oo 1 (.box (.tmp 0)),
 oo 2 (.mv (.const (.bool false)))] [])
 (.seq
 (.seq
 (.region false [oo 4 (.fad 0 (.tmp 1)),
 oo 5 (.load1 (.tmp 4)),
 oo 6 (.len_ (.tmp 5)),
 oo 7 (.bin .gtr (.tmp 6) (kI 6)),
 oo 8 (.mv (.tmp 7)),
 og 9 8 false (.fad 1 (.tmp 1)) [],
 og 10 8 false (.load1 (.tmp 9)) [],
 og 11 8 false (.len_ (.tmp 10)) [],
 og 12 8 false (.bin .gtr (.tmp 11) (kI 24)) [],
 oo 13 (.pick (.tmp 8) (.const (.bool true)) (.tmp 12)),
 oo 14 (.mv (.tmp 13)),
 og 15 14 false (.fad 3 (.tmp 1)) [],
 og 16 14 false (.load1 (.tmp 15)) [],
 og 17 14 false (.len_ (.tmp 16)) [],
 og 18 14 false (.bin .gtr (.tmp 17) (kI 6)) [],
 oo 19 (.pick (.tmp 14) (.const (.bool true)) (.tmp 18)),
 oo 20 (.mv (.tmp 19)),
 og 21 20 false (.fad 2 (.tmp 1)) [],
 og 22 20 false (.load1 (.tmp 21)) [],
 og 23 20 false (.call (.func 55) [(.tmp 22), (kI 0), (kI 4)]) [],
 og 24 20 false (.un .not (.tmp 23)) [],
 oo 25 (.pick (.tmp 20) (.const (.bool true)) (.tmp 24))] [4,5,6,7,8,9,10,11,12,13,14,15,16,17,18,19,20,21,22,23,24])
 (.cond (.tmp 25)
 (.seq
 (.region false [oo 2 (.mv (.const (.bool false)))] [])
 .ret)
 .skip))
 (.seq
 (.region false [oo 26 (.mkfn 56 [] [(.tmp 1)]),
 oo 3 (.mem [(.val (.nilFunc))]),
 on (.store 1 (.tmp 3) (.tmp 26))] [26])
 (.seq
 (.region false [oo 27 (.fad 0 (.tmp 1)),
 oo 28 (.load1 (.tmp 27)),
 oo 29 (.call (.func 57) [(.tmp 28), (.func 58)]),
 oo 30 (.un .not (.tmp 29)),
 oo 31 (.mv (.tmp 30)),
 og 32 31 true (.fad 1 (.tmp 1)) [],
 og 33 31 true (.load1 (.tmp 32)) [],
 og 34 31 true (.mkfn 60 [] [(.tmp 3)]) [],
 og 35 31 true (.call (.func 59) [(.tmp 33), (.tmp 34)]) [],
 og 36 31 true (.un .not (.tmp 35)) [],
 oo 37 (.pick (.tmp 31) (.tmp 36) (.const (.bool false))),
 oo 38 (.mv (.tmp 37)),
 og 39 38 true (.fad 3 (.tmp 1)) [],
 og 40 38 true (.load1 (.tmp 39)) [],
 og 41 38 true (.mkfn 62 [] [(.tmp 3)]) [],
 og 42 38 true (.call (.func 61) [(.tmp 40), (.tmp 41)]) [],
 og 43 38 true (.un .not (.tmp 42)) [],
 oo 44 (.pick (.tmp 38) (.tmp 43) (.const (.bool false))),
 oo 2 (.mv (.tmp 44))] [27,28,29,30,31,32,33,34,35,36,37,38,39,40,41,42,43,44])
 .ret))))
set_option maxRecDepth 100000 in
theorem kparts_valid : IsCode Tryd.prog 32 45 cparts_valid [.tmp 2] :=
 ⟨Tryd.f32, _, [25,0,1,3,2], Tryd.func32, rfl, by decide, rfl, by kernel_rfl, by kernel_rfl⟩
end Go.Proofs.YtdcodicoclecnaaDoor
/- parts: what a register must be. No conditions. -/
namespace Go.Proofs.YtdcodicoclecnaaDoor
open Go Go.RowKit Lift

set_option maxRecDepth 100000 in
set_option maxHeartbeats 1000000 in
theorem pwithin_ac (n a b : Int) : AC Tryd.prog 55 [dI n, dI a, dI b] [] [] (dB (wI n a b)) := by
  refine kparts_within.ac (n0 := 0) (by simp) ⟨.val _, .val _, .val _, trivial⟩ trivial rfl ?_
  unfold cparts_within wI
  cases q1 : decide (a ≤ n) <;> cases q2 : decide (n ≤ b)
  all_goals
    (repeat' (first | apply aw_seq | ((first | apply aw_skip | apply aw_exit); try simp only [thenQ, blockQ, if_true, if_false, Nat.reduceEqDiff, reduceCtorEq]) | apply aw_ret | apply aw_block | apply aw_condT rfl | apply aw_condF rfl | ((first | refine aw_region ?_ | refine ago_if (by omega) ?_ | skip); simp (disch := first | exact okY | omega) only [ZU, dB, Bool.and_false, Nat.reduceMul, dI, Nat.reduceAdd, AOpRun, aexec, Nat.reduceBEq, ↓eget_h, isSh, ↓reduceIte, abin, ge_iff_le, q1, ARun_some, AG_ft, AG_tt, q2])))
    all_goals (refine end_q [] [] ?_ ?_ <;> repeat' (first | exact trivial | exact vr_val _))
theorem any_idx {α : Type} (p : α → Bool) : ∀ l : List α, l.any p = (l.findIdx? p).isSome
  | [] => rfl
  | a :: l => by
    rw [List.any_cons, List.findIdx?_cons, any_idx p l]
    cases p a <;> simp
def ixP {α : Type} (p : α → Bool) (l : List α) : Int := match l.findIdx? p with
  | some k => (k : Int)
  | none => -1
theorem ixP_at {α : Type} {p : α → Bool} {l : List α} {k : Nat} {a : α} (h : l[k]? = some a) (hp : p a = true) (hn : ∀ j, j < k → ∀ b, l[j]? = some b → p b = false) : ixP p l = k := by
  have hk : k < l.length := by
    rcases Nat.lt_or_ge k l.length with h1 | h1
    · exact h1
    · rw [List.getElem?_eq_none h1] at h; cases h
  have q : l.findIdx? p = some k := by
    rw [List.findIdx?_eq_some_iff_getElem]
    refine ⟨hk, ?_, fun j hj => ?_⟩
    · rw [List.getElem?_eq_getElem hk] at h; cases h; simpa using hp
    · have := hn j hj (l[j]) (List.getElem?_eq_getElem (by omega))
      simpa using this
  unfold ixP
  rw [q]
theorem ixP_no {α : Type} {p : α → Bool} {l : List α} (hn : ∀ j, j < l.length → ∀ b, l[j]? = some b → p b = false) : ixP p l = -1 := by
  have q : l.findIdx? p = none := by
    rw [List.findIdx?_eq_none_iff]
    intro y hy
    obtain ⟨j, hj, rfl⟩ := List.getElem_of_mem hy
    have := hn j hj _ (List.getElem?_eq_getElem hj)
    simp [this]
  unfold ixP
  rw [q]
theorem idxI_any {α : Type} (p : α → Bool) (l : List α) : decide (ixP p l ≥ 0) = l.any p := by
  rw [any_idx]
  unfold ixP
  cases l.findIdx? p <;> simp
theorem nthI {α : Type} {l : List α} {k : Nat} (h : k < l.length) : ∃ a, l[k]? = some a := ⟨_, List.getElem?_eq_getElem h⟩
theorem kds_nth (l : List Kd) (k : Nat) (a : Kd) (h : l[k]? = some a) : (kds l)[k]? = some (kdC a) := by simp [kds, h]
theorem kds_all (l : List Kd) : (kds l).all (fun x => x.length == 3) = true := by simp [kds, kdC]
set_option maxRecDepth 100000 in
set_option maxHeartbeats 1000000 in
theorem ifKind_ac (F : FuncId) (p : Kd → Bool) (hF : ∀ x : Kd, AC Tryd.prog F ([.agg (kdC x)] ++ []) [] [] (dB (p x))) (l : List Kd) (hl : l.length ≤ 1000000) :
    AC Tryd.prog 79 [.list (kds l), .fn F [] []] [] [] (dI (ixP p l)) := by
  refine kslices_IndexFunc_L_L_Japi_Kind_Kapi_Kind_J.ac (n0 := 0) (by simp) ⟨.list _, .fn _ _ _ (by simp) (fun d hd => inF_in (List.all_eq_true.1 (show ([] : List D).all inF = true from rfl) d hd)), trivial⟩ trivial rfl ?_
  unfold cslices_IndexFunc_L_L_Japi_Kind_Kapi_Kind_J
  (repeat' (first | apply aw_seq | ((first | apply aw_skip | apply aw_exit); try simp only [thenQ, blockQ, if_true, if_false, Nat.reduceEqDiff, reduceCtorEq]) | apply aw_ret | apply aw_block | apply aw_condT rfl | apply aw_condF rfl | ((first | refine aw_region ?_ | refine ago_if (by omega) ?_ | skip); simp (disch := first | exact okY | omega) only [ZU, Int.reduceNeg, dI, Nat.reduceMul, AOpRun, aexec, Nat.reduceBEq, Nat.reduceAdd, ↓eget_h, kds_len])))
  refine aw_loop (fun k : Nat => ⟨[(0, .list (kds l)), (1, .fn F [] []), (7, dI l.length), (8, dI k)], [], 400⟩) (fun k => k ≤ l.length ∧ ∀ j, j < k → ∀ b, l[j]? = some b → p b = false) (fun k => l.length - k) ⟨0, ⟨by omega, fun j hj => by omega⟩, ?_⟩ ?_
  · refine wk_q [] [] ?_ ?_ <;> repeat' (first | exact trivial | exact vr_val _ | exact vr_list _ | apply vr_fn | apply And.intro)
  rintro k ⟨hk, hin⟩
  by_cases hk2 : k < l.length
  case neg =>
    obtain rfl : k = l.length := by omega
    rw [ixP_no hin]
    (have hg : (987654321 : Nat) - 987654321 = 0 := rfl; have hr := hg; repeat' (first | apply aw_seq | ((first | apply aw_skip | apply aw_exit); try simp only [thenQ, blockQ, if_true, if_false, Nat.reduceEqDiff, reduceCtorEq]) | apply aw_ret | apply aw_block | apply aw_condT rfl | apply aw_condF rfl | (refine aw_cond rfl (fun hg => ?_) (fun hg => ?_) <;> (try (have hq := hg; simp only [Bool.not_eq_true', Bool.not_eq_false', Bool.and_eq_true, Bool.and_eq_false_iff, Bool.or_eq_true, Bool.or_eq_false_iff, decide_eq_true_eq, decide_eq_false_iff_not, bne_iff_ne, beq_iff_eq, beq_eq_false_iff_ne, bne_eq_false_iff_eq, ne_eq, Int.not_lt, Int.not_le, Decidable.not_not] at hq)) <;> (try (have hr := hg; simp only [decide_eq_true_eq, decide_eq_false_iff_not] at hr)) <;> (try (exfalso; omega))) | ((first | refine aw_region ?_ | refine ago_if (by omega) ?_ | skip); simp (disch := first | exact okY | omega) only [ZU, dI, Int.reduceNeg, Nat.reduceMul, Nat.reduceAdd, AOpRun, aexec, Nat.reduceBEq, ↓eget_h, isSh, ↓reduceIte, abin, hr, decide_false])))
    all_goals (refine end_q [] [] ?_ ?_ <;> repeat' (first | exact trivial | exact vr_val _))
  obtain ⟨a, ha⟩ := nthI hk2
  have g1 := kds_nth l k a ha
  have ga := kds_all l
  have hc := hF a
  unfold kdC at g1 hc
  cases he : p a with
  | true =>
    rw [ixP_at ha he hin]
    rw [he] at hc
    (have hg : (987654321 : Nat) - 987654321 = 0 := rfl; have hr := hg; repeat' (first | apply aw_seq | ((first | apply aw_skip | apply aw_exit); try simp only [thenQ, blockQ, if_true, if_false, Nat.reduceEqDiff, reduceCtorEq]) | apply aw_ret | apply aw_block | apply aw_condT rfl | apply aw_condF rfl | (refine aw_cond rfl (fun hg => ?_) (fun hg => ?_) <;> (try (have hq := hg; simp only [Bool.not_eq_true', Bool.not_eq_false', Bool.and_eq_true, Bool.and_eq_false_iff, Bool.or_eq_true, Bool.or_eq_false_iff, decide_eq_true_eq, decide_eq_false_iff_not, bne_iff_ne, beq_iff_eq, beq_eq_false_iff_ne, bne_eq_false_iff_eq, ne_eq, Int.not_lt, Int.not_le, Decidable.not_not] at hq)) <;> (try (have hr := hg; simp only [decide_eq_true_eq, decide_eq_false_iff_not] at hr)) <;> (try (exfalso; omega))) | ((first | refine aw_region ?_ | refine acall0 (hc) ?_ | refine ago_if (by omega) ?_ | skip); simp (disch := first | exact okY | omega) only [ZU, dI, Int.reduceNeg, Nat.reduceMul, Nat.reduceAdd, AOpRun, aexec, Nat.reduceBEq, ↓eget_h, isSh, ↓reduceIte, abin, hr, ga, opt1, g1, Nat.reduceLeDiff, List.take, dB, blockQ])))
    all_goals (refine end_q [] [] ?_ ?_ <;> repeat' (first | exact trivial | exact vr_val _))
  | false =>
    rw [he] at hc
    (have hg : (987654321 : Nat) - 987654321 = 0 := rfl; have hr := hg; repeat' (first | apply aw_seq | ((first | apply aw_skip | apply aw_exit); try simp only [thenQ, blockQ, if_true, if_false, Nat.reduceEqDiff, reduceCtorEq]) | apply aw_ret | apply aw_block | apply aw_condT rfl | apply aw_condF rfl | (refine aw_cond rfl (fun hg => ?_) (fun hg => ?_) <;> (try (have hq := hg; simp only [Bool.not_eq_true', Bool.not_eq_false', Bool.and_eq_true, Bool.and_eq_false_iff, Bool.or_eq_true, Bool.or_eq_false_iff, decide_eq_true_eq, decide_eq_false_iff_not, bne_iff_ne, beq_iff_eq, beq_eq_false_iff_ne, bne_eq_false_iff_eq, ne_eq, Int.not_lt, Int.not_le, Decidable.not_not] at hq)) <;> (try (have hr := hg; simp only [decide_eq_true_eq, decide_eq_false_iff_not] at hr)) <;> (try (exfalso; omega))) | ((first | refine aw_region ?_ | refine acall0 (hc) ?_ | refine ago_if (by omega) ?_ | skip); simp (disch := first | exact okY | omega) only [ZU, dI, Int.reduceNeg, Nat.reduceMul, Nat.reduceAdd, AOpRun, aexec, Nat.reduceBEq, ↓eget_h, isSh, ↓reduceIte, abin, hr, ga, opt1, g1, Nat.reduceLeDiff, List.take, dB, fits])))
    refine ⟨k + 1, ⟨by omega, fun j hj b hb => ?_⟩, by omega, by refine wk_q [] [] ?_ ?_ <;> repeat' (first | exact trivial | exact vr_val _ | exact vr_list _ | apply vr_fn | apply And.intro)⟩
    rcases (by omega : j < k ∨ j = k) with h | rfl
    · exact hin j h b hb
    · rw [ha] at hb; cases hb; exact he
set_option maxRecDepth 100000 in
set_option maxHeartbeats 1000000 in
theorem cfKind_ac (F : FuncId) (p : Kd → Bool) (hF : ∀ x : Kd, AC Tryd.prog F ([.agg (kdC x)] ++ []) [] [] (dB (p x))) (l : List Kd) (hl : l.length ≤ 1000000) :
    AC Tryd.prog 57 [.list (kds l), .fn F [] []] [] [] (dB (l.any p)) := by
  refine kslices_ContainsFunc_L_L_Japi_Kind_Kapi_Kind_J.ac (n0 := 0) (by simp) ⟨.list _, .fn _ _ _ (by simp) (fun d hd => inF_in (List.all_eq_true.1 (show ([] : List D).all inF = true from rfl) d hd)), trivial⟩ trivial rfl ?_
  unfold cslices_ContainsFunc_L_L_Japi_Kind_Kapi_Kind_J
  have c1 := ifKind_ac F p hF l hl
  have q := idxI_any p l
  generalize l.any p = b at *
  (repeat' (first | apply aw_seq | ((first | apply aw_skip | apply aw_exit); try simp only [thenQ, blockQ, if_true, if_false, Nat.reduceEqDiff, reduceCtorEq]) | apply aw_ret | apply aw_block | apply aw_condT rfl | apply aw_condF rfl | ((first | refine aw_region ?_ | refine acall0 (c1) ?_ | refine ago_if (by omega) ?_ | skip); simp (disch := first | exact okY | omega) only [ZU, dB, Nat.reduceMul, AOpRun, aexec, Nat.reduceBEq, Nat.reduceAdd, ↓eget_h, dI, isSh, ↓reduceIte, abin, q])))
  all_goals (refine end_q [] [] ?_ ?_ <;> repeat' (first | exact trivial | exact vr_val _))
theorem p0s_nth (l : List P0) (k : Nat) (a : P0) (h : l[k]? = some a) : (p0s l)[k]? = some (p0C a) := by simp [p0s, h]
theorem p0s_all (l : List P0) : (p0s l).all (fun x => x.length == 4) = true := by simp [p0s, p0C]
set_option maxRecDepth 100000 in
set_option maxHeartbeats 1000000 in
theorem ifPart_ac (F : FuncId) (c0 : List D) (p : P0 → Bool) (hF : ∀ x : P0, AC Tryd.prog F ([.agg (p0C x)] ++ [.at_ c0]) [] [] (dB (p x))) (l : List P0) (hl : l.length ≤ 1000000) :
    AC Tryd.prog 80 [.list (p0s l), .fn F [] [.at_ c0]] [] [] (dI (ixP p l)) := by
  refine kslices_IndexFunc_L_L_Japi_Part_Kapi_Part_J.ac (n0 := 0) (by simp) ⟨.list _, .fn _ _ _ (by simp) (fun d hd => inF_in (List.all_eq_true.1 (show ([.at_ c0] : List D).all inF = true from rfl) d hd)), trivial⟩ trivial rfl ?_
  unfold cslices_IndexFunc_L_L_Japi_Part_Kapi_Part_J
  (repeat' (first | apply aw_seq | ((first | apply aw_skip | apply aw_exit); try simp only [thenQ, blockQ, if_true, if_false, Nat.reduceEqDiff, reduceCtorEq]) | apply aw_ret | apply aw_block | apply aw_condT rfl | apply aw_condF rfl | ((first | refine aw_region ?_ | refine ago_if (by omega) ?_ | skip); simp (disch := first | exact okY | omega) only [ZU, Int.reduceNeg, dI, Nat.reduceMul, AOpRun, aexec, Nat.reduceBEq, Nat.reduceAdd, ↓eget_h, p0s_len])))
  refine aw_loop (fun k : Nat => ⟨[(0, .list (p0s l)), (1, .fn F [] [.at_ c0]), (7, dI l.length), (8, dI k)], [], 400⟩) (fun k => k ≤ l.length ∧ ∀ j, j < k → ∀ b, l[j]? = some b → p b = false) (fun k => l.length - k) ⟨0, ⟨by omega, fun j hj => by omega⟩, ?_⟩ ?_
  · refine wk_q [] [] ?_ ?_ <;> repeat' (first | exact trivial | exact vr_val _ | exact vr_list _ | exact vr_at _ | apply vr_fn | apply And.intro)
  rintro k ⟨hk, hin⟩
  by_cases hk2 : k < l.length
  case neg =>
    obtain rfl : k = l.length := by omega
    rw [ixP_no hin]
    (have hg : (987654321 : Nat) - 987654321 = 0 := rfl; have hr := hg; repeat' (first | apply aw_seq | ((first | apply aw_skip | apply aw_exit); try simp only [thenQ, blockQ, if_true, if_false, Nat.reduceEqDiff, reduceCtorEq]) | apply aw_ret | apply aw_block | apply aw_condT rfl | apply aw_condF rfl | (refine aw_cond rfl (fun hg => ?_) (fun hg => ?_) <;> (try (have hq := hg; simp only [Bool.not_eq_true', Bool.not_eq_false', Bool.and_eq_true, Bool.and_eq_false_iff, Bool.or_eq_true, Bool.or_eq_false_iff, decide_eq_true_eq, decide_eq_false_iff_not, bne_iff_ne, beq_iff_eq, beq_eq_false_iff_ne, bne_eq_false_iff_eq, ne_eq, Int.not_lt, Int.not_le, Decidable.not_not] at hq)) <;> (try (have hr := hg; simp only [decide_eq_true_eq, decide_eq_false_iff_not] at hr)) <;> (try (exfalso; omega))) | ((first | refine aw_region ?_ | refine ago_if (by omega) ?_ | skip); simp (disch := first | exact okY | omega) only [ZU, dI, Int.reduceNeg, Nat.reduceMul, Nat.reduceAdd, AOpRun, aexec, Nat.reduceBEq, ↓eget_h, isSh, ↓reduceIte, abin, hr, decide_false])))
    all_goals (refine end_q [] [] ?_ ?_ <;> repeat' (first | exact trivial | exact vr_val _))
  obtain ⟨a, ha⟩ := nthI hk2
  have g1 := p0s_nth l k a ha
  have ga := p0s_all l
  have hc := hF a
  unfold p0C at g1 hc
  cases he : p a with
  | true =>
    rw [ixP_at ha he hin]
    rw [he] at hc
    (have hg : (987654321 : Nat) - 987654321 = 0 := rfl; have hr := hg; repeat' (first | apply aw_seq | ((first | apply aw_skip | apply aw_exit); try simp only [thenQ, blockQ, if_true, if_false, Nat.reduceEqDiff, reduceCtorEq]) | apply aw_ret | apply aw_block | apply aw_condT rfl | apply aw_condF rfl | (refine aw_cond rfl (fun hg => ?_) (fun hg => ?_) <;> (try (have hq := hg; simp only [Bool.not_eq_true', Bool.not_eq_false', Bool.and_eq_true, Bool.and_eq_false_iff, Bool.or_eq_true, Bool.or_eq_false_iff, decide_eq_true_eq, decide_eq_false_iff_not, bne_iff_ne, beq_iff_eq, beq_eq_false_iff_ne, bne_eq_false_iff_eq, ne_eq, Int.not_lt, Int.not_le, Decidable.not_not] at hq)) <;> (try (have hr := hg; simp only [decide_eq_true_eq, decide_eq_false_iff_not] at hr)) <;> (try (exfalso; omega))) | ((first | refine aw_region ?_ | refine acall0 (hc) ?_ | refine ago_if (by omega) ?_ | skip); simp (disch := first | exact okY | omega) only [ZU, dI, Int.reduceNeg, Nat.reduceMul, Nat.reduceAdd, AOpRun, aexec, Nat.reduceBEq, ↓eget_h, isSh, ↓reduceIte, abin, hr, ga, opt1, g1, dB, Nat.reduceLeDiff, List.take, blockQ])))
    all_goals (refine end_q [] [] ?_ ?_ <;> repeat' (first | exact trivial | exact vr_val _))
  | false =>
    rw [he] at hc
    (have hg : (987654321 : Nat) - 987654321 = 0 := rfl; have hr := hg; repeat' (first | apply aw_seq | ((first | apply aw_skip | apply aw_exit); try simp only [thenQ, blockQ, if_true, if_false, Nat.reduceEqDiff, reduceCtorEq]) | apply aw_ret | apply aw_block | apply aw_condT rfl | apply aw_condF rfl | (refine aw_cond rfl (fun hg => ?_) (fun hg => ?_) <;> (try (have hq := hg; simp only [Bool.not_eq_true', Bool.not_eq_false', Bool.and_eq_true, Bool.and_eq_false_iff, Bool.or_eq_true, Bool.or_eq_false_iff, decide_eq_true_eq, decide_eq_false_iff_not, bne_iff_ne, beq_iff_eq, beq_eq_false_iff_ne, bne_eq_false_iff_eq, ne_eq, Int.not_lt, Int.not_le, Decidable.not_not] at hq)) <;> (try (have hr := hg; simp only [decide_eq_true_eq, decide_eq_false_iff_not] at hr)) <;> (try (exfalso; omega))) | ((first | refine aw_region ?_ | refine acall0 (hc) ?_ | refine ago_if (by omega) ?_ | skip); simp (disch := first | exact okY | omega) only [ZU, dI, Int.reduceNeg, Nat.reduceMul, Nat.reduceAdd, AOpRun, aexec, Nat.reduceBEq, ↓eget_h, isSh, ↓reduceIte, abin, hr, ga, opt1, g1, dB, Nat.reduceLeDiff, List.take, fits])))
    refine ⟨k + 1, ⟨by omega, fun j hj b hb => ?_⟩, by omega, by refine wk_q [] [] ?_ ?_ <;> repeat' (first | exact trivial | exact vr_val _ | exact vr_list _ | exact vr_at _ | apply vr_fn | apply And.intro)⟩
    rcases (by omega : j < k ∨ j = k) with h | rfl
    · exact hin j h b hb
    · rw [ha] at hb; cases hb; exact he
set_option maxRecDepth 100000 in
set_option maxHeartbeats 1000000 in
theorem cfPart_ac (F : FuncId) (c0 : List D) (p : P0 → Bool) (hF : ∀ x : P0, AC Tryd.prog F ([.agg (p0C x)] ++ [.at_ c0]) [] [] (dB (p x))) (l : List P0) (hl : l.length ≤ 1000000) :
    AC Tryd.prog 59 [.list (p0s l), .fn F [] [.at_ c0]] [] [] (dB (l.any p)) := by
  refine kslices_ContainsFunc_L_L_Japi_Part_Kapi_Part_J.ac (n0 := 0) (by simp) ⟨.list _, .fn _ _ _ (by simp) (fun d hd => inF_in (List.all_eq_true.1 (show ([.at_ c0] : List D).all inF = true from rfl) d hd)), trivial⟩ trivial rfl ?_
  unfold cslices_ContainsFunc_L_L_Japi_Part_Kapi_Part_J
  have c1 := ifPart_ac F c0 p hF l hl
  have q := idxI_any p l
  generalize l.any p = b at *
  (repeat' (first | apply aw_seq | ((first | apply aw_skip | apply aw_exit); try simp only [thenQ, blockQ, if_true, if_false, Nat.reduceEqDiff, reduceCtorEq]) | apply aw_ret | apply aw_block | apply aw_condT rfl | apply aw_condF rfl | ((first | refine aw_region ?_ | refine acall0 (c1) ?_ | refine ago_if (by omega) ?_ | skip); simp (disch := first | exact okY | omega) only [ZU, dB, Nat.reduceMul, AOpRun, aexec, Nat.reduceBEq, Nat.reduceAdd, ↓eget_h, dI, isSh, ↓reduceIte, abin, q])))
  all_goals (refine end_q [] [] ?_ ?_ <;> repeat' (first | exact trivial | exact vr_val _))
theorem ods_nth (l : List (Int × Int)) (k : Nat) (a : (Int × Int)) (h : l[k]? = some a) : (ods l)[k]? = some (odC a) := by simp [ods, h]
theorem ods_all (l : List (Int × Int)) : (ods l).all (fun x => x.length == 2) = true := by simp [ods, odC]
set_option maxRecDepth 100000 in
set_option maxHeartbeats 1000000 in
theorem ifOrder_ac (F : FuncId) (c0 : List D) (p : (Int × Int) → Bool) (hF : ∀ x : (Int × Int), AC Tryd.prog F ([.agg (odC x)] ++ [.at_ c0]) [] [] (dB (p x))) (l : List (Int × Int)) (hl : l.length ≤ 1000000) :
    AC Tryd.prog 81 [.list (ods l), .fn F [] [.at_ c0]] [] [] (dI (ixP p l)) := by
  refine kslices_IndexFunc_L_L_Japi_Order_Kapi_Order_J.ac (n0 := 0) (by simp) ⟨.list _, .fn _ _ _ (by simp) (fun d hd => inF_in (List.all_eq_true.1 (show ([.at_ c0] : List D).all inF = true from rfl) d hd)), trivial⟩ trivial rfl ?_
  unfold cslices_IndexFunc_L_L_Japi_Order_Kapi_Order_J
  (repeat' (first | apply aw_seq | ((first | apply aw_skip | apply aw_exit); try simp only [thenQ, blockQ, if_true, if_false, Nat.reduceEqDiff, reduceCtorEq]) | apply aw_ret | apply aw_block | apply aw_condT rfl | apply aw_condF rfl | ((first | refine aw_region ?_ | refine ago_if (by omega) ?_ | skip); simp (disch := first | exact okY | omega) only [ZU, Int.reduceNeg, dI, Nat.reduceMul, AOpRun, aexec, Nat.reduceBEq, Nat.reduceAdd, ↓eget_h, ods_len])))
  refine aw_loop (fun k : Nat => ⟨[(0, .list (ods l)), (1, .fn F [] [.at_ c0]), (7, dI l.length), (8, dI k)], [], 400⟩) (fun k => k ≤ l.length ∧ ∀ j, j < k → ∀ b, l[j]? = some b → p b = false) (fun k => l.length - k) ⟨0, ⟨by omega, fun j hj => by omega⟩, ?_⟩ ?_
  · refine wk_q [] [] ?_ ?_ <;> repeat' (first | exact trivial | exact vr_val _ | exact vr_list _ | exact vr_at _ | apply vr_fn | apply And.intro)
  rintro k ⟨hk, hin⟩
  by_cases hk2 : k < l.length
  case neg =>
    obtain rfl : k = l.length := by omega
    rw [ixP_no hin]
    (have hg : (987654321 : Nat) - 987654321 = 0 := rfl; have hr := hg; repeat' (first | apply aw_seq | ((first | apply aw_skip | apply aw_exit); try simp only [thenQ, blockQ, if_true, if_false, Nat.reduceEqDiff, reduceCtorEq]) | apply aw_ret | apply aw_block | apply aw_condT rfl | apply aw_condF rfl | (refine aw_cond rfl (fun hg => ?_) (fun hg => ?_) <;> (try (have hq := hg; simp only [Bool.not_eq_true', Bool.not_eq_false', Bool.and_eq_true, Bool.and_eq_false_iff, Bool.or_eq_true, Bool.or_eq_false_iff, decide_eq_true_eq, decide_eq_false_iff_not, bne_iff_ne, beq_iff_eq, beq_eq_false_iff_ne, bne_eq_false_iff_eq, ne_eq, Int.not_lt, Int.not_le, Decidable.not_not] at hq)) <;> (try (have hr := hg; simp only [decide_eq_true_eq, decide_eq_false_iff_not] at hr)) <;> (try (exfalso; omega))) | ((first | refine aw_region ?_ | refine ago_if (by omega) ?_ | skip); simp (disch := first | exact okY | omega) only [ZU, dI, Int.reduceNeg, Nat.reduceMul, Nat.reduceAdd, AOpRun, aexec, Nat.reduceBEq, ↓eget_h, isSh, ↓reduceIte, abin, hr, decide_false])))
    all_goals (refine end_q [] [] ?_ ?_ <;> repeat' (first | exact trivial | exact vr_val _))
  obtain ⟨a, ha⟩ := nthI hk2
  have g1 := ods_nth l k a ha
  have ga := ods_all l
  have hc := hF a
  unfold odC at g1 hc
  cases he : p a with
  | true =>
    rw [ixP_at ha he hin]
    rw [he] at hc
    (have hg : (987654321 : Nat) - 987654321 = 0 := rfl; have hr := hg; repeat' (first | apply aw_seq | ((first | apply aw_skip | apply aw_exit); try simp only [thenQ, blockQ, if_true, if_false, Nat.reduceEqDiff, reduceCtorEq]) | apply aw_ret | apply aw_block | apply aw_condT rfl | apply aw_condF rfl | (refine aw_cond rfl (fun hg => ?_) (fun hg => ?_) <;> (try (have hq := hg; simp only [Bool.not_eq_true', Bool.not_eq_false', Bool.and_eq_true, Bool.and_eq_false_iff, Bool.or_eq_true, Bool.or_eq_false_iff, decide_eq_true_eq, decide_eq_false_iff_not, bne_iff_ne, beq_iff_eq, beq_eq_false_iff_ne, bne_eq_false_iff_eq, ne_eq, Int.not_lt, Int.not_le, Decidable.not_not] at hq)) <;> (try (have hr := hg; simp only [decide_eq_true_eq, decide_eq_false_iff_not] at hr)) <;> (try (exfalso; omega))) | ((first | refine aw_region ?_ | refine acall0 (hc) ?_ | refine ago_if (by omega) ?_ | skip); simp (disch := first | exact okY | omega) only [ZU, dI, Int.reduceNeg, Nat.reduceMul, Nat.reduceAdd, AOpRun, aexec, Nat.reduceBEq, ↓eget_h, isSh, ↓reduceIte, abin, hr, ga, opt1, g1, Nat.reduceLeDiff, List.take, dB, blockQ])))
    all_goals (refine end_q [] [] ?_ ?_ <;> repeat' (first | exact trivial | exact vr_val _))
  | false =>
    rw [he] at hc
    (have hg : (987654321 : Nat) - 987654321 = 0 := rfl; have hr := hg; repeat' (first | apply aw_seq | ((first | apply aw_skip | apply aw_exit); try simp only [thenQ, blockQ, if_true, if_false, Nat.reduceEqDiff, reduceCtorEq]) | apply aw_ret | apply aw_block | apply aw_condT rfl | apply aw_condF rfl | (refine aw_cond rfl (fun hg => ?_) (fun hg => ?_) <;> (try (have hq := hg; simp only [Bool.not_eq_true', Bool.not_eq_false', Bool.and_eq_true, Bool.and_eq_false_iff, Bool.or_eq_true, Bool.or_eq_false_iff, decide_eq_true_eq, decide_eq_false_iff_not, bne_iff_ne, beq_iff_eq, beq_eq_false_iff_ne, bne_eq_false_iff_eq, ne_eq, Int.not_lt, Int.not_le, Decidable.not_not] at hq)) <;> (try (have hr := hg; simp only [decide_eq_true_eq, decide_eq_false_iff_not] at hr)) <;> (try (exfalso; omega))) | ((first | refine aw_region ?_ | refine acall0 (hc) ?_ | refine ago_if (by omega) ?_ | skip); simp (disch := first | exact okY | omega) only [ZU, dI, Int.reduceNeg, Nat.reduceMul, Nat.reduceAdd, AOpRun, aexec, Nat.reduceBEq, ↓eget_h, isSh, ↓reduceIte, abin, hr, ga, opt1, g1, Nat.reduceLeDiff, List.take, dB, fits])))
    refine ⟨k + 1, ⟨by omega, fun j hj b hb => ?_⟩, by omega, by refine wk_q [] [] ?_ ?_ <;> repeat' (first | exact trivial | exact vr_val _ | exact vr_list _ | exact vr_at _ | apply vr_fn | apply And.intro)⟩
    rcases (by omega : j < k ∨ j = k) with h | rfl
    · exact hin j h b hb
    · rw [ha] at hb; cases hb; exact he
set_option maxRecDepth 100000 in
set_option maxHeartbeats 1000000 in
theorem cfOrder_ac (F : FuncId) (c0 : List D) (p : (Int × Int) → Bool) (hF : ∀ x : (Int × Int), AC Tryd.prog F ([.agg (odC x)] ++ [.at_ c0]) [] [] (dB (p x))) (l : List (Int × Int)) (hl : l.length ≤ 1000000) :
    AC Tryd.prog 61 [.list (ods l), .fn F [] [.at_ c0]] [] [] (dB (l.any p)) := by
  refine kslices_ContainsFunc_L_L_Japi_Order_Kapi_Order_J.ac (n0 := 0) (by simp) ⟨.list _, .fn _ _ _ (by simp) (fun d hd => inF_in (List.all_eq_true.1 (show ([.at_ c0] : List D).all inF = true from rfl) d hd)), trivial⟩ trivial rfl ?_
  unfold cslices_ContainsFunc_L_L_Japi_Order_Kapi_Order_J
  have c1 := ifOrder_ac F c0 p hF l hl
  have q := idxI_any p l
  generalize l.any p = b at *
  (repeat' (first | apply aw_seq | ((first | apply aw_skip | apply aw_exit); try simp only [thenQ, blockQ, if_true, if_false, Nat.reduceEqDiff, reduceCtorEq]) | apply aw_ret | apply aw_block | apply aw_condT rfl | apply aw_condF rfl | ((first | refine aw_region ?_ | refine acall0 (c1) ?_ | refine ago_if (by omega) ?_ | skip); simp (disch := first | exact okY | omega) only [ZU, dB, Nat.reduceMul, AOpRun, aexec, Nat.reduceBEq, Nat.reduceAdd, ↓eget_h, dI, isSh, ↓reduceIte, abin, q])))
  all_goals (refine end_q [] [] ?_ ?_ <;> repeat' (first | exact trivial | exact vr_val _))

set_option maxRecDepth 100000 in
set_option maxHeartbeats 1000000 in
theorem pv1_ac (r : Reg) (n : Int) : AC Tryd.prog 56 [dI n, .at_ (regC r)] [] [] (dB (kinB r n)) := by
  refine kparts_valid_S1.ac (n0 := 0) (by simp) ⟨.val _, .at_ _, trivial⟩ trivial rfl ?_
  unfold cparts_valid_S1 kinB regC
  have c1 := pwithin_ac n 0 (w64 (r.ks.length - 1))
  unfold w64 at *
  (repeat' (first | apply aw_seq | ((first | apply aw_skip | apply aw_exit); try simp only [thenQ, blockQ, if_true, if_false, Nat.reduceEqDiff, reduceCtorEq]) | apply aw_ret | apply aw_block | apply aw_condT rfl | apply aw_condF rfl | ((first | refine aw_region ?_ | refine acall0 (c1) ?_ | refine ago_if (by omega) ?_ | skip); simp (disch := first | exact okY | omega) only [ZU, dB, Nat.reduceMul, dI, AOpRun, aexec, Nat.reduceBEq, Nat.reduceAdd, ↓eget_h, List.drop, run1, kds_len, isSh, ↓reduceIte, abin])))
  all_goals (refine end_q [] [] ?_ ?_ <;> repeat' (first | exact trivial | exact vr_val _))
set_option maxRecDepth 100000 in
set_option maxHeartbeats 1000000 in
theorem pv2_ac (k : Kd) : AC Tryd.prog 58 [.agg (kdC k)] [] [] (dB (!kdB k)) := by
  refine kparts_valid_S2.ac (n0 := 0) (by simp) ⟨.agg _ (by intro d hd; simp [kdC] at hd; rcases hd with rfl | rfl | rfl <;> exact .val _), trivial⟩ trivial rfl ?_
  unfold cparts_valid_S2 kdB kdC
  have c1 := pwithin_ac k.h 1 100000
  have c2 := pwithin_ac k.c 1 100000
  have c3 := pwithin_ac k.p 0 4
  generalize wI k.h 1 100000 = b1 at *
  generalize wI k.c 1 100000 = b2 at *
  generalize wI k.p 0 4 = b3 at *
  cases b1 <;> cases b2 <;> cases b3
  all_goals
    (repeat' (first | apply aw_seq | ((first | apply aw_skip | apply aw_exit); try simp only [thenQ, blockQ, if_true, if_false, Nat.reduceEqDiff, reduceCtorEq]) | apply aw_ret | apply aw_block | apply aw_condT rfl | apply aw_condF rfl | ((first | refine aw_region ?_ | refine acall0 (c1) ?_ | refine acall0 (c2) ?_ | refine acall0 (c3) ?_ | refine ago_if (by omega) ?_ | skip); simp (disch := first | exact okY | omega) only [ZU, dB, Bool.and_false, Nat.reduceAdd, Nat.reduceMul, dI, AOpRun, aexec, D.isBot, ↓eget_h, or_self, ↓reduceIte, D.cells, Nat.reduceBEq, run1, ARun_some, AG_tf, AG_ff])))
    all_goals (refine end_q [] [] ?_ ?_ <;> repeat' (first | exact trivial | exact vr_val _))
set_option maxRecDepth 100000 in
set_option maxHeartbeats 1000000 in
theorem pv3_ac (r : Reg) (p : P0) : AC Tryd.prog 60 ([.agg (p0C p)] ++ [.at_ [.fn 56 [] [.at_ (regC r)]]]) [] [] (dB (!p0B r p)) := by
  refine kparts_valid_S3.ac (n0 := 0) (by simp) ⟨.agg _ (by intro d hd; simp [p0C] at hd; rcases hd with rfl | rfl | rfl | rfl <;> exact .val _), .at_ _, trivial⟩ trivial rfl ?_
  unfold cparts_valid_S3 p0B p0C
  have c0 := pv1_ac r p.kd
  have c1 := pwithin_ac p.h 0 100000
  have c2 := pwithin_ac p.c 0 100000
  generalize kinB r p.kd = b1 at *
  generalize wI p.h 0 100000 = b2 at *
  generalize wI p.c 0 100000 = b3 at *
  cases b1 <;> cases b2 <;> cases b3
  all_goals
    (repeat' (first | apply aw_seq | ((first | apply aw_skip | apply aw_exit); try simp only [thenQ, blockQ, if_true, if_false, Nat.reduceEqDiff, reduceCtorEq]) | apply aw_ret | apply aw_block | apply aw_condT rfl | apply aw_condF rfl | ((first | refine aw_region ?_ | refine acall0 (c0) ?_ | refine acall0 (c1) ?_ | refine acall0 (c2) ?_ | refine ago_if (by omega) ?_ | skip); simp (disch := first | exact okY | omega) only [ZU, dB, Bool.and_false, Nat.reduceAdd, Nat.reduceMul, dI, AOpRun, aexec, D.isBot, ↓eget_h, or_self, ↓reduceIte, D.cells, Nat.reduceBEq, run1, ARun_some, AG_tf, AG_ff])))
    all_goals (refine end_q [] [] ?_ ?_ <;> repeat' (first | exact trivial | exact vr_val _))
set_option maxRecDepth 100000 in
set_option maxHeartbeats 1000000 in
theorem pv4_ac (r : Reg) (o : Int × Int) : AC Tryd.prog 62 ([.agg (odC o)] ++ [.at_ [.fn 56 [] [.at_ (regC r)]]]) [] [] (dB (!odB r o)) := by
  refine kparts_valid_S4.ac (n0 := 0) (by simp) ⟨.agg _ (by intro d hd; simp [odC] at hd; rcases hd with rfl | rfl <;> exact .val _), .at_ _, trivial⟩ trivial rfl ?_
  unfold cparts_valid_S4 odB odC
  have c0 := pv1_ac r o.1
  have c1 := pwithin_ac o.2 0 100000
  generalize kinB r o.1 = b1 at *
  generalize wI o.2 0 100000 = b2 at *
  cases b1 <;> cases b2
  all_goals
    (repeat' (first | apply aw_seq | ((first | apply aw_skip | apply aw_exit); try simp only [thenQ, blockQ, if_true, if_false, Nat.reduceEqDiff, reduceCtorEq]) | apply aw_ret | apply aw_block | apply aw_condT rfl | apply aw_condF rfl | ((first | refine aw_region ?_ | refine acall0 (c0) ?_ | refine acall0 (c1) ?_ | refine ago_if (by omega) ?_ | skip); simp (disch := first | exact okY | omega) only [ZU, dB, Bool.and_false, Nat.reduceAdd, Nat.reduceMul, dI, AOpRun, aexec, D.isBot, ↓eget_h, or_self, ↓reduceIte, D.cells, Nat.reduceBEq, run1, ARun_some, AG_tf, AG_ff])))
    all_goals (refine end_q [] [] ?_ ?_ <;> repeat' (first | exact trivial | exact vr_val _))
end Go.Proofs.YtdcodicoclecnaaDoor
/- The functions' bodies, translated. Written by a program; no conditions. -/
namespace Go.Proofs.YtdcodicoclecnaaDoor
open Go.RowKit Lift

def cpparts_hangar_machine : ACode :=
 (.seq
 (.region false [oo 4 (.mv (.const (.bool false)))] [])
 (.seq
 (.region false [oo 5 (.mv (.tmp 1)),
 oo 6 (.mv (.tmp 0)),
 oo 7 (.nilc (.tmp 6)),
 oo 8 (.fad 0 (.tmp 7)),
 oo 9 (.fad 2 (.tmp 8)),
 oo 10 (.load1 (.tmp 9)),
 oo 11 (.bin .sub (.tmp 10) (kI 1)),
 oo 12 (.call (.func 55) [(.tmp 5), (kI 0), (.tmp 11)]),
 oo 4 (.mv (.tmp 12))] [5,6,7,8,9,10,11,12])
 .ret))
set_option maxRecDepth 100000 in
theorem kpparts_hangar_machine : IsCode Tryd.prog 82 13 cpparts_hangar_machine [.tmp 4] :=
 ⟨Tryd.f82, _, [1,0,4], Tryd.func82, rfl, by decide, rfl, by kernel_rfl, by kernel_rfl⟩
def cpparts_hangar_part : ACode :=
 (.seq
 (.region false [oo 4 (.mv (.const (.bool false)))] [])
 (.seq
 (.region false [oo 5 (.mv (.tmp 1)),
 oo 6 (.mv (.tmp 0)),
 oo 7 (.nilc (.tmp 6)),
 oo 8 (.fad 4 (.tmp 7)),
 oo 9 (.load1 (.tmp 8)),
 oo 10 (.len_ (.tmp 9)),
 oo 11 (.bin .sub (.tmp 10) (kI 1)),
 oo 12 (.call (.func 55) [(.tmp 5), (kI 0), (.tmp 11)]),
 oo 4 (.mv (.tmp 12))] [5,6,7,8,9,10,11,12])
 .ret))
set_option maxRecDepth 100000 in
theorem kpparts_hangar_part : IsCode Tryd.prog 66 13 cpparts_hangar_part [.tmp 4] :=
 ⟨Tryd.f66, _, [1,0,4], Tryd.func66, rfl, by decide, rfl, by kernel_rfl, by kernel_rfl⟩
def cpparts_hangar_order : ACode :=
 (.seq
 (.region false [oo 4 (.mv (.const (.bool false)))] [])
 (.seq
 (.region false [oo 5 (.mv (.tmp 1)),
 oo 6 (.mv (.tmp 0)),
 oo 7 (.nilc (.tmp 6)),
 oo 8 (.fad 0 (.tmp 7)),
 oo 9 (.fad 3 (.tmp 8)),
 oo 10 (.load1 (.tmp 9)),
 oo 11 (.len_ (.tmp 10)),
 oo 12 (.bin .sub (.tmp 11) (kI 1)),
 oo 13 (.call (.func 55) [(.tmp 5), (kI 0), (.tmp 12)]),
 oo 4 (.mv (.tmp 13))] [5,6,7,8,9,10,11,12,13])
 .ret))
set_option maxRecDepth 100000 in
theorem kpparts_hangar_order : IsCode Tryd.prog 68 14 cpparts_hangar_order [.tmp 4] :=
 ⟨Tryd.f68, _, [1,0,4], Tryd.func68, rfl, by decide, rfl, by kernel_rfl, by kernel_rfl⟩
def cslices_IndexFunc_L_L_Jpparts_part_Kpparts_part_J : ACode :=
 (.seq
 (.region false [oo 4 (.mv (kI 0))] [])
 (.seq
 (.seq
 (.region false [oo 6 (.mv (.tmp 0)),
 oo 7 (.len_ (.tmp 6)),
 oo 8 (.mv (kI 0))] [6])
 (.block 0
 (.loop
 (.seq
 (.region false [oo 9 (.bin .lss (.tmp 8) (.tmp 7))] [])
 (.seq
 (.cond (.tmp 9)
 .skip
 (.exit 0))
 (.seq
 (.block 1
 (.seq
 (.region false [oo 10 (.mv (.tmp 8)),
 oo 5 (.mv (.tmp 10))] [10])
 (.seq
 (.region false [oo 11 (.mv (.tmp 1)),
 oo 12 (.mv (.tmp 0)),
 oo 13 (.mv (.tmp 5)),
 oo 14 (.iadS 1 (.tmp 12) (.tmp 13)),
 oo 15 (.load1 (.tmp 14)),
 oo 16 (.call (.tmp 11) [(.tmp 15)])] [11,12,13,14,15])
 (.cond (.tmp 16)
 (.seq
 (.region false [oo 17 (.mv (.tmp 5)),
 oo 4 (.mv (.tmp 17))] [17])
 .ret)
 .skip))))
 (.region false [oo 18 (.bin .add (.tmp 8) (kI 1)),
 oo 8 (.mv (.tmp 18))] [18])))))))
 (.seq
 (.region false [oo 4 (.mv (kI (-1)))] [])
 .ret)))
set_option maxRecDepth 100000 in
theorem kslices_IndexFunc_L_L_Jpparts_part_Kpparts_part_J : IsCode Tryd.prog 89 19 cslices_IndexFunc_L_L_Jpparts_part_Kpparts_part_J [.tmp 4] :=
 ⟨Tryd.f89, _, [16,9,0,8,7,1,5,4], Tryd.func89, rfl, by decide, rfl, by kernel_rfl, by kernel_rfl⟩
def cpparts_hangar_at_S1 : ACode :=
 (.seq
 (.region false [oo 4 (.mv (.const (.bool false)))] [])
 (.seq
 (.region true [oo 5 (.mv (.tmp 0)),
 oa 6 (.nilc (.tmp 5)) [0],
 oa 7 (.fad 0 (.tmp 6)) [1,0],
 oa 8 (.fad 0 (.tmp 7)) [2,1,0],
 oa 9 (.load1 (.tmp 8)) [3,2,1,0],
 oo 10 (.load1 (.tmp 1)),
 oa 11 (.bin .eql (.tmp 9) (.tmp 10)) [4,3,2,1,0,5],
 oa 12 (.mv (.tmp 11)) [6,4,3,2,1,0,5],
 og 13 12 true (.mv (.tmp 0)) [7,6,4,3,2,1,0,5],
 og 14 12 true (.nilc (.tmp 13)) [8,7,6,4,3,2,1,0,5],
 og 15 12 true (.fad 4 (.tmp 14)) [9,8,7,6,4,3,2,1,0,5],
 og 16 12 true (.loadN 2 (.tmp 15)) [10,9,8,7,6,4,3,2,1,0,5],
 og 17 12 true (.loadN 2 (.tmp 2)) [7,6,4,3,2,1,0,5],
 og 18 12 true (.eqa false [false, false] (.tmp 16) (.tmp 17)) [11,10,9,8,7,6,4,3,2,1,0,5,12],
 oa 19 (.pick (.tmp 12) (.tmp 18) (.const (.bool false))) [7,6,4,3,2,1,0,5,13,11,10,9,8,12],
 oa 4 (.mv (.tmp 19)) [14,7,6,4,3,2,1,0,5,13,11,10,9,8,12]] [5,6,7,8,9,10,11,12,13,14,15,16,17,18,19])
 .ret))
set_option maxRecDepth 100000 in
theorem kpparts_hangar_at_S1 : IsCode Tryd.prog 90 20 cpparts_hangar_at_S1 [.tmp 4] :=
 ⟨Tryd.f90, _, [0,1,2,4], Tryd.func90, rfl, by decide, rfl, by kernel_rfl, by kernel_rfl⟩
def cpparts_hangar_at : ACode :=
 (.seq
 (.region false [oo 4 (.box (.tmp 1)),
 oo 5 (.box (.tmp 2)),
 oo 6 (.mv (kI 0))] [])
 (.seq
 (.region false [oo 7 (.mv (.tmp 0)),
 oo 8 (.nilc (.tmp 7)),
 oo 9 (.fad 4 (.tmp 8)),
 oo 10 (.load1 (.tmp 9)),
 oo 11 (.mkfn 90 [] [(.tmp 4), (.tmp 5)]),
 oo 12 (.call (.func 89) [(.tmp 10), (.tmp 11)]),
 oo 6 (.mv (.tmp 12))] [7,8,9,10,11,12])
 .ret))
set_option maxRecDepth 100000 in
theorem kpparts_hangar_at : IsCode Tryd.prog 84 13 cpparts_hangar_at [.tmp 6] :=
 ⟨Tryd.f84, _, [1,2,0,4,5,6], Tryd.func84, rfl, by decide, rfl, by kernel_rfl, by kernel_rfl⟩
def cpparts_hangar_lacks : ACode :=
 (.seq
 (.region false [oo 4 (.mv (.const (.slice none 0 0)))] [])
 (.seq
 (.seq
 (.region false [oo 8 (.mv (.tmp 0)),
 oo 9 (.nilc (.tmp 8)),
 oo 10 (.fad 0 (.tmp 9)),
 oo 11 (.fad 0 (.tmp 10)),
 oo 12 (.load1 (.tmp 11)),
 oo 13 (.len_ (.tmp 12)),
 oo 14 (.mv (kI 0))] [8,9,10,11])
 (.block 0
 (.loop
 (.seq
 (.region false [oo 15 (.bin .lss (.tmp 14) (.tmp 13))] [])
 (.seq
 (.cond (.tmp 15)
 .skip
 (.exit 0))
 (.seq
 (.block 1
 (.seq
 (.region false [oo 16 (.mv (.tmp 14)),
 oo 17 (.iadS 3 (.tmp 12) (.tmp 14)),
 oo 18 (.loadN 3 (.tmp 17)),
 oo 6 (.mem [(.val (.int .i64 0)), (.val (.int .i64 0)), (.val (.int .i64 0))]),
 oo 5 (.mv (.tmp 16)),
 on (.store 3 (.tmp 6) (.tmp 18))] [16,17,18])
 (.seq
 (.region false [oo 19 (.fad 2 (.tmp 6)),
 oo 20 (.load1 (.tmp 19)),
 oo 21 (.mv (kI 0))] [19])
 (.block 2
 (.loop
 (.seq
 (.region false [oo 22 (.bin .lss (.tmp 21) (.tmp 20))] [])
 (.seq
 (.cond (.tmp 22)
 .skip
 (.exit 2))
 (.seq
 (.block 3
 (.seq
 (.region false [oo 23 (.mv (.tmp 21)),
 oo 7 (.mv (.tmp 23))] [23])
 (.seq
 (.region false [oo 24 (.mv (.tmp 0)),
 oo 25 (.mv (.tmp 5)),
 oo 26 (.mv (.tmp 1)),
 oo 27 (.mv (.tmp 7)),
 oo 28 (.build [(.val (.int .i64 0)), (.val (.int .i64 0))] [(0,1, (.tmp 26)), (1,1, (.tmp 27))]),
 oo 29 (.call (.func 84) [(.tmp 24), (.tmp 25), (.tmp 28)]),
 oo 30 (.bin .lss (.tmp 29) (kI 0))] [24,25,26,27,28,29])
 (.cond (.tmp 30)
 (.region false [oo 31 (.mv (.tmp 4)),
 oo 32 (.mv (.tmp 5)),
 oo 33 (.mv (.tmp 7)),
 oo 34 (.build [(.val (.int .i64 0)), (.val (.int .i64 0))] [(0,1, (.tmp 32)), (1,1, (.tmp 33))]),
 oo 35 (.buildSl 2 1 [(.val (.int .i64 0)), (.val (.int .i64 0))] [(0,2, (.tmp 34))]),
 oo 36 (.app 2 16 (.tmp 31) (.tmp 35)),
 oo 4 (.mv (.tmp 36))] [31,32,33,34,35,36])
 .skip))))
 (.region false [oo 37 (.bin .add (.tmp 21) (kI 1)),
 oo 21 (.mv (.tmp 37))] [37])))))))))
 (.region false [oo 38 (.bin .add (.tmp 14) (kI 1)),
 oo 14 (.mv (.tmp 38))] [38])))))))
 (.seq
 (.region false [oo 39 (.mv (.tmp 4)),
 oo 4 (.mv (.tmp 39))] [39])
 .ret)))
set_option maxRecDepth 100000 in
theorem kpparts_hangar_lacks : IsCode Tryd.prog 87 40 cpparts_hangar_lacks [.tmp 4] :=
 ⟨Tryd.f87, _, [30,22,15,0,14,13,12,6,21,20,5,1,7,4], Tryd.func87, rfl, by decide, rfl, by kernel_rfl, by kernel_rfl⟩
def cpparts_hangar_left : ACode :=
 (.seq
 (.region false [oo 4 (.mv (kI 0)),
 oo 5 (.mv (kI 0))] [])
 (.seq
 (.region true [oo 9 (.mv (.tmp 0)),
 oa 10 (.nilc (.tmp 9)) [0],
 oa 11 (.fad 0 (.tmp 10)) [1,0],
 oa 12 (.fad 0 (.tmp 11)) [2,1,0],
 oa 13 (.load1 (.tmp 12)) [3,2,1,0],
 oo 14 (.mv (.tmp 1)),
 oa 15 (.nilc (.tmp 14)) [5],
 oa 16 (.fad 0 (.tmp 15)) [6,5],
 oa 17 (.fad 0 (.tmp 16)) [7,6,5],
 oa 18 (.load1 (.tmp 17)) [8,7,6,5],
 oa 19 (.iadS 3 (.tmp 13) (.tmp 18)) [4,3,2,1,0,9,8,7,6,5],
 oa 20 (.loadN 3 (.tmp 19)) [10,4,3,2,1,0,9,8,7,6,5],
 oo 6 (.mem [(.val (.int .i64 0)), (.val (.int .i64 0)), (.val (.int .i64 0))]),
 ⟨none, .store 3 (.tmp 6) (.tmp 20), none, [12,11,10,4,3,2,1,0,9,8,7,6,5]⟩] [9,10,11,12,13,14,15,16,17,18,19,20])
 (.seq
 (.region true [oo 21 (.fad 0 (.tmp 6)),
 oa 22 (.load1 (.tmp 21)) [0],
 oo 23 (.mv (.tmp 1)),
 oa 24 (.nilc (.tmp 23)) [2],
 oa 25 (.fad 0 (.tmp 24)) [3,2],
 oa 26 (.fad 1 (.tmp 25)) [4,3,2],
 oa 27 (.load1 (.tmp 26)) [5,4,3,2],
 oa 28 (.bin .sub (.tmp 22) (.tmp 27)) [1,0,6,5,4,3,2],
 oo 29 (.fad 1 (.tmp 6)),
 oa 30 (.load1 (.tmp 29)) [8],
 oo 31 (.mv (.tmp 1)),
 oa 32 (.nilc (.tmp 31)) [10],
 oa 33 (.fad 0 (.tmp 32)) [11,10],
 oa 34 (.fad 2 (.tmp 33)) [12,11,10],
 oa 35 (.load1 (.tmp 34)) [13,12,11,10],
 oa 36 (.bin .sub (.tmp 30) (.tmp 35)) [9,8,14,13,12,11,10],
 oa 4 (.mv (.tmp 28)) [7,1,0,6,5,4,3,2],
 oa 5 (.mv (.tmp 36)) [15,9,8,14,13,12,11,10,16,7,1,0,6,5,4,3,2]] [21,22,23,24,25,26,27,28,29,30,31,32,33,34,35,36])
 (.seq
 (.seq
 (.region false [oo 37 (.mv (.tmp 0)),
 oo 38 (.nilc (.tmp 37)),
 oo 39 (.fad 0 (.tmp 38)),
 oo 40 (.fad 3 (.tmp 39)),
 oo 41 (.load1 (.tmp 40)),
 oo 42 (.len_ (.tmp 41)),
 oo 43 (.mv (kI 0))] [37,38,39,40])
 (.block 0
 (.loop
 (.seq
 (.region false [oo 44 (.bin .lss (.tmp 43) (.tmp 42))] [])
 (.seq
 (.cond (.tmp 44)
 .skip
 (.exit 0))
 (.seq
 (.block 1
 (.seq
 (.region false [oo 45 (.mv (.tmp 43)),
 oo 46 (.iadS 2 (.tmp 41) (.tmp 43)),
 oo 47 (.loadN 2 (.tmp 46)),
 oo 8 (.mem [(.val (.int .i64 0)), (.val (.int .i64 0))]),
 oo 7 (.mv (.tmp 45)),
 on (.store 2 (.tmp 8) (.tmp 47))] [45,46,47])
 (.seq
 (.region true [oo 48 (.mv (.tmp 0)),
 oa 49 (.nilc (.tmp 48)) [0],
 oa 50 (.fad 5 (.tmp 49)) [1,0],
 oa 51 (.load1 (.tmp 50)) [2,1,0],
 oo 52 (.mv (.tmp 7)),
 oa 53 (.iadS 1 (.tmp 51) (.tmp 52)) [3,2,1,0,4],
 oa 54 (.load1 (.tmp 53)) [5,3,2,1,0,4],
 oa 55 (.mv (.tmp 54)) [6,5,3,2,1,0,4],
 og 56 55 true (.fad 0 (.tmp 8)) [7,6,5,3,2,1,0,4],
 og 57 55 true (.load1 (.tmp 56)) [8,7,6,5,3,2,1,0,4],
 og 58 55 true (.mv (.tmp 1)) [7,6,5,3,2,1,0,4],
 og 59 55 true (.nilc (.tmp 58)) [10,7,6,5,3,2,1,0,4],
 og 60 55 true (.fad 0 (.tmp 59)) [11,10,7,6,5,3,2,1,0,4],
 og 61 55 true (.fad 0 (.tmp 60)) [12,11,10,7,6,5,3,2,1,0,4],
 og 62 55 true (.load1 (.tmp 61)) [13,12,11,10,7,6,5,3,2,1,0,4],
 og 63 55 true (.bin .eql (.tmp 57) (.tmp 62)) [9,8,7,6,5,3,2,1,0,4,14,13,12,11,10],
 oa 64 (.pick (.tmp 55) (.tmp 63) (.const (.bool false))) [7,6,5,3,2,1,0,4,15,9,8,14,13,12,11,10],
 oa 65 (.mv (.tmp 64)) [16,7,6,5,3,2,1,0,4,15,9,8,14,13,12,11,10],
 og 66 65 true (.mv (.tmp 1)) [17,16,7,6,5,3,2,1,0,4,15,9,8,14,13,12,11,10],
 og 67 65 true (.nilc (.tmp 66)) [18,17,16,7,6,5,3,2,1,0,4,15,9,8,14,13,12,11,10],
 og 68 65 true (.fad 7 (.tmp 67)) [19,18,17,16,7,6,5,3,2,1,0,4,15,9,8,14,13,12,11,10],
 og 69 65 true (.load1 (.tmp 68)) [20,19,18,17,16,7,6,5,3,2,1,0,4,15,9,8,14,13,12,11,10],
 og 70 65 true (.mv (.tmp 7)) [17,16,7,6,5,3,2,1,0,4,15,9,8,14,13,12,11,10],
 og 71 65 true (.iadS 1 (.tmp 69) (.tmp 70)) [21,20,19,18,17,16,7,6,5,3,2,1,0,4,15,9,8,14,13,12,11,10,22],
 og 72 65 true (.load1 (.tmp 71)) [23,21,20,19,18,17,16,7,6,5,3,2,1,0,4,15,9,8,14,13,12,11,10,22],
 og 73 65 true (.un .not (.tmp 72)) [24,23,21,20,19,18,17,16,7,6,5,3,2,1,0,4,15,9,8,14,13,12,11,10,22],
 oa 74 (.pick (.tmp 65) (.tmp 73) (.const (.bool false))) [17,16,7,6,5,3,2,1,0,4,15,9,8,14,13,12,11,10,25,24,23,21,20,19,18,22]] [48,49,50,51,52,53,54,55,56,57,58,59,60,61,62,63,64,65,66,67,68,69,70,71,72,73])
 (.cond (.tmp 74)
 (.region true [oo 75 (.mv (.tmp 4)),
 oo 76 (.fad 1 (.tmp 8)),
 oa 77 (.load1 (.tmp 76)) [1],
 oo 78 (.mv (.tmp 1)),
 oa 79 (.nilc (.tmp 78)) [3],
 oa 80 (.fad 6 (.tmp 79)) [4,3],
 oa 81 (.load1 (.tmp 80)) [5,4,3],
 oo 82 (.mv (.tmp 7)),
 oa 83 (.iadS 1 (.tmp 81) (.tmp 82)) [6,5,4,3,7],
 oa 84 (.load1 (.tmp 83)) [8,6,5,4,3,7],
 oa 85 (.bin .sub (.tmp 77) (.tmp 84)) [2,1,9,8,6,5,4,3,7],
 oa 86 (.mnx false [(.tmp 75), (.tmp 85)]) [0,10,2,1,9,8,6,5,4,3,7],
 oa 4 (.mv (.tmp 86)) [11,0,10,2,1,9,8,6,5,4,3,7]] [75,76,77,78,79,80,81,82,83,84,85,86])
 .skip))))
 (.region false [oo 87 (.bin .add (.tmp 43) (kI 1)),
 oo 43 (.mv (.tmp 87))] [87])))))))
 (.seq
 (.region false [oo 88 (.mv (.tmp 4)),
 oo 89 (.mv (.tmp 5)),
 oo 4 (.mv (.tmp 88)),
 oo 5 (.mv (.tmp 89))] [88,89])
 .ret)))))
set_option maxRecDepth 100000 in
theorem kpparts_hangar_left : IsCode Tryd.prog 88 90 cpparts_hangar_left [.tmp 4, .tmp 5] :=
 ⟨Tryd.f88, _, [74,44,0,1,6,43,42,41,7,8,4,5], Tryd.func88, rfl, by decide, rfl, by kernel_rfl, by kernel_rfl⟩
def cpparts_hangar_longest : ACode :=
 (.seq
 (.region false [oo 6 (.mv (kI 0))] [])
 (.seq
 (.seq
 (.region false [oo 12 (.mv (.tmp 0)),
 oo 13 (.mv (.tmp 1)),
 oo 14 (.call (.func 87) [(.tmp 12), (.tmp 13)]),
 oo 15 (.len_ (.tmp 14)),
 oo 16 (.bin .gtr (.tmp 15) (kI 0))] [12,13,14,15])
 (.cond (.tmp 16)
 (.seq
 (.region false [oo 6 (.mv (kI (-1)))] [])
 .ret)
 .skip))
 (.seq
 (.region false [oo 7 (.mv (kI 100))] [])
 (.seq
 (.seq
 (.region false [oo 17 (.mv (.tmp 0)),
 oo 18 (.nilc (.tmp 17)),
 oo 19 (.fad 4 (.tmp 18)),
 oo 20 (.load1 (.tmp 19)),
 oo 21 (.len_ (.tmp 20)),
 oo 22 (.mv (kI 0))] [17,18,19])
 (.block 0
 (.loop
 (.seq
 (.region false [oo 23 (.bin .lss (.tmp 22) (.tmp 21))] [])
 (.seq
 (.cond (.tmp 23)
 .skip
 (.exit 0))
 (.seq
 (.block 1
 (.seq
 (.region false [oo 24 (.iadS 1 (.tmp 20) (.tmp 22)),
 oo 25 (.load1 (.tmp 24)),
 oo 9 (.mv (.tmp 25))] [24,25])
 (.seq
 (.seq
 (.region false [oo 26 (.mv (.tmp 9)),
 oo 27 (.nilc (.tmp 26)),
 oo 28 (.fad 4 (.tmp 27)),
 oo 29 (.iadA 2 1 (.tmp 28) (kI 0)),
 oo 30 (.load1 (.tmp 29)),
 oo 31 (.mv (.tmp 1)),
 oo 32 (.bin .neq (.tmp 30) (.tmp 31))] [26,27,28,29,30,31])
 (.cond (.tmp 32)
 (.exit 1)
 .skip))
 (.seq
 (.region false [oo 34 (.mv (.tmp 0)),
 oo 35 (.mv (.tmp 9)),
 oo 36 (.call (.func 88) [(.tmp 34), (.tmp 35)]),
 oo 33 (.mv (.tmp 36)),
 oo 37 (.ext (.tmp 33) 0),
 oo 38 (.ext (.tmp 33) 1),
 oo 10 (.mv (.tmp 37)),
 oo 11 (.mv (.tmp 38))] [34,35,36,33,37,38])
 (.seq
 (.seq
 (.region false [oo 39 (.mv (.tmp 11)),
 oo 40 (.mv (.tmp 2)),
 oo 41 (.bin .lss (.tmp 39) (.tmp 40))] [39,40])
 (.cond (.tmp 41)
 (.seq
 (.region false [oo 6 (.mv (kI (-1)))] [])
 .ret)
 .skip))
 (.region false [oo 42 (.mv (.tmp 7)),
 oo 43 (.mv (.tmp 10)),
 oo 44 (.mnx false [(.tmp 42), (.tmp 43)]),
 oo 7 (.mv (.tmp 44))] [42,43,44]))))))
 (.region false [oo 45 (.bin .add (.tmp 22) (kI 1)),
 oo 22 (.mv (.tmp 45))] [45])))))))
 (.seq
 (.region false [oo 46 (.mv (.tmp 7)),
 oo 6 (.mv (.tmp 46))] [46])
 .ret)))))
set_option maxRecDepth 100000 in
theorem kpparts_hangar_longest : IsCode Tryd.prog 83 47 cpparts_hangar_longest [.tmp 6] :=
 ⟨Tryd.f83, _, [41,32,23,16,0,1,22,21,20,9,11,2,7,10,6], Tryd.func83, rfl, by decide, rfl, by kernel_rfl, by kernel_rfl⟩
end Go.Proofs.YtdcodicoclecnaaDoor
/- parts: a hangar as it is read: machine, part, order, at. No conditions. -/
namespace Go.Proofs.YtdcodicoclecnaaDoor
open Go Go.RowKit Lift

structure Prt where
  kd : Int
  h : Int
  c : Int
  kn : Bool
  m : Int
  pl : Int
  since : List Int
  chk : List Bool
  hist : List (List Int)
  hn : Nat
structure Hg where
  rg : Reg
  pts : List Prt
  iss : List Bool
  fl : List (Int × Int)
  works : Int
  pv : Nat
def ptV (p : Prt) : D := .at_ [dI p.kd, dI p.h, dI p.c, dB p.kn, dI p.m, dI p.pl, .list (ints p.since), .list (bools p.chk)]
def pvs (l : List Prt) : List (List D) := (l.map ptV).map fun d => [d]
def hgV (S : Hg) : D := .at_ [.list (kds S.rg.ks), .bot, dI S.rg.ms, .list (ods S.rg.os), .list (pvs S.pts), .list (bools S.iss), .bot, .bot, .bot]
theorem pvs_len (l : List Prt) : (pvs l).length = l.length := by simp [pvs]
theorem pvs_all (l : List Prt) : (pvs l).all (fun x => x.length == 1) = true := by simp [pvs]
theorem pvs_nth (l : List Prt) (k : Nat) (p : Prt) (h : l[k]? = some p) : (pvs l)[k]? = some [ptV p] := by simp [pvs, h]
def machB (S : Hg) (n : Int) : Bool := wI n 0 (w64 (S.rg.ms - 1))
def partB (S : Hg) (n : Int) : Bool := wI n 0 (w64 (S.pts.length - 1))
def ordB (S : Hg) (n : Int) : Bool := wI n 0 (w64 (S.rg.os.length - 1))
set_option maxRecDepth 100000 in
set_option maxHeartbeats 1000000 in
theorem mach_ac (S : Hg) (n : Int) : AC Tryd.prog 82 [hgV S, dI n] [] [] (dB (machB S n)) := by
  refine kpparts_hangar_machine.ac (n0 := 0) (by simp) ⟨.at_ _, .val _, trivial⟩ trivial rfl ?_
  unfold cpparts_hangar_machine machB hgV
  have c1 := pwithin_ac n 0 (w64 (S.rg.ms - 1))
  unfold w64 at *
  (repeat' (first | (with_reducible first | refine thenQ_n ?_ | refine blockQ_n ?_ | refine thenQ_e ?_ | refine blockQ_t ?_ | refine blockQ_f (by decide) ?_) | apply aw_seq | apply aw_skip | apply aw_exit | apply aw_ret | apply aw_block | apply aw_condT rfl | apply aw_condF rfl | ((first | refine aw_hide fun K hK => aw_region ?_ | refine acall0 (c1) ?_ | refine ago_if (by omega) ?_ | skip); simp (disch := first | exact okY | omega) only [ZU, Nat.reduceMul, dI, AOpRun, aexec, Nat.reduceBEq, Nat.reduceAdd, ↓eget_h, List.drop, run1, isSh, ↓reduceIte, abin, dB]) | subst hK))
  all_goals (refine end_q [] [] ?_ ?_ <;> repeat' (first | exact trivial | exact vr_val _))
set_option maxRecDepth 100000 in
set_option maxHeartbeats 1000000 in
theorem part_ac (S : Hg) (n : Int) : AC Tryd.prog 66 [hgV S, dI n] [] [] (dB (partB S n)) := by
  refine kpparts_hangar_part.ac (n0 := 0) (by simp) ⟨.at_ _, .val _, trivial⟩ trivial rfl ?_
  unfold cpparts_hangar_part partB hgV
  have c1 := pwithin_ac n 0 (w64 (S.pts.length - 1))
  unfold w64 at *
  (repeat' (first | (with_reducible first | refine thenQ_n ?_ | refine blockQ_n ?_ | refine thenQ_e ?_ | refine blockQ_t ?_ | refine blockQ_f (by decide) ?_) | apply aw_seq | apply aw_skip | apply aw_exit | apply aw_ret | apply aw_block | apply aw_condT rfl | apply aw_condF rfl | ((first | refine aw_hide fun K hK => aw_region ?_ | refine acall0 (c1) ?_ | refine ago_if (by omega) ?_ | skip); simp (disch := first | exact okY | omega) only [ZU, Nat.reduceMul, dI, AOpRun, aexec, Nat.reduceBEq, Nat.reduceAdd, ↓eget_h, List.drop, run1, pvs_len, isSh, ↓reduceIte, abin, dB]) | subst hK))
  all_goals (refine end_q [] [] ?_ ?_ <;> repeat' (first | exact trivial | exact vr_val _))
set_option maxRecDepth 100000 in
set_option maxHeartbeats 1000000 in
theorem ord_ac (S : Hg) (n : Int) : AC Tryd.prog 68 [hgV S, dI n] [] [] (dB (ordB S n)) := by
  refine kpparts_hangar_order.ac (n0 := 0) (by simp) ⟨.at_ _, .val _, trivial⟩ trivial rfl ?_
  unfold cpparts_hangar_order ordB hgV
  have c1 := pwithin_ac n 0 (w64 (S.rg.os.length - 1))
  unfold w64 at *
  (repeat' (first | (with_reducible first | refine thenQ_n ?_ | refine blockQ_n ?_ | refine thenQ_e ?_ | refine blockQ_t ?_ | refine blockQ_f (by decide) ?_) | apply aw_seq | apply aw_skip | apply aw_exit | apply aw_ret | apply aw_block | apply aw_condT rfl | apply aw_condF rfl | ((first | refine aw_hide fun K hK => aw_region ?_ | refine acall0 (c1) ?_ | refine ago_if (by omega) ?_ | skip); simp (disch := first | exact okY | omega) only [ZU, Nat.reduceMul, dI, AOpRun, aexec, Nat.reduceBEq, Nat.reduceAdd, ↓eget_h, List.drop, run1, ods_len, isSh, ↓reduceIte, abin, dB]) | subst hK))
  all_goals (refine end_q [] [] ?_ ?_ <;> repeat' (first | exact trivial | exact vr_val _))
def atB (k m pl : Int) (p : Prt) : Bool := (p.kd == k) && ((p.m == m) && (p.pl == pl))
set_option maxRecDepth 100000 in
set_option maxHeartbeats 1000000 in
theorem at1_ac (p : Prt) (k m pl : Int) : AC Tryd.prog 90 ([ptV p] ++ [.at_ [dI k], .at_ [dI m, dI pl]]) [] [] (dB (atB k m pl p)) := by
  refine kpparts_hangar_at_S1.ac (n0 := 0) (by simp) ⟨.at_ _, .at_ _, .at_ _, trivial⟩ trivial rfl ?_
  unfold cpparts_hangar_at_S1 atB ptV
  cases q1 : (p.kd == k) <;> cases q2 : (p.m == m) <;> cases q3 : (p.pl == pl)
  all_goals
    (repeat' (first | (with_reducible first | refine thenQ_n ?_ | refine blockQ_n ?_ | refine thenQ_e ?_ | refine blockQ_t ?_ | refine blockQ_f (by decide) ?_) | apply aw_seq | apply aw_skip | apply aw_exit | apply aw_ret | apply aw_block | apply aw_condT rfl | apply aw_condF rfl | ((first | refine aw_hide fun K hK => aw_region ?_ | refine ago_if (by omega) ?_ | skip); simp (disch := first | exact okY | omega) only [ZU, Nat.reduceMul, dI, dB, Nat.reduceAdd, AOpRun, aexec, Nat.reduceBEq, ↓eget_h, List.drop, run1, isSh, ↓reduceIte, abin, q1, ARun_some, AG_ft, Bool.and_false, AG_tt, Nat.reduceLeDiff, List.take, D.isAgg, D.cells, isB, eqCells, scalarEq, q2, q3, bne_self_eq_false]) | subst hK))
    all_goals (refine end_q [] [] ?_ ?_ <;> repeat' (first | exact trivial | exact vr_val _))
set_option maxRecDepth 100000 in
set_option maxHeartbeats 1000000 in
theorem ifPart2_ac (F : FuncId) (a b : List D) (p : Prt → Bool) (hF : ∀ x : Prt, AC Tryd.prog F ([ptV x] ++ [.at_ a, .at_ b]) [] [] (dB (p x))) (l : List Prt) (hl : l.length ≤ 1000000) :
    AC Tryd.prog 89 [.list (pvs l), .fn F [] [.at_ a, .at_ b]] [] [] (dI (ixP p l)) := by
  refine kslices_IndexFunc_L_L_Jpparts_part_Kpparts_part_J.ac (n0 := 0) (by simp) ⟨.list _, .fn _ _ _ (by simp) (fun d hd => inF_in (List.all_eq_true.1 (show ([.at_ a, .at_ b] : List D).all inF = true from rfl) d hd)), trivial⟩ trivial rfl ?_
  unfold cslices_IndexFunc_L_L_Jpparts_part_Kpparts_part_J
  (repeat' (first | apply aw_seq | ((first | apply aw_skip | apply aw_exit); try simp only [thenQ, blockQ, if_true, if_false, Nat.reduceEqDiff, reduceCtorEq]) | apply aw_ret | apply aw_block | apply aw_condT rfl | apply aw_condF rfl | ((first | refine aw_region ?_ | refine ago_if (by omega) ?_ | skip); simp (disch := first | exact okY | omega) only [ZU, Int.reduceNeg, dI, Nat.reduceMul, AOpRun, aexec, Nat.reduceBEq, Nat.reduceAdd, ↓eget_h, pvs_len])))
  refine aw_loop (fun k : Nat => ⟨[(0, .list (pvs l)), (1, .fn F [] [.at_ a, .at_ b]), (7, dI l.length), (8, dI k)], [], 400⟩) (fun k => k ≤ l.length ∧ ∀ j, j < k → ∀ b, l[j]? = some b → p b = false) (fun k => l.length - k) ⟨0, ⟨by omega, fun j hj => by omega⟩, ?_⟩ ?_
  · refine wk_q [] [] ?_ ?_ <;> repeat' (first | exact trivial | exact vr_val _ | exact vr_list _ | exact vr_at _ | apply vr_fn | apply And.intro)
  rintro k ⟨hk, hin⟩
  by_cases hk2 : k < l.length
  case neg =>
    obtain rfl : k = l.length := by omega
    rw [ixP_no hin]
    (have hg : (987654321 : Nat) - 987654321 = 0 := rfl; have hr := hg; repeat' (first | apply aw_seq | ((first | apply aw_skip | apply aw_exit); try simp only [thenQ, blockQ, if_true, if_false, Nat.reduceEqDiff, reduceCtorEq]) | apply aw_ret | apply aw_block | apply aw_condT rfl | apply aw_condF rfl | (refine aw_cond rfl (fun hg => ?_) (fun hg => ?_) <;> (try (have hq := hg; simp only [Bool.not_eq_true', Bool.not_eq_false', Bool.and_eq_true, Bool.and_eq_false_iff, Bool.or_eq_true, Bool.or_eq_false_iff, decide_eq_true_eq, decide_eq_false_iff_not, bne_iff_ne, beq_iff_eq, beq_eq_false_iff_ne, bne_eq_false_iff_eq, ne_eq, Int.not_lt, Int.not_le, Decidable.not_not] at hq)) <;> (try (have hr := hg; simp only [decide_eq_true_eq, decide_eq_false_iff_not] at hr)) <;> (try (exfalso; omega))) | ((first | refine aw_region ?_ | refine ago_if (by omega) ?_ | skip); simp (disch := first | exact okY | omega) only [ZU, dI, Int.reduceNeg, Nat.reduceMul, Nat.reduceAdd, AOpRun, aexec, Nat.reduceBEq, ↓eget_h, isSh, ↓reduceIte, abin, hr, decide_false])))
    all_goals (refine end_q [] [] ?_ ?_ <;> repeat' (first | exact trivial | exact vr_val _))
  obtain ⟨x, ha⟩ := nthI hk2
  have g1 := pvs_nth l k x ha
  have ga := pvs_all l
  have hc := hF x
  unfold ptV at g1 hc
  cases he : p x with
  | true =>
    rw [ixP_at ha he hin]
    rw [he] at hc
    (have hg : (987654321 : Nat) - 987654321 = 0 := rfl; have hr := hg; repeat' (first | apply aw_seq | ((first | apply aw_skip | apply aw_exit); try simp only [thenQ, blockQ, if_true, if_false, Nat.reduceEqDiff, reduceCtorEq]) | apply aw_ret | apply aw_block | apply aw_condT rfl | apply aw_condF rfl | (refine aw_cond rfl (fun hg => ?_) (fun hg => ?_) <;> (try (have hq := hg; simp only [Bool.not_eq_true', Bool.not_eq_false', Bool.and_eq_true, Bool.and_eq_false_iff, Bool.or_eq_true, Bool.or_eq_false_iff, decide_eq_true_eq, decide_eq_false_iff_not, bne_iff_ne, beq_iff_eq, beq_eq_false_iff_ne, bne_eq_false_iff_eq, ne_eq, Int.not_lt, Int.not_le, Decidable.not_not] at hq)) <;> (try (have hr := hg; simp only [decide_eq_true_eq, decide_eq_false_iff_not] at hr)) <;> (try (exfalso; omega))) | ((first | refine aw_region ?_ | refine acall0 (hc) ?_ | refine ago_if (by omega) ?_ | skip); simp (disch := first | exact okY | omega) only [ZU, dI, Int.reduceNeg, Nat.reduceMul, Nat.reduceAdd, AOpRun, aexec, Nat.reduceBEq, ↓eget_h, isSh, ↓reduceIte, abin, hr, ga, opt1, g1, dB, run1, blockQ])))
    all_goals (refine end_q [] [] ?_ ?_ <;> repeat' (first | exact trivial | exact vr_val _))
  | false =>
    rw [he] at hc
    (have hg : (987654321 : Nat) - 987654321 = 0 := rfl; have hr := hg; repeat' (first | apply aw_seq | ((first | apply aw_skip | apply aw_exit); try simp only [thenQ, blockQ, if_true, if_false, Nat.reduceEqDiff, reduceCtorEq]) | apply aw_ret | apply aw_block | apply aw_condT rfl | apply aw_condF rfl | (refine aw_cond rfl (fun hg => ?_) (fun hg => ?_) <;> (try (have hq := hg; simp only [Bool.not_eq_true', Bool.not_eq_false', Bool.and_eq_true, Bool.and_eq_false_iff, Bool.or_eq_true, Bool.or_eq_false_iff, decide_eq_true_eq, decide_eq_false_iff_not, bne_iff_ne, beq_iff_eq, beq_eq_false_iff_ne, bne_eq_false_iff_eq, ne_eq, Int.not_lt, Int.not_le, Decidable.not_not] at hq)) <;> (try (have hr := hg; simp only [decide_eq_true_eq, decide_eq_false_iff_not] at hr)) <;> (try (exfalso; omega))) | ((first | refine aw_region ?_ | refine acall0 (hc) ?_ | refine ago_if (by omega) ?_ | skip); simp (disch := first | exact okY | omega) only [ZU, dI, Int.reduceNeg, Nat.reduceMul, Nat.reduceAdd, AOpRun, aexec, Nat.reduceBEq, ↓eget_h, isSh, ↓reduceIte, abin, hr, ga, opt1, g1, dB, run1, fits])))
    refine ⟨k + 1, ⟨by omega, fun j hj b hb => ?_⟩, by omega, by refine wk_q [] [] ?_ ?_ <;> repeat' (first | exact trivial | exact vr_val _ | exact vr_list _ | exact vr_at _ | apply vr_fn | apply And.intro)⟩
    rcases (by omega : j < k ∨ j = k) with h | rfl
    · exact hin j h b hb
    · rw [ha] at hb; cases hb; exact he
def atI (S : Hg) (k m pl : Int) : Int := ixP (atB k m pl) S.pts
set_option maxRecDepth 100000 in
set_option maxHeartbeats 1000000 in
theorem hat_ac (S : Hg) (k m pl : Int) (hl : S.pts.length ≤ 1000000) : AC Tryd.prog 84 [hgV S, dI k, .agg [dI m, dI pl]] [] [] (dI (atI S k m pl)) := by
  refine kpparts_hangar_at.ac (n0 := 0) (by simp) ⟨.at_ _, .val _, .agg _ (by intro d hd; simp at hd; rcases hd with rfl | rfl <;> exact .val _), trivial⟩ trivial rfl ?_
  unfold cpparts_hangar_at atI hgV
  have c1 := ifPart2_ac _ _ _ _ (fun x => at1_ac x k m pl) S.pts hl
  generalize ixP (atB k m pl) S.pts = i at *
  (repeat' (first | (with_reducible first | refine thenQ_n ?_ | refine blockQ_n ?_ | refine thenQ_e ?_ | refine blockQ_t ?_ | refine blockQ_f (by decide) ?_) | apply aw_seq | apply aw_skip | apply aw_exit | apply aw_ret | apply aw_block | apply aw_condT rfl | apply aw_condF rfl | ((first | refine aw_hide fun K hK => aw_region ?_ | refine acall (c1) [0, 8] ⟨.refl _, vw_fn2 (vw_obj (by simp) rfl (VwL.refl _) rfl) (vw_obj (by simp) rfl (VwL.refl _) rfl), trivial⟩ (.inr (.val _)) (by simp only [List.mem_cons, List.not_mem_nil, or_false, forall_eq_or_imp, forall_eq]; first | exact ⟨_, rfl⟩ | exact ⟨⟨_, rfl⟩, ⟨_, rfl⟩⟩) (by kernel_rfl) ?_ | refine ago_if (by omega) ?_ | skip); simp (disch := first | exact okY | omega) only [ZU, Nat.reduceAdd, Nat.reduceMul, dI, AOpRun, aexec, D.isBot, Nat.reduceBEq, ↓eget_h, or_self, ↓reduceIte, D.cells, List.drop, run1]) | subst hK))
  all_goals (refine end_q [] [] ?_ ?_ <;> repeat' (first | exact trivial | exact vr_val _))
end Go.Proofs.YtdcodicoclecnaaDoor
