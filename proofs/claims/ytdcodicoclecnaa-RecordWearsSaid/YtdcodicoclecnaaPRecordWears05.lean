/- Texts of the law RecordWears, part 5. No conditions. -/
import Derived.Test.YtdcodicoclecnaaPRecordWears04
import Derived.Test.YtdcodicoclecnaaRows
import Derived.Shelf.RegionOpenPlain
import Derived.WalkKit
import Derived.Deep.LoopGhost
import Derived.Deep.RegionLaw
import Derived.Lib.Walk
import Derived.Lib.SliceRun
import Derived.Lib.Hide
set_option linter.unusedSimpArgs false
set_option linter.unusedVariables false
/- record: the small functions. No conditions. -/
namespace Go.Proofs.Ytdcodicoclecnaa
open Go.RowKit Lift

theorem wI_y {n a b : Int} (h1 : a ≤ n) (h2 : n ≤ b) : wI n a b = true := by simp [wI, h1, h2]
theorem in_flD (S : Nat → Prop) (f : Fl) : In S (flD f) := .agg _ (by intro d hd; simp [flC] at hd; rcases hd with rfl | rfl | rfl | rfl | rfl | rfl | rfl | rfl | rfl <;> exact .val _)
set_option maxRecDepth 100000 in
set_option maxHeartbeats 1000000 in
theorem within_ac (n a b : Int) : AC Try.prog 74 [dI n, dI a, dI b] [] [] (dB (wI n a b)) := by
  refine krecord_within.ac (n0 := 0) (by simp) ⟨.val _, .val _, .val _, trivial⟩ trivial rfl ?_
  unfold crecord_within dI dB wI
  (have hg : (987654321 : Nat) - 987654321 = 0 := rfl; have hr := hg; repeat' (first | apply aw_seq | ((first | apply aw_skip | apply aw_exit); try simp only [thenQ, blockQ, if_true, if_false, Nat.reduceEqDiff, reduceCtorEq]) | apply aw_ret | apply aw_block | apply aw_condT rfl | apply aw_condF rfl | (refine ag_bool (fun hg => ?_) (fun hg => ?_) <;> (try (have hq := hg; simp only [Bool.not_eq_true', Bool.not_eq_false', Bool.and_eq_true, Bool.and_eq_false_iff, Bool.or_eq_true, Bool.or_eq_false_iff, decide_eq_true_eq, decide_eq_false_iff_not, bne_iff_ne, beq_iff_eq, beq_eq_false_iff_ne, bne_eq_false_iff_eq, ne_eq, Int.not_lt, Int.not_le, Decidable.not_not] at hq)) <;> (try (have hr := hg; simp only [decide_eq_true_eq, decide_eq_false_iff_not] at hr)) <;> (try (exfalso; omega)) <;> simp (disch := first | exact okY | omega) only [ZU, hr, Bool.true_and, AG_tt, AOpRun, aexec, ↓eget_h, Nat.reduceAdd, Nat.reduceBEq, ARun_some, isSh, ↓reduceIte, abin, decide_false, Bool.false_and, AG_ft]) | ((first | refine aw_region ?_ | refine ago_if (by omega) ?_ | skip); simp (disch := first | exact okY | omega) only [ZU, Nat.reduceMul, Nat.reduceAdd, AOpRun, aexec, Nat.reduceBEq, ↓eget_h, isSh, ↓reduceIte, abin, ge_iff_le, ARun_some])))
  all_goals (refine end_q [] [] ?_ ?_ <;> repeat' (first | exact trivial | exact vr_val _))
set_option maxRecDepth 100000 in
set_option maxHeartbeats 1000000 in
theorem from_ac (n a b : Int) : AC Try.prog 79 [dI n, dI a, dI b] [] [] (dB (wI n a b)) := by
  refine kref12_from.ac (n0 := 0) (by simp) ⟨.val _, .val _, .val _, trivial⟩ trivial rfl ?_
  unfold cref12_from dI dB wI
  (have hg : (987654321 : Nat) - 987654321 = 0 := rfl; have hr := hg; repeat' (first | apply aw_seq | ((first | apply aw_skip | apply aw_exit); try simp only [thenQ, blockQ, if_true, if_false, Nat.reduceEqDiff, reduceCtorEq]) | apply aw_ret | apply aw_block | apply aw_condT rfl | apply aw_condF rfl | (refine ag_bool (fun hg => ?_) (fun hg => ?_) <;> (try (have hq := hg; simp only [Bool.not_eq_true', Bool.not_eq_false', Bool.and_eq_true, Bool.and_eq_false_iff, Bool.or_eq_true, Bool.or_eq_false_iff, decide_eq_true_eq, decide_eq_false_iff_not, bne_iff_ne, beq_iff_eq, beq_eq_false_iff_ne, bne_eq_false_iff_eq, ne_eq, Int.not_lt, Int.not_le, Decidable.not_not] at hq)) <;> (try (have hr := hg; simp only [decide_eq_true_eq, decide_eq_false_iff_not] at hr)) <;> (try (exfalso; omega)) <;> simp (disch := first | exact okY | omega) only [ZU, hr, Bool.true_and, AG_tt, AOpRun, aexec, ↓eget_h, Nat.reduceAdd, Nat.reduceBEq, ARun_some, isSh, ↓reduceIte, abin, decide_false, Bool.false_and, AG_ft]) | ((first | refine aw_region ?_ | refine ago_if (by omega) ?_ | skip); simp (disch := first | exact okY | omega) only [ZU, Nat.reduceMul, Nat.reduceAdd, AOpRun, aexec, Nat.reduceBEq, ↓eget_h, isSh, ↓reduceIte, abin, ge_iff_le, ARun_some])))
  all_goals (refine end_q [] [] ?_ ?_ <;> repeat' (first | exact trivial | exact vr_val _))
set_option maxRecDepth 100000 in
set_option maxHeartbeats 1000000 in
theorem beyond_ac (n : Int) : AC Try.prog 116 [dI n] [] [] (dB (!wI n 0 4095)) := by
  refine krecord_newTape_S1.ac (n0 := 0) (by simp) ⟨.val _, trivial⟩ trivial rfl ?_
  unfold crecord_newTape_S1
  (repeat' (first | apply aw_seq | ((first | apply aw_skip | apply aw_exit); try simp only [thenQ, blockQ, if_true, if_false, Nat.reduceEqDiff, reduceCtorEq]) | apply aw_ret | apply aw_block | apply aw_condT rfl | apply aw_condF rfl | ((first | refine aw_region ?_ | refine acall0 (within_ac _ _ _) ?_ | refine ago_if (by omega) ?_ | skip); simp (disch := first | exact okY | omega) only [ZU, dB, Nat.reduceMul, dI, AOpRun, aexec, Nat.reduceBEq, Nat.reduceAdd, ↓eget_h])))
  all_goals (refine end_q [] [] ?_ ?_ <;> repeat' (first | exact trivial | exact vr_val _))
def inB (f : Fl) (s : Int) : Bool := s.tmod f.every == f.phase
theorem inB_iff (f : Fl) (s : Int) : inB f s = true ↔ inSub f s := by unfold inB inSub; rw [beq_iff_eq]
theorem inB_t {f : Fl} {s : Int} (h : inSub f s) : inB f s = true := (inB_iff f s).2 h
theorem inB_f {f : Fl} {s : Int} (h : ¬ inSub f s) : inB f s = false := by
  cases hb : inB f s with
  | false => rfl
  | true => exact absurd ((inB_iff f s).1 hb) h
set_option maxRecDepth 100000 in
set_option maxHeartbeats 1000000 in
theorem in_sub_ac {w : Int} {f : Fl} (h : FOk w f) (s : Int) : AC Try.prog 77 [flD f, dI s] [] [] (dB (inB f s)) := by
  refine krecord_bits_in.ac (n0 := 0) (by simp) ⟨in_flD _ _, .val _, trivial⟩ trivial rfl ?_
  unfold crecord_bits_in flD flC inB
  have he : ¬ f.every = 0 := by have := h.ev; omega
  (repeat' (first | apply aw_seq | ((first | apply aw_skip | apply aw_exit); try simp only [thenQ, blockQ, if_true, if_false, Nat.reduceEqDiff, reduceCtorEq]) | apply aw_ret | apply aw_block | apply aw_condT rfl | apply aw_condF rfl | ((first | refine aw_region ?_ | refine ago_if (by omega) ?_ | skip); simp (disch := first | exact okY | omega) only [ZU, dB, Nat.reduceAdd, Nat.reduceMul, dI, AOpRun, aexec, D.isBot, ↓eget_h, or_self, ↓reduceIte, D.cells, Nat.reduceBEq, run1, isSh, abin, he])))
  all_goals (refine end_q [] [] ?_ ?_ <;> repeat' (first | exact trivial | exact vr_val _))
theorem mask_val {w : Int} {f : Fl} (h : FOk w f) : IntKind.i64.wrap (IntKind.i64.wrap (IntKind.i64.wrap (1 * 2 ^ min f.size.toNat IntKind.i64.bits) - 1) * 2 ^ min f.bit.toNat IntKind.i64.bits) = ((mskF f : Nat) : Int) := by
  obtain ⟨h1, h2, h3, h4, h5, h6, h7⟩ := size_pow h
  have e0 : IntKind.i64.bits = 64 := rfl
  have e1 : min f.size.toNat IntKind.i64.bits = f.size.toNat := by rw [e0]; omega
  have e2 : min f.bit.toNat IntKind.i64.bits = f.bit.toNat := by rw [e0]; omega
  rw [e1, e2]
  have e3 : ((2 ^ f.size.toNat : Nat) : Int) = (2 : Int) ^ f.size.toNat := by simp
  have q1 : IntKind.i64.wrap ((2 ^ f.size.toNat : Nat) : Int) = ((2 ^ f.size.toNat : Nat) : Int) := wrap_in (by omega) (by omega)
  have e4 : ((2 ^ f.size.toNat : Nat) : Int) - 1 = ((2 ^ f.size.toNat - 1 : Nat) : Int) := by omega
  have q2 : IntKind.i64.wrap ((2 ^ f.size.toNat - 1 : Nat) : Int) = ((2 ^ f.size.toNat - 1 : Nat) : Int) := wrap_in (by omega) (by omega)
  rw [← e3, Int.one_mul, q1, e4, q2, shl_nat]
  have := mskF_lt h
  exact wrap_in (by unfold mskF msk at this; omega) (by unfold mskF msk at this; omega)
set_option maxRecDepth 100000 in
set_option maxHeartbeats 1000000 in
theorem mask_ac {w : Int} {f : Fl} (h : FOk w f) : AC Try.prog 78 [flD f] [] [] (dI ((mskF f : Nat) : Int)) := by
  refine krecord_bits_mask.ac (n0 := 0) (by simp) ⟨in_flD _ _, trivial⟩ trivial rfl ?_
  unfold crecord_bits_mask flD flC
  have e1 := h.b1
  have e2 := h.s1
  have m := mask_val h
  have e3 : 0 ≤ f.size := by omega
  (repeat' (first | apply aw_seq | ((first | apply aw_skip | apply aw_exit); try simp only [thenQ, blockQ, if_true, if_false, Nat.reduceEqDiff, reduceCtorEq]) | apply aw_ret | apply aw_block | apply aw_condT rfl | apply aw_condF rfl | ((first | refine aw_region ?_ | refine ago_if (by omega) ?_ | skip); simp (disch := first | exact okY | omega) only [ZU, dI, Nat.reduceAdd, Nat.reduceMul, dB, AOpRun, aexec, D.isBot, ↓eget_h, or_self, ↓reduceIte, D.cells, Nat.reduceBEq, run1, isSh, ash, e3, abin, e1, m])))
  all_goals (refine end_q [] [] ?_ ?_ <;> repeat' (first | exact trivial | exact vr_val _))
set_option maxRecDepth 100000 in
set_option maxHeartbeats 1000000 in
theorem value_ac {w : Int} {f : Fl} (h : FOk w f) (x : Nat) : AC Try.prog 114 [flD f, dI (rawI f x)] [] [] (dI (valI f (rawI f x))) := by
  refine krecord_bits_value.ac (n0 := 0) (by simp) ⟨in_flD _ _, .val _, trivial⟩ trivial rfl ?_
  unfold crecord_bits_value flD flC
  have h1 := rawI_bd h x
  have h2 := mulB h.a1 h.a2 (by have := h.d1; omega : -(1000 : Int) ≤ f.den) h.d2
  have h3 := mulB h1.1 h1.2 h.n1 h.n2
  unfold valI
  generalize rawI f x = r at *
  have e1 : IntKind.i64.wrap (f.add * f.den) = f.add * f.den := wrap_in (by omega) (by omega)
  have e2 : IntKind.i64.wrap (r * f.num) = r * f.num := wrap_in (by omega) (by omega)
  have e3 : IntKind.i64.wrap (f.add * f.den + r * f.num) = f.add * f.den + r * f.num := wrap_in (by omega) (by omega)
  (repeat' (first | apply aw_seq | ((first | apply aw_skip | apply aw_exit); try simp only [thenQ, blockQ, if_true, if_false, Nat.reduceEqDiff, reduceCtorEq]) | apply aw_ret | apply aw_block | apply aw_condT rfl | apply aw_condF rfl | ((first | refine aw_region ?_ | refine ago_if (by omega) ?_ | skip); simp (disch := first | exact okY | omega) only [ZU, dI, Nat.reduceAdd, Nat.reduceMul, dB, AOpRun, aexec, D.isBot, ↓eget_h, or_self, ↓reduceIte, D.cells, Nat.reduceBEq, run1, isSh, abin, e1, e2, e3])))
  all_goals (refine end_q [] [] ?_ ?_ <;> repeat' (first | exact trivial | exact vr_val _))
set_option maxRecDepth 100000 in
set_option maxHeartbeats 1000000 in
theorem raw_ac {w : Int} {f : Fl} (h : FOk w f) (x : Nat) (hx : x < 4096) : AC Try.prog 115 [flD f, dI (x : Int)] [] [] (dI (rawI f x)) := by
  refine krecord_bits_raw.ac (n0 := 0) (by simp) ⟨in_flD _ _, .val _, trivial⟩ trivial rfl ?_
  unfold crecord_bits_raw flD flC
  obtain ⟨h1, h2, h3, h4, h5, h6, h7⟩ := size_pow h
  have b1 := h.b1
  have s1 := h.s1
  have s0 : 0 ≤ f.size := by omega
  have s2 : 0 ≤ f.size - 1 := by omega
  have e0 : IntKind.i64.bits = 64 := rfl
  have e1 : min f.bit.toNat IntKind.i64.bits = f.bit.toNat := by rw [e0]; omega
  have e2 : min (f.size - 1).toNat IntKind.i64.bits = f.size.toNat - 1 := by rw [e0]; omega
  have e3 : min f.size.toNat IntKind.i64.bits = f.size.toNat := by rw [e0]; omega
  have ml := mskF_lt h
  have a1 := and_nat x (mskF f) (by omega) (by omega)
  have a2 : Int.fdiv (((x &&& mskF f : Nat)) : Int) (2 ^ f.bit.toNat) = ((rawU f x : Nat) : Int) := by
    rw [fdiv_pow]; unfold mskF; rw [and_msk]; rfl
  have hr := rawU_lt h x
  have hr2 : rawU f x < 2 ^ f.size.toNat := Nat.mod_lt _ (by omega)
  have a3 : Int.fdiv ((rawU f x : Nat) : Int) (2 ^ (f.size.toNat - 1)) = ((rawU f x / 2 ^ (f.size.toNat - 1) : Nat) : Int) := fdiv_pow _ _
  have hi := half_iff (rawU f x) f.size.toNat h4 hr2
  have p1 : ((2 ^ f.size.toNat : Nat) : Int) = (2 : Int) ^ f.size.toNat := by simp
  have a4 : IntKind.i64.wrap (1 * 2 ^ f.size.toNat) = 2 ^ f.size.toNat := by rw [Int.one_mul]; exact wrap_in (by omega) (by omega)
  have mk := mask_ac h
  unfold flD flC at mk
  unfold rawI
  cases hs : f.sgn with
  | false =>
    rw [hs] at mk
    rw [if_neg (by rintro ⟨h, _⟩; cases h)]
    (repeat' (first | apply aw_seq | ((first | apply aw_skip | apply aw_exit); try simp only [thenQ, blockQ, if_true, if_false, Nat.reduceEqDiff, reduceCtorEq]) | apply aw_ret | apply aw_block | apply aw_condT rfl | apply aw_condF rfl | ((first | refine aw_region ?_ | refine acall0 (mk) ?_ | refine ago_if (by omega) ?_ | skip); simp (disch := first | exact okY | omega) only [ZU, dI, Nat.reduceAdd, Nat.reduceMul, dB, AOpRun, aexec, D.isBot, ↓eget_h, or_self, ↓reduceIte, D.cells, Nat.reduceBEq, Nat.reduceLeDiff, List.drop, List.take, isSh, abin, a1, run1, ash, b1, e1, a2, ARun_some, AG_ft])))
    all_goals (refine end_q [] [] ?_ ?_ <;> repeat' (first | exact trivial | exact vr_val _))
  | true =>
    rw [hs] at mk
    by_cases hh : 2 ^ (f.size.toNat - 1) ≤ rawU f x
    · have q : (((rawU f x / 2 ^ (f.size.toNat - 1) : Nat) : Int) == 1) = true := by rw [hi.2 hh]; rfl
      rw [if_pos ⟨rfl, hh⟩]
      have a5 : IntKind.i64.wrap (((rawU f x : Nat) : Int) - 2 ^ f.size.toNat) = ((rawU f x : Nat) : Int) - 2 ^ f.size.toNat := wrap_in (by omega) (by omega)
      (repeat' (first | apply aw_seq | ((first | apply aw_skip | apply aw_exit); try simp only [thenQ, blockQ, if_true, if_false, Nat.reduceEqDiff, reduceCtorEq]) | apply aw_ret | apply aw_block | apply aw_condT rfl | apply aw_condF rfl | ((first | refine aw_region ?_ | refine acall0 (mk) ?_ | refine ago_if (by omega) ?_ | skip); simp (disch := first | exact okY | omega) only [ZU, dI, Nat.reduceAdd, Nat.reduceMul, dB, AOpRun, aexec, D.isBot, ↓eget_h, or_self, ↓reduceIte, D.cells, Nat.reduceBEq, Nat.reduceLeDiff, List.drop, List.take, isSh, abin, a1, run1, ash, b1, e1, a2, ARun_some, AG_tt, fits, s2, e2, a3, q, s0, e3, a4, a5])))
      all_goals (refine end_q [] [] ?_ ?_ <;> repeat' (first | exact trivial | exact vr_val _))
    · have q : (((rawU f x / 2 ^ (f.size.toNat - 1) : Nat) : Int) == 1) = false := by
        have : ¬ (rawU f x / 2 ^ (f.size.toNat - 1)) = 1 := fun e => hh (hi.1 e)
        simp only [beq_eq_false_iff_ne]
        omega
      rw [if_neg (by rintro ⟨_, h⟩; exact hh h)]
      (repeat' (first | apply aw_seq | ((first | apply aw_skip | apply aw_exit); try simp only [thenQ, blockQ, if_true, if_false, Nat.reduceEqDiff, reduceCtorEq]) | apply aw_ret | apply aw_block | apply aw_condT rfl | apply aw_condF rfl | ((first | refine aw_region ?_ | refine acall0 (mk) ?_ | refine ago_if (by omega) ?_ | skip); simp (disch := first | exact okY | omega) only [ZU, dI, Nat.reduceAdd, Nat.reduceMul, dB, AOpRun, aexec, D.isBot, ↓eget_h, or_self, ↓reduceIte, D.cells, Nat.reduceBEq, Nat.reduceLeDiff, List.drop, List.take, isSh, abin, a1, run1, ash, b1, e1, a2, ARun_some, AG_tt, fits, s2, e2, a3, q])))
      all_goals (refine end_q [] [] ?_ ?_ <;> repeat' (first | exact trivial | exact vr_val _))
def idxI (l : List Int) (x : Int) : Int := match l.findIdx? (· == x) with
  | some k => (k : Int)
  | none => -1
theorem idx_at {l : List Int} {x : Int} {k : Nat} (hk : k < l.length) (hn : ∀ j, j < k → l[j]?.getD 0 ≠ x) (he : l[k]?.getD 0 = x) : idxI l x = k := by
  unfold idxI
  have : l.findIdx? (· == x) = some k := by
    rw [List.findIdx?_eq_some_iff_getElem]
    refine ⟨hk, by simpa [hk] using he, fun j hj => ?_⟩
    have := hn j hj
    simpa [show j < l.length by omega] using this
  rw [this]
theorem idx_no {l : List Int} {x : Int} (hn : ∀ j, j < l.length → l[j]?.getD 0 ≠ x) : idxI l x = -1 := by
  unfold idxI
  have : l.findIdx? (· == x) = none := by
    rw [List.findIdx?_eq_none_iff]
    intro y hy
    obtain ⟨j, hj, rfl⟩ := List.getElem_of_mem hy
    have := hn j hj
    simpa [hj] using this
  rw [this]
set_option maxRecDepth 100000 in
set_option maxHeartbeats 1000000 in
theorem index_ac (l : List Int) (x : Int) (hl : l.length ≤ 1000) : AC Try.prog 117 [.list (ints l), dI x] [] [] (dI (idxI l x)) := by
  refine kslices_Index_L_L_Jint_Kint_J.ac (n0 := 0) (by simp) ⟨.list _, .val _, trivial⟩ trivial rfl ?_
  unfold cslices_Index_L_L_Jint_Kint_J
  (repeat' (first | apply aw_seq | ((first | apply aw_skip | apply aw_exit); try simp only [thenQ, blockQ, if_true, if_false, Nat.reduceEqDiff, reduceCtorEq]) | apply aw_ret | apply aw_block | apply aw_condT rfl | apply aw_condF rfl | ((first | refine aw_region ?_ | refine ago_if (by omega) ?_ | skip); simp (disch := first | exact okY | omega) only [ZU, Int.reduceNeg, dI, Nat.reduceMul, AOpRun, aexec, Nat.reduceBEq, Nat.reduceAdd, ↓eget_h, ints_len])))
  refine aw_loop (fun k : Nat => ⟨[(0, .list (ints l)), (1, dI x), (7, dI l.length), (8, dI k)], [], 400⟩) (fun k => k ≤ l.length ∧ ∀ j, j < k → l[j]?.getD 0 ≠ x) (fun k => l.length - k) ⟨0, ⟨by omega, fun j hj => by omega⟩, ?_⟩ ?_
  · refine wk_q [] [] ?_ ?_ <;> repeat' (first | exact trivial | exact vr_val _ | exact vr_list _ | apply And.intro)
  rintro k ⟨hk, hin⟩
  by_cases hk2 : k < l.length
  · have g1 := ints_gd l k hk2
    by_cases he : l[k]?.getD 0 = x
    · have q : (x == l[k]?.getD 0) = true := by simp [he]
      rw [idx_at hk2 hin he]
      (have hg : (987654321 : Nat) - 987654321 = 0 := rfl; have hr := hg; repeat' (first | apply aw_seq | ((first | apply aw_skip | apply aw_exit); try simp only [thenQ, blockQ, if_true, if_false, Nat.reduceEqDiff, reduceCtorEq]) | apply aw_ret | apply aw_block | apply aw_condT rfl | apply aw_condF rfl | (refine aw_cond rfl (fun hg => ?_) (fun hg => ?_) <;> (try (have hq := hg; simp only [Bool.not_eq_true', Bool.not_eq_false', Bool.and_eq_true, Bool.and_eq_false_iff, Bool.or_eq_true, Bool.or_eq_false_iff, decide_eq_true_eq, decide_eq_false_iff_not, bne_iff_ne, beq_iff_eq, beq_eq_false_iff_ne, bne_eq_false_iff_eq, ne_eq, Int.not_lt, Int.not_le, Decidable.not_not] at hq)) <;> (try (have hr := hg; simp only [decide_eq_true_eq, decide_eq_false_iff_not] at hr)) <;> (try (exfalso; omega))) | ((first | refine aw_region ?_ | refine ago_if (by omega) ?_ | skip); simp (disch := first | exact okY | omega) only [ZU, ne_eq, dI, Int.reduceNeg, Nat.reduceMul, Nat.reduceAdd, AOpRun, aexec, Nat.reduceBEq, ↓eget_h, isSh, ↓reduceIte, abin, hr, ints_all, opt1, g1, run1, q, blockQ])))
      all_goals (refine end_q [] [] ?_ ?_ <;> repeat' (first | exact trivial | exact vr_val _))
    · have q : (x == l[k]?.getD 0) = false := by simp only [beq_eq_false_iff_ne]; exact fun h => he h.symm
      (have hg : (987654321 : Nat) - 987654321 = 0 := rfl; have hr := hg; repeat' (first | apply aw_seq | ((first | apply aw_skip | apply aw_exit); try simp only [thenQ, blockQ, if_true, if_false, Nat.reduceEqDiff, reduceCtorEq]) | apply aw_ret | apply aw_block | apply aw_condT rfl | apply aw_condF rfl | (refine aw_cond rfl (fun hg => ?_) (fun hg => ?_) <;> (try (have hq := hg; simp only [Bool.not_eq_true', Bool.not_eq_false', Bool.and_eq_true, Bool.and_eq_false_iff, Bool.or_eq_true, Bool.or_eq_false_iff, decide_eq_true_eq, decide_eq_false_iff_not, bne_iff_ne, beq_iff_eq, beq_eq_false_iff_ne, bne_eq_false_iff_eq, ne_eq, Int.not_lt, Int.not_le, Decidable.not_not] at hq)) <;> (try (have hr := hg; simp only [decide_eq_true_eq, decide_eq_false_iff_not] at hr)) <;> (try (exfalso; omega))) | ((first | refine aw_region ?_ | refine ago_if (by omega) ?_ | skip); simp (disch := first | exact okY | omega) only [ZU, ne_eq, dI, Int.reduceNeg, Nat.reduceMul, Nat.reduceAdd, AOpRun, aexec, Nat.reduceBEq, ↓eget_h, isSh, ↓reduceIte, abin, hr, ints_all, opt1, g1, run1, q, fits])))
      refine ⟨k + 1, ⟨by omega, fun j hj => ?_⟩, by omega, by refine wk_q [] [] ?_ ?_ <;> repeat' (first | exact trivial | exact vr_val _ | exact vr_list _ | apply And.intro)⟩
      rcases (by omega : j < k ∨ j = k) with h | rfl
      · exact hin j h
      · exact he
  · obtain rfl : k = l.length := by omega
    rw [idx_no hin]
    (have hg : (987654321 : Nat) - 987654321 = 0 := rfl; have hr := hg; repeat' (first | apply aw_seq | ((first | apply aw_skip | apply aw_exit); try simp only [thenQ, blockQ, if_true, if_false, Nat.reduceEqDiff, reduceCtorEq]) | apply aw_ret | apply aw_block | apply aw_condT rfl | apply aw_condF rfl | (refine aw_cond rfl (fun hg => ?_) (fun hg => ?_) <;> (try (have hq := hg; simp only [Bool.not_eq_true', Bool.not_eq_false', Bool.and_eq_true, Bool.and_eq_false_iff, Bool.or_eq_true, Bool.or_eq_false_iff, decide_eq_true_eq, decide_eq_false_iff_not, bne_iff_ne, beq_iff_eq, beq_eq_false_iff_ne, bne_eq_false_iff_eq, ne_eq, Int.not_lt, Int.not_le, Decidable.not_not] at hq)) <;> (try (have hr := hg; simp only [decide_eq_true_eq, decide_eq_false_iff_not] at hr)) <;> (try (exfalso; omega))) | ((first | refine aw_region ?_ | refine ago_if (by omega) ?_ | skip); simp (disch := first | exact okY | omega) only [ZU, ne_eq, dI, Int.reduceNeg, Nat.reduceMul, Nat.reduceAdd, AOpRun, aexec, Nat.reduceBEq, ↓eget_h, isSh, ↓reduceIte, abin, hr, decide_false])))
    all_goals (refine end_q [] [] ?_ ?_ <;> repeat' (first | exact trivial | exact vr_val _))
set_option maxRecDepth 100000 in
set_option maxHeartbeats 1000000 in
theorem contains_ac (l : List Int) (x : Int) (hl : l.length ≤ 1000) : AC Try.prog 75 [.list (ints l), dI x] [] [] (dB (decide (0 ≤ idxI l x))) := by
  refine kslices_Contains_L_L_Jint_Kint_J.ac (n0 := 0) (by simp) ⟨.list _, .val _, trivial⟩ trivial rfl ?_
  unfold cslices_Contains_L_L_Jint_Kint_J
  (repeat' (first | apply aw_seq | ((first | apply aw_skip | apply aw_exit); try simp only [thenQ, blockQ, if_true, if_false, Nat.reduceEqDiff, reduceCtorEq]) | apply aw_ret | apply aw_block | apply aw_condT rfl | apply aw_condF rfl | ((first | refine aw_region ?_ | refine acall0 (index_ac l x hl) ?_ | refine ago_if (by omega) ?_ | skip); simp (disch := first | exact okY | omega) only [ZU, dB, Nat.reduceMul, dI, AOpRun, aexec, Nat.reduceBEq, Nat.reduceAdd, ↓eget_h, isSh, ↓reduceIte, abin, ge_iff_le])))
  all_goals (refine end_q [] [] ?_ ?_ <;> repeat' (first | exact trivial | exact vr_val _))
theorem idx_mem {l : List Int} {x : Int} : 0 ≤ idxI l x ↔ x ∈ l := by
  unfold idxI
  cases h : l.findIdx? (· == x) with
  | none =>
    rw [List.findIdx?_eq_none_iff] at h
    simp only
    constructor
    · intro h'; omega
    · intro hx; have := h x hx; simp at this
  | some k =>
    rw [List.findIdx?_eq_some_iff_getElem] at h
    obtain ⟨hk, he, _⟩ := h
    simp only
    refine ⟨fun _ => ?_, fun _ => by omega⟩
    have : l[k] = x := by simpa using he
    rw [← this]; exact List.getElem_mem hk
set_option maxRecDepth 100000 in
set_option maxHeartbeats 1000000 in
theorem ifunc_ac (l : List Int) (hl : l.length ≤ 1000000) : AC Try.prog 144 [.list (ints l), .fn 116 [] []] [] [] (dI (match l.findIdx? (fun x => !wI x 0 4095) with
    | some k => (k : Int)
    | none => -1)) := by
  refine kslices_IndexFunc_L_L_Jint_Kint_J.ac (n0 := 0) (by simp) ⟨.list _, .fn _ _ _ (by simp) (by simp), trivial⟩ trivial rfl ?_
  unfold cslices_IndexFunc_L_L_Jint_Kint_J
  (repeat' (first | apply aw_seq | ((first | apply aw_skip | apply aw_exit); try simp only [thenQ, blockQ, if_true, if_false, Nat.reduceEqDiff, reduceCtorEq]) | apply aw_ret | apply aw_block | apply aw_condT rfl | apply aw_condF rfl | ((first | refine aw_region ?_ | refine ago_if (by omega) ?_ | skip); simp (disch := first | exact okY | omega) only [ZU, Int.reduceNeg, dI, Nat.reduceMul, AOpRun, aexec, Nat.reduceBEq, Nat.reduceAdd, ↓eget_h, ints_len])))
  refine aw_loop (fun k : Nat => ⟨[(0, .list (ints l)), (1, .fn 116 [] []), (7, dI l.length), (8, dI k)], [], 400⟩) (fun k => k ≤ l.length ∧ ∀ j, j < k → wI (l[j]?.getD 0) 0 4095 = true) (fun k => l.length - k) ⟨0, ⟨by omega, fun j hj => by omega⟩, ?_⟩ ?_
  · refine wk_q [] [] ?_ ?_ <;> repeat' (first | exact trivial | exact vr_val _ | exact vr_list _ | apply vr_fn | apply And.intro)
  rintro k ⟨hk, hin⟩
  by_cases hk2 : k < l.length
  · have g1 := ints_gd l k hk2
    cases he : wI (l[k]?.getD 0) 0 4095 with
    | false =>
      have q : l.findIdx? (fun x => !wI x 0 4095) = some k := by
        rw [List.findIdx?_eq_some_iff_getElem]
        refine ⟨hk2, by have := he; simp [hk2] at this; simp [this], fun j hj => ?_⟩
        have := hin j hj
        simpa [show j < l.length by omega] using this
      rw [q]
      (have hg : (987654321 : Nat) - 987654321 = 0 := rfl; have hr := hg; repeat' (first | apply aw_seq | ((first | apply aw_skip | apply aw_exit); try simp only [thenQ, blockQ, if_true, if_false, Nat.reduceEqDiff, reduceCtorEq]) | apply aw_ret | apply aw_block | apply aw_condT rfl | apply aw_condF rfl | (refine aw_cond rfl (fun hg => ?_) (fun hg => ?_) <;> (try (have hq := hg; simp only [Bool.not_eq_true', Bool.not_eq_false', Bool.and_eq_true, Bool.and_eq_false_iff, Bool.or_eq_true, Bool.or_eq_false_iff, decide_eq_true_eq, decide_eq_false_iff_not, bne_iff_ne, beq_iff_eq, beq_eq_false_iff_ne, bne_eq_false_iff_eq, ne_eq, Int.not_lt, Int.not_le, Decidable.not_not] at hq)) <;> (try (have hr := hg; simp only [decide_eq_true_eq, decide_eq_false_iff_not] at hr)) <;> (try (exfalso; omega))) | ((first | refine aw_region ?_ | refine acall0 (beyond_ac _) ?_ | refine ago_if (by omega) ?_ | skip); simp (disch := first | exact okY | omega) only [ZU, dI, Int.reduceNeg, Nat.reduceMul, Nat.reduceAdd, AOpRun, aexec, Nat.reduceBEq, ↓eget_h, isSh, ↓reduceIte, abin, hr, ints_all, opt1, g1, run1, dB, he, blockQ])))
      all_goals (refine end_q [] [] ?_ ?_ <;> repeat' (first | exact trivial | exact vr_val _))
    | true =>
      (have hg : (987654321 : Nat) - 987654321 = 0 := rfl; have hr := hg; repeat' (first | apply aw_seq | ((first | apply aw_skip | apply aw_exit); try simp only [thenQ, blockQ, if_true, if_false, Nat.reduceEqDiff, reduceCtorEq]) | apply aw_ret | apply aw_block | apply aw_condT rfl | apply aw_condF rfl | (refine aw_cond rfl (fun hg => ?_) (fun hg => ?_) <;> (try (have hq := hg; simp only [Bool.not_eq_true', Bool.not_eq_false', Bool.and_eq_true, Bool.and_eq_false_iff, Bool.or_eq_true, Bool.or_eq_false_iff, decide_eq_true_eq, decide_eq_false_iff_not, bne_iff_ne, beq_iff_eq, beq_eq_false_iff_ne, bne_eq_false_iff_eq, ne_eq, Int.not_lt, Int.not_le, Decidable.not_not] at hq)) <;> (try (have hr := hg; simp only [decide_eq_true_eq, decide_eq_false_iff_not] at hr)) <;> (try (exfalso; omega))) | ((first | refine aw_region ?_ | refine acall0 (beyond_ac _) ?_ | refine ago_if (by omega) ?_ | skip); simp (disch := first | exact okY | omega) only [ZU, dI, Int.reduceNeg, Nat.reduceMul, Nat.reduceAdd, AOpRun, aexec, Nat.reduceBEq, ↓eget_h, isSh, ↓reduceIte, abin, hr, ints_all, opt1, g1, run1, dB, he, fits])))
      refine ⟨k + 1, ⟨by omega, fun j hj => ?_⟩, by omega, by refine wk_q [] [] ?_ ?_ <;> repeat' (first | exact trivial | exact vr_val _ | exact vr_list _ | apply vr_fn | apply And.intro)⟩
      rcases (by omega : j < k ∨ j = k) with h | rfl
      · exact hin j h
      · exact he
  · obtain rfl : k = l.length := by omega
    have q : l.findIdx? (fun x => !wI x 0 4095) = none := by
      rw [List.findIdx?_eq_none_iff]
      intro y hy
      obtain ⟨j, hj, rfl⟩ := List.getElem_of_mem hy
      have := hin j hj
      simp [hj] at this
      simp [this]
    rw [q]
    (have hg : (987654321 : Nat) - 987654321 = 0 := rfl; have hr := hg; repeat' (first | apply aw_seq | ((first | apply aw_skip | apply aw_exit); try simp only [thenQ, blockQ, if_true, if_false, Nat.reduceEqDiff, reduceCtorEq]) | apply aw_ret | apply aw_block | apply aw_condT rfl | apply aw_condF rfl | (refine aw_cond rfl (fun hg => ?_) (fun hg => ?_) <;> (try (have hq := hg; simp only [Bool.not_eq_true', Bool.not_eq_false', Bool.and_eq_true, Bool.and_eq_false_iff, Bool.or_eq_true, Bool.or_eq_false_iff, decide_eq_true_eq, decide_eq_false_iff_not, bne_iff_ne, beq_iff_eq, beq_eq_false_iff_ne, bne_eq_false_iff_eq, ne_eq, Int.not_lt, Int.not_le, Decidable.not_not] at hq)) <;> (try (have hr := hg; simp only [decide_eq_true_eq, decide_eq_false_iff_not] at hr)) <;> (try (exfalso; omega))) | ((first | refine aw_region ?_ | refine ago_if (by omega) ?_ | skip); simp (disch := first | exact okY | omega) only [ZU, dI, Int.reduceNeg, Nat.reduceMul, Nat.reduceAdd, AOpRun, aexec, Nat.reduceBEq, ↓eget_h, isSh, ↓reduceIte, abin, hr, decide_false])))
    all_goals (refine end_q [] [] ?_ ?_ <;> repeat' (first | exact trivial | exact vr_val _))
theorem wI_w (x : Int) : wI x 0 4095 = wOk x := rfl
set_option maxRecDepth 100000 in
set_option maxHeartbeats 1000000 in
theorem cfunc_ac (l : List Int) (hl : l.length ≤ 1000000) : AC Try.prog 110 [.list (ints l), .fn 116 [] []] [] [] (dB (!l.all wOk)) := by
  refine kslices_ContainsFunc_L_L_Jint_Kint_J.ac (n0 := 0) (by simp) ⟨.list _, .fn _ _ _ (by simp) (by simp), trivial⟩ trivial rfl ?_
  unfold cslices_ContainsFunc_L_L_Jint_Kint_J
  have hf := ifunc_ac l hl
  cases h : l.findIdx? (fun x => !wI x 0 4095) with
  | none =>
    have ha : l.all wOk = true := by
      rw [List.findIdx?_eq_none_iff] at h
      refine List.all_eq_true.2 fun x hx => ?_
      have := h x hx
      simpa [wI_w] using this
    rw [h] at hf
    rw [ha]
    (repeat' (first | apply aw_seq | ((first | apply aw_skip | apply aw_exit); try simp only [thenQ, blockQ, if_true, if_false, Nat.reduceEqDiff, reduceCtorEq]) | apply aw_ret | apply aw_block | apply aw_condT rfl | apply aw_condF rfl | ((first | refine aw_region ?_ | refine acall0 (hf) ?_ | refine ago_if (by omega) ?_ | skip); simp (disch := first | exact okY | omega) only [ZU, dB, Nat.reduceMul, AOpRun, aexec, Nat.reduceBEq, Nat.reduceAdd, ↓eget_h, dI, Int.reduceNeg, isSh, ↓reduceIte, abin])))
    all_goals (refine end_q [] [] ?_ ?_ <;> repeat' (first | exact trivial | exact vr_val _))
  | some k =>
    have ha : l.all wOk = false := by
      rw [List.findIdx?_eq_some_iff_getElem] at h
      obtain ⟨hk, he, _⟩ := h
      refine List.all_eq_false.2 ⟨l[k], List.getElem_mem hk, by simpa [wI_w] using he⟩
    rw [h] at hf
    rw [ha]
    have q : decide ((k : Int) ≥ 0) = true := decide_eq_true (by omega)
    (repeat' (first | apply aw_seq | ((first | apply aw_skip | apply aw_exit); try simp only [thenQ, blockQ, if_true, if_false, Nat.reduceEqDiff, reduceCtorEq]) | apply aw_ret | apply aw_block | apply aw_condT rfl | apply aw_condF rfl | ((first | refine aw_region ?_ | refine acall0 (hf) ?_ | refine ago_if (by omega) ?_ | skip); simp (disch := first | exact okY | omega) only [ZU, dB, Nat.reduceMul, AOpRun, aexec, Nat.reduceBEq, Nat.reduceAdd, ↓eget_h, dI, isSh, ↓reduceIte, abin])))
    all_goals (refine end_q [] [] ?_ ?_ <;> repeat' (first | exact trivial | exact vr_val _))
end Go.Proofs.Ytdcodicoclecnaa
/- record: a valid field. No conditions. -/
namespace Go.Proofs.Ytdcodicoclecnaa
open Go.RowKit Lift

def fokB (w : Int) (f : Fl) : Bool := wI f.word 1 (w - 1) && decide (f.size ≥ 1) && wI f.bit 0 (12 - f.size) && wI f.num (-1000) 1000 && wI f.den 1 1000 && wI f.add (-1000000) 1000000 && decide (0 ≤ idxI [1, 2, 4] f.every) && wI f.phase 0 (f.every - 1)
theorem fok_iff {w : Int} {f : Fl} : fokB w f = true ↔ FOk w f := by
  unfold fokB
  simp only [Bool.and_eq_true, wI, decide_eq_true_eq, idx_mem, List.mem_cons, List.not_mem_nil, or_false]
  constructor
  · rintro ⟨⟨⟨⟨⟨⟨⟨⟨a1, a2⟩, a3⟩, a4, a5⟩, a6, a7⟩, a8, a9⟩, a10, a11⟩, a12⟩, a13, a14⟩
    exact ⟨by omega, by omega, by omega, by omega, by omega, by omega, by omega, by omega, by omega, by omega, by omega, a12, by omega, by omega⟩
  · rintro ⟨a1, a2, a3, a4, a5, a6, a7, a8, a9, a10, a11, a12, a13, a14⟩
    exact ⟨⟨⟨⟨⟨⟨⟨⟨a1, a2⟩, a4⟩, a3, by omega⟩, a6, a7⟩, a8, a9⟩, a10, a11⟩, a12⟩, a13, a14⟩
set_option maxRecDepth 100000 in
set_option maxHeartbeats 4000000 in
theorem valid_ac (w : Int) (f : Fl) (hw : 2 ≤ w ∧ w ≤ 32) (hs : f.size ≤ 9223372036854775807) : AC Try.prog 76 [flD f, dI w] [] [] (dB (fokB w f)) := by
  refine krecord_bits_valid.ac (n0 := 0) (by simp) ⟨in_flD _ _, .val _, trivial⟩ trivial rfl ?_
  unfold crecord_bits_valid flD flC
  have vw : Vw (hget [(0, [D.val (.int .i64 f.word), .val (.int .i64 f.bit), .val (.int .i64 f.size), .val (.bool f.sgn), .val (.int .i64 f.num), .val (.int .i64 f.den), .val (.int .i64 f.add), .val (.int .i64 f.every), .val (.int .i64 f.phase)]), (344, [.val (.int .i64 1), .val (.int .i64 2), .val (.int .i64 4)])]) [344] (.vec 344 3 1) (.list (ints [1, 2, 4])) := vec_ints [1, 2, 4] (by simp) rfl rfl
  cases h1 : wI f.word 1 (w - 1) with
  | false =>
    have e : fokB w f = false := by simp [fokB, h1]
    rw [e]
    (repeat' (first | (with_reducible first | refine thenQ_n ?_ | refine blockQ_n ?_ | refine thenQ_e ?_ | refine blockQ_t ?_ | refine blockQ_f (by decide) ?_) | apply aw_seq | apply aw_skip | apply aw_exit | apply aw_ret | apply aw_block | apply aw_condT rfl | apply aw_condF rfl | ((first | refine aw_hide fun K hK => aw_region ?_ | refine acall0 (within_ac _ _ _) ?_ | refine ago_if (by omega) ?_ | skip); simp (disch := first | exact okY | omega) only [ZU, Nat.reduceAdd, Nat.reduceMul, dI, dB, AOpRun, aexec, D.isBot, ↓eget_h, or_self, ↓reduceIte, D.cells, Nat.reduceBEq, Int.reduceNeg, run1, isSh, abin, fits, h1, ARun_some, AG_ft]) | subst hK))
    all_goals (refine end_q [] [] ?_ ?_ <;> repeat' (first | exact trivial | exact vr_val _))
  | true =>
  cases h2 : decide (f.size ≥ 1) with
  | false =>
    have e : fokB w f = false := by simp only [fokB, h2, Bool.and_false, Bool.false_and]
    rw [e]
    (repeat' (first | (with_reducible first | refine thenQ_n ?_ | refine blockQ_n ?_ | refine thenQ_e ?_ | refine blockQ_t ?_ | refine blockQ_f (by decide) ?_) | apply aw_seq | apply aw_skip | apply aw_exit | apply aw_ret | apply aw_block | apply aw_condT rfl | apply aw_condF rfl | ((first | refine aw_hide fun K hK => aw_region ?_ | refine acall0 (within_ac _ _ _) ?_ | refine ago_if (by omega) ?_ | skip); simp (disch := first | exact okY | omega) only [ZU, Nat.reduceAdd, Nat.reduceMul, dI, dB, AOpRun, aexec, D.isBot, ↓eget_h, or_self, ↓reduceIte, D.cells, Nat.reduceBEq, Int.reduceNeg, run1, isSh, abin, fits, h1, ARun_some, AG_tt, h2, AG_ft]) | subst hK))
    all_goals (refine end_q [] [] ?_ ?_ <;> repeat' (first | exact trivial | exact vr_val _))
  | true =>
  have k2 := of_decide_eq_true h2
  cases h3 : wI f.bit 0 (12 - f.size) with
  | false =>
    have e : fokB w f = false := by simp only [fokB, h3, Bool.and_false, Bool.false_and]
    rw [e]
    (repeat' (first | (with_reducible first | refine thenQ_n ?_ | refine blockQ_n ?_ | refine thenQ_e ?_ | refine blockQ_t ?_ | refine blockQ_f (by decide) ?_) | apply aw_seq | apply aw_skip | apply aw_exit | apply aw_ret | apply aw_block | apply aw_condT rfl | apply aw_condF rfl | ((first | refine aw_hide fun K hK => aw_region ?_ | refine acall0 (within_ac _ _ _) ?_ | refine ago_if (by omega) ?_ | skip); simp (disch := first | exact okY | omega) only [ZU, Nat.reduceAdd, Nat.reduceMul, dI, dB, AOpRun, aexec, D.isBot, ↓eget_h, or_self, ↓reduceIte, D.cells, Nat.reduceBEq, Int.reduceNeg, run1, isSh, abin, fits, h1, ARun_some, AG_tt, h2, h3, AG_ft]) | subst hK))
    all_goals (refine end_q [] [] ?_ ?_ <;> repeat' (first | exact trivial | exact vr_val _))
  | true =>
  cases h4 : wI f.num (-1000) 1000 with
  | false =>
    have e : fokB w f = false := by simp only [fokB, h4, Bool.and_false, Bool.false_and]
    rw [e]
    (repeat' (first | (with_reducible first | refine thenQ_n ?_ | refine blockQ_n ?_ | refine thenQ_e ?_ | refine blockQ_t ?_ | refine blockQ_f (by decide) ?_) | apply aw_seq | apply aw_skip | apply aw_exit | apply aw_ret | apply aw_block | apply aw_condT rfl | apply aw_condF rfl | ((first | refine aw_hide fun K hK => aw_region ?_ | refine acall0 (within_ac _ _ _) ?_ | refine ago_if (by omega) ?_ | skip); simp (disch := first | exact okY | omega) only [ZU, Nat.reduceAdd, Nat.reduceMul, dI, dB, AOpRun, aexec, D.isBot, ↓eget_h, or_self, ↓reduceIte, D.cells, Nat.reduceBEq, Int.reduceNeg, run1, isSh, abin, fits, h1, ARun_some, AG_tt, h2, h3, h4, AG_ft]) | subst hK))
    all_goals (refine end_q [] [] ?_ ?_ <;> repeat' (first | exact trivial | exact vr_val _))
  | true =>
  cases h5 : wI f.den 1 1000 with
  | false =>
    have e : fokB w f = false := by simp only [fokB, h5, Bool.and_false, Bool.false_and]
    rw [e]
    (repeat' (first | (with_reducible first | refine thenQ_n ?_ | refine blockQ_n ?_ | refine thenQ_e ?_ | refine blockQ_t ?_ | refine blockQ_f (by decide) ?_) | apply aw_seq | apply aw_skip | apply aw_exit | apply aw_ret | apply aw_block | apply aw_condT rfl | apply aw_condF rfl | ((first | refine aw_hide fun K hK => aw_region ?_ | refine acall0 (within_ac _ _ _) ?_ | refine ago_if (by omega) ?_ | skip); simp (disch := first | exact okY | omega) only [ZU, Nat.reduceAdd, Nat.reduceMul, dI, dB, AOpRun, aexec, D.isBot, ↓eget_h, or_self, ↓reduceIte, D.cells, Nat.reduceBEq, Int.reduceNeg, run1, isSh, abin, fits, h1, ARun_some, AG_tt, h2, h3, h4, h5, AG_ft]) | subst hK))
    all_goals (refine end_q [] [] ?_ ?_ <;> repeat' (first | exact trivial | exact vr_val _))
  | true =>
  cases h6 : wI f.add (-1000000) 1000000 with
  | false =>
    have e : fokB w f = false := by simp only [fokB, h6, Bool.and_false, Bool.false_and]
    rw [e]
    (repeat' (first | (with_reducible first | refine thenQ_n ?_ | refine blockQ_n ?_ | refine thenQ_e ?_ | refine blockQ_t ?_ | refine blockQ_f (by decide) ?_) | apply aw_seq | apply aw_skip | apply aw_exit | apply aw_ret | apply aw_block | apply aw_condT rfl | apply aw_condF rfl | ((first | refine aw_hide fun K hK => aw_region ?_ | refine acall0 (within_ac _ _ _) ?_ | refine ago_if (by omega) ?_ | skip); simp (disch := first | exact okY | omega) only [ZU, Nat.reduceAdd, Nat.reduceMul, dI, dB, AOpRun, aexec, D.isBot, ↓eget_h, or_self, ↓reduceIte, D.cells, Nat.reduceBEq, Int.reduceNeg, run1, isSh, abin, fits, h1, ARun_some, AG_tt, h2, h3, h4, h5, h6, AG_ft]) | subst hK))
    all_goals (refine end_q [] [] ?_ ?_ <;> repeat' (first | exact trivial | exact vr_val _))
  | true =>
  cases h7 : decide (0 ≤ idxI [1, 2, 4] f.every) with
  | false =>
    have e : fokB w f = false := by simp only [fokB, h7, Bool.and_false, Bool.false_and]
    rw [e]
    (repeat' (first | (with_reducible first | refine thenQ_n ?_ | refine blockQ_n ?_ | refine thenQ_e ?_ | refine blockQ_t ?_ | refine blockQ_f (by decide) ?_) | apply aw_seq | apply aw_skip | apply aw_exit | apply aw_ret | apply aw_block | apply aw_condT rfl | apply aw_condF rfl | ((first | refine aw_hide fun K hK => aw_region ?_ | refine acall0 (within_ac _ _ _) ?_ | refine acall (contains_ac [1, 2, 4] f.every (by decide)) [344] ⟨vw, .refl _, trivial⟩ (.inr (.val _)) (by simp only [List.mem_cons, List.not_mem_nil, or_false, forall_eq_or_imp, forall_eq]; first | exact ⟨_, rfl⟩ | exact ⟨⟨_, rfl⟩, ⟨_, rfl⟩⟩) (by kernel_rfl) ?_ | refine ago_if (by omega) ?_ | skip); simp (disch := first | exact okY | omega) only [ZU, Nat.reduceAdd, Nat.reduceMul, dI, dB, AOpRun, aexec, D.isBot, ↓eget_h, or_self, ↓reduceIte, D.cells, Nat.reduceBEq, Int.reduceNeg, run1, isSh, abin, fits, h1, ARun_some, AG_tt, h2, h3, h4, h5, h6, fillD, ne_eq, not_true_eq_false, Nat.reduceGT, splice, List.take, List.drop, h7, AG_ft]) | subst hK))
    all_goals (refine end_q [] [] ?_ ?_ <;> repeat' (first | exact trivial | exact vr_val _))
  | true =>
  have k7 : f.every = 1 ∨ f.every = 2 ∨ f.every = 4 := by
    have := idx_mem.1 (of_decide_eq_true h7)
    simpa using this
  have e : fokB w f = wI f.phase 0 (f.every - 1) := by simp only [fokB, h1, h2, h3, h4, h5, h6, h7, Bool.true_and]
  rw [e]
  (repeat' (first | (with_reducible first | refine thenQ_n ?_ | refine blockQ_n ?_ | refine thenQ_e ?_ | refine blockQ_t ?_ | refine blockQ_f (by decide) ?_) | apply aw_seq | apply aw_skip | apply aw_exit | apply aw_ret | apply aw_block | apply aw_condT rfl | apply aw_condF rfl | ((first | refine aw_hide fun K hK => aw_region ?_ | refine acall0 (within_ac _ _ _) ?_ | refine acall (contains_ac [1, 2, 4] f.every (by decide)) [344] ⟨vw, .refl _, trivial⟩ (.inr (.val _)) (by simp only [List.mem_cons, List.not_mem_nil, or_false, forall_eq_or_imp, forall_eq]; first | exact ⟨_, rfl⟩ | exact ⟨⟨_, rfl⟩, ⟨_, rfl⟩⟩) (by kernel_rfl) ?_ | refine ago_if (by omega) ?_ | skip); simp (disch := first | exact okY | omega) only [ZU, Nat.reduceAdd, Nat.reduceMul, dI, dB, AOpRun, aexec, D.isBot, ↓eget_h, or_self, ↓reduceIte, D.cells, Nat.reduceBEq, Int.reduceNeg, run1, isSh, abin, fits, h1, ARun_some, AG_tt, h2, h3, h4, h5, h6, fillD, ne_eq, not_true_eq_false, Nat.reduceGT, splice, List.take, List.drop, h7]) | subst hK))
  all_goals (refine end_q [] [] ?_ ?_ <;> repeat' (first | exact trivial | exact vr_val _))
end Go.Proofs.Ytdcodicoclecnaa
/- The functions' bodies, translated. Written by a program; no conditions. -/
namespace Go.Proofs.Ytdcodicoclecnaa
open Go.RowKit Lift

def crecord_Check : ACode :=
 (.seq
 (.region false [⟨some 1, .box (.tmp 0), none, []⟩,
 ⟨some 2, .mv (.const (.int .i64 0)), none, []⟩] [])
 (.seq
 (.seq
 (.region false [⟨some 12, .fad 0 (.tmp 1), none, []⟩,
 ⟨some 13, .load1 (.tmp 12), none, []⟩,
 ⟨some 14, .call (.func 74) [(.tmp 13), (.const (.int .i64 2)), (.const (.int .i64 32))], none, []⟩,
 ⟨some 15, .un .not (.tmp 14), none, []⟩,
 ⟨some 16, .mv (.tmp 15), none, []⟩,
 ⟨some 17, .fad 5 (.tmp 1), (some (some 16, false)), []⟩,
 ⟨some 18, .load1 (.tmp 17), (some (some 16, false)), []⟩,
 ⟨some 19, .len_ (.tmp 18), (some (some 16, false)), []⟩,
 ⟨some 20, .bin .gtr (.tmp 19) (.const (.int .i64 16)), (some (some 16, false)), []⟩,
 ⟨some 21, .pick (.tmp 16) (.const (.bool true)) (.tmp 20), none, []⟩] [12, 13, 14, 15, 16, 17, 18, 19, 20])
 (.cond (.tmp 21)
 (.seq
 (.region false [⟨some 2, .mv (.const (.int .i64 120)), none, []⟩] [])
 .ret)
 .skip))
 (.seq
 (.seq
 (.region false [⟨some 22, .fad 1 (.tmp 1), none, []⟩,
 ⟨some 23, .loadN 4 (.tmp 22), none, []⟩,
 ⟨some 24, .mv (.const (.int .i64 0)), none, []⟩] [22])
 (.block 0
 (.loop
 (.seq
 (.region false [⟨some 25, .bin .lss (.tmp 24) (.const (.int .i64 4)), none, []⟩] [])
 (.seq
 (.cond (.tmp 25)
 .skip
 (.exit 0))
 (.seq
 (.block 1
 (.seq
 (.region false [⟨some 26, .mv (.tmp 24), none, []⟩,
 ⟨some 27, .idx1 4 1 (.tmp 23) (.tmp 24), none, []⟩,
 ⟨some 3, .mv (.tmp 26), none, []⟩,
 ⟨some 4, .mv (.tmp 27), none, []⟩] [26, 27])
 (.seq
 (.region false [⟨some 28, .mv (.tmp 4), none, []⟩,
 ⟨some 29, .call (.func 74) [(.tmp 28), (.const (.int .i64 0)), (.const (.int .i64 4095))], none, []⟩,
 ⟨some 30, .un .not (.tmp 29), none, []⟩,
 ⟨some 31, .mv (.tmp 30), none, []⟩,
 ⟨some 32, .fad 1 (.tmp 1), (some (some 31, false)), []⟩,
 ⟨some 33, .mv (.tmp 3), (some (some 31, false)), []⟩,
 ⟨some 34, .slA 4 1 (.tmp 32) none (some (.tmp 33)), (some (some 31, false)), []⟩,
 ⟨some 35, .mv (.tmp 4), (some (some 31, false)), []⟩,
 ⟨some 36, .call (.func 75) [(.tmp 34), (.tmp 35)], (some (some 31, false)), []⟩,
 ⟨some 37, .pick (.tmp 31) (.const (.bool true)) (.tmp 36), none, []⟩] [28, 29, 30, 31, 32, 33, 34, 35, 36])
 (.cond (.tmp 37)
 (.seq
 (.region false [⟨some 2, .mv (.const (.int .i64 120)), none, []⟩] [])
 .ret)
 .skip))))
 (.region false [⟨some 38, .bin .add (.tmp 24) (.const (.int .i64 1)), none, []⟩,
 ⟨some 24, .mv (.tmp 38), none, []⟩] [38])))))))
 (.seq
 (.seq
 (.region false [⟨some 39, .fad 5 (.tmp 1), none, []⟩,
 ⟨some 40, .load1 (.tmp 39), none, []⟩,
 ⟨some 41, .len_ (.tmp 40), none, []⟩,
 ⟨some 42, .mv (.const (.int .i64 0)), none, []⟩] [39])
 (.block 2
 (.loop
 (.seq
 (.region false [⟨some 43, .bin .lss (.tmp 42) (.tmp 41), none, []⟩] [])
 (.seq
 (.cond (.tmp 43)
 .skip
 (.exit 2))
 (.seq
 (.block 3
 (.seq
 (.region false [⟨some 44, .iadS 9 (.tmp 40) (.tmp 42), none, []⟩,
 ⟨some 45, .loadN 9 (.tmp 44), none, []⟩,
 ⟨some 6, .mem [(.val (.int .i64 0)), (.val (.int .i64 0)), (.val (.int .i64 0)), (.val (.bool false)), (.val (.int .i64 0)), (.val (.int .i64 0)), (.val (.int .i64 0)), (.val (.int .i64 0)), (.val (.int .i64 0))], none, []⟩,
 ⟨none, .store 9 (.tmp 6) (.tmp 45), none, []⟩] [44, 45])
 (.seq
 (.region false [⟨some 46, .loadN 9 (.tmp 6), none, []⟩,
 ⟨some 47, .build [(.val (.int .i64 0)), (.val (.int .i64 0)), (.val (.int .i64 0)), (.val (.bool false)), (.val (.int .i64 0)), (.val (.int .i64 0)), (.val (.int .i64 0)), (.val (.int .i64 0)), (.val (.int .i64 0))] [(0, 9, (.tmp 46))], none, []⟩,
 ⟨some 48, .fad 0 (.tmp 1), none, []⟩,
 ⟨some 49, .load1 (.tmp 48), none, []⟩,
 ⟨some 50, .call (.func 76) [(.tmp 47), (.tmp 49)], none, []⟩,
 ⟨some 51, .un .not (.tmp 50), none, []⟩] [46, 47, 48, 49, 50])
 (.cond (.tmp 51)
 (.seq
 (.region false [⟨some 2, .mv (.const (.int .i64 120)), none, []⟩] [])
 .ret)
 .skip))))
 (.region false [⟨some 52, .bin .add (.tmp 42) (.const (.int .i64 1)), none, []⟩,
 ⟨some 42, .mv (.tmp 52), none, []⟩] [52])))))))
 (.seq
 (.seq
 (.region false [⟨some 53, .mv (.const (.int .i64 0)), none, []⟩] [])
 (.block 4
 (.loop
 (.seq
 (.region false [⟨some 54, .bin .lss (.tmp 53) (.const (.int .i64 4)), none, []⟩] [])
 (.seq
 (.cond (.tmp 54)
 .skip
 (.exit 4))
 (.seq
 (.block 5
 (.seq
 (.region false [⟨some 55, .mv (.tmp 53), none, []⟩,
 ⟨some 7, .mv (.tmp 55), none, []⟩] [55])
 (.seq
 (.region false [⟨some 56, .fad 0 (.tmp 1), none, []⟩,
 ⟨some 57, .load1 (.tmp 56), none, []⟩,
 ⟨some 58, .mksl 1 8 [(.val (.int .i64 0))] (.tmp 57) (.tmp 57), none, []⟩,
 ⟨some 8, .mv (.tmp 58), none, []⟩] [56, 57, 58])
 (.seq
 (.region false [⟨some 59, .fad 5 (.tmp 1), none, []⟩,
 ⟨some 60, .load1 (.tmp 59), none, []⟩,
 ⟨some 61, .len_ (.tmp 60), none, []⟩,
 ⟨some 62, .mv (.const (.int .i64 0)), none, []⟩] [59])
 (.block 6
 (.loop
 (.seq
 (.region false [⟨some 63, .bin .lss (.tmp 62) (.tmp 61), none, []⟩] [])
 (.seq
 (.cond (.tmp 63)
 .skip
 (.exit 6))
 (.seq
 (.block 7
 (.seq
 (.region false [⟨some 64, .iadS 9 (.tmp 60) (.tmp 62), none, []⟩,
 ⟨some 65, .loadN 9 (.tmp 64), none, []⟩,
 ⟨some 10, .mem [(.val (.int .i64 0)), (.val (.int .i64 0)), (.val (.int .i64 0)), (.val (.bool false)), (.val (.int .i64 0)), (.val (.int .i64 0)), (.val (.int .i64 0)), (.val (.int .i64 0)), (.val (.int .i64 0))], none, []⟩,
 ⟨none, .store 9 (.tmp 10) (.tmp 65), none, []⟩] [64, 65])
 (.seq
 (.region false [⟨some 66, .loadN 9 (.tmp 10), none, []⟩,
 ⟨some 67, .build [(.val (.int .i64 0)), (.val (.int .i64 0)), (.val (.int .i64 0)), (.val (.bool false)), (.val (.int .i64 0)), (.val (.int .i64 0)), (.val (.int .i64 0)), (.val (.int .i64 0)), (.val (.int .i64 0))] [(0, 9, (.tmp 66))], none, []⟩,
 ⟨some 11, .mem [(.val (.int .i64 0)), (.val (.int .i64 0)), (.val (.int .i64 0)), (.val (.bool false)), (.val (.int .i64 0)), (.val (.int .i64 0)), (.val (.int .i64 0)), (.val (.int .i64 0)), (.val (.int .i64 0))], none, []⟩,
 ⟨none, .store 9 (.tmp 11) (.tmp 67), none, []⟩] [66, 67])
 (.seq
 (.region false [⟨some 68, .loadN 9 (.tmp 11), none, []⟩,
 ⟨some 69, .mv (.tmp 7), none, []⟩,
 ⟨some 70, .call (.func 77) [(.tmp 68), (.tmp 69)], none, []⟩] [68, 69])
 (.cond (.tmp 70)
 (.seq
 (.seq
 (.region true [⟨some 71, .mv (.tmp 8), none, []⟩,
 ⟨some 72, .fad 0 (.tmp 11), none, []⟩,
 ⟨some 73, .fad 0 (.tmp 72), none, [1]⟩,
 ⟨some 74, .load1 (.tmp 73), none, [2, 1]⟩,
 ⟨some 75, .iadS 1 (.tmp 71) (.tmp 74), none, [0, 3, 2, 1]⟩,
 ⟨some 76, .load1 (.tmp 75), none, [4, 0, 3, 2, 1]⟩,
 ⟨some 77, .loadN 9 (.tmp 11), none, []⟩,
 ⟨some 78, .call (.func 78) [(.tmp 77)], none, [6]⟩,
 ⟨some 79, .bin .and (.tmp 76) (.tmp 78), none, [5, 4, 0, 3, 2, 1, 7, 6]⟩,
 ⟨some 80, .bin .neq (.tmp 79) (.const (.int .i64 0)), none, [8, 5, 4, 0, 3, 2, 1, 7, 6]⟩] [71, 72, 73, 74, 75, 76, 77, 78, 79])
 (.cond (.tmp 80)
 (.seq
 (.region false [⟨some 2, .mv (.const (.int .i64 120)), none, []⟩] [])
 .ret)
 .skip))
 (.region true [⟨some 81, .mv (.tmp 8), none, []⟩,
 ⟨some 82, .fad 0 (.tmp 11), none, []⟩,
 ⟨some 83, .fad 0 (.tmp 82), none, [1]⟩,
 ⟨some 84, .load1 (.tmp 83), none, [2, 1]⟩,
 ⟨some 85, .iadS 1 (.tmp 81) (.tmp 84), none, [0, 3, 2, 1]⟩,
 ⟨some 86, .load1 (.tmp 85), none, [4, 0, 3, 2, 1]⟩,
 ⟨some 87, .loadN 9 (.tmp 11), none, []⟩,
 ⟨some 88, .call (.func 78) [(.tmp 87)], none, [6]⟩,
 ⟨some 89, .bin .or (.tmp 86) (.tmp 88), none, [5, 4, 0, 3, 2, 1, 7, 6]⟩,
 ⟨some 90, .iadS 1 (.tmp 81) (.tmp 84), none, [0, 3, 2, 1, 4, 5, 6, 7, 8]⟩,
 ⟨none, .store 1 (.tmp 90) (.tmp 89), none, [9, 0, 3, 2, 1, 4, 5, 6, 7, 8]⟩] [81, 82, 83, 84, 85, 86, 87, 88, 89, 90]))
 .skip)))))
 (.region false [⟨some 91, .bin .add (.tmp 62) (.const (.int .i64 1)), none, []⟩,
 ⟨some 62, .mv (.tmp 91), none, []⟩] [91]))))))))))
 (.region false [⟨some 92, .bin .add (.tmp 53) (.const (.int .i64 1)), none, []⟩,
 ⟨some 53, .mv (.tmp 92), none, []⟩] [92])))))))
 (.seq
 (.region false [⟨some 2, .mv (.const (.int .i64 0)), none, []⟩] [])
 .ret))))))
set_option maxRecDepth 100000 in
theorem krecord_Check : IsCode Try.prog 27 93 crecord_Check [.tmp 2] :=
 ⟨Try.f27, _, [80, 70, 63, 54, 51, 43, 37, 25, 21, 0, 1, 24, 23, 4, 3, 42, 41, 40, 6, 53, 62, 61, 60, 10, 11, 7, 8, 2], Try.func27, rfl, by decide, rfl, by kernel_rfl, by kernel_rfl⟩
def cref12_Check : ACode :=
 (.seq
 (.region false [⟨some 1, .box (.tmp 0), none, []⟩,
 ⟨some 2, .mv (.const (.int .i64 0)), none, []⟩] [])
 (.seq
 (.seq
 (.region false [⟨some 9, .fad 0 (.tmp 1), none, []⟩,
 ⟨some 10, .load1 (.tmp 9), none, []⟩,
 ⟨some 11, .call (.func 79) [(.tmp 10), (.const (.int .i64 2)), (.const (.int .i64 32))], none, []⟩,
 ⟨some 12, .un .not (.tmp 11), none, []⟩,
 ⟨some 13, .mv (.tmp 12), none, []⟩,
 ⟨some 14, .fad 5 (.tmp 1), (some (some 13, false)), []⟩,
 ⟨some 15, .load1 (.tmp 14), (some (some 13, false)), []⟩,
 ⟨some 16, .len_ (.tmp 15), (some (some 13, false)), []⟩,
 ⟨some 17, .bin .gtr (.tmp 16) (.const (.int .i64 16)), (some (some 13, false)), []⟩,
 ⟨some 18, .pick (.tmp 13) (.const (.bool true)) (.tmp 17), none, []⟩] [9, 10, 11, 12, 13, 14, 15, 16, 17])
 (.cond (.tmp 18)
 (.seq
 (.region false [⟨some 2, .mv (.const (.int .i64 120)), none, []⟩] [])
 .ret)
 .skip))
 (.seq
 (.seq
 (.region false [⟨some 3, .mv (.const (.int .i64 0)), none, []⟩] [])
 (.block 0
 (.loop
 (.seq
 (.seq
 (.region false [⟨some 19, .mv (.tmp 3), none, []⟩,
 ⟨some 20, .bin .lss (.tmp 19) (.const (.int .i64 4)), none, []⟩] [19])
 (.cond (.tmp 20)
 .skip
 (.exit 0)))
 (.seq
 (.block 1
 (.seq
 (.seq
 (.region false [⟨some 23, .mv (.tmp 3), none, []⟩,
 ⟨some 24, .fad 1 (.tmp 1), none, []⟩,
 ⟨some 25, .iadA 4 1 (.tmp 24) (.tmp 23), none, []⟩,
 ⟨some 26, .load1 (.tmp 25), none, []⟩,
 ⟨some 27, .call (.func 79) [(.tmp 26), (.const (.int .i64 0)), (.const (.int .i64 4095))], none, []⟩,
 ⟨some 28, .un .not (.tmp 27), none, []⟩] [23, 24, 25, 26, 27])
 (.cond (.tmp 28)
 (.seq
 (.region false [⟨some 2, .mv (.const (.int .i64 120)), none, []⟩] [])
 .ret)
 .skip))
 (.seq
 (.region false [⟨some 4, .mv (.const (.int .i64 0)), none, []⟩] [])
 (.block 2
 (.loop
 (.seq
 (.seq
 (.region false [⟨some 29, .mv (.tmp 4), none, []⟩,
 ⟨some 30, .mv (.tmp 3), none, []⟩,
 ⟨some 31, .bin .lss (.tmp 29) (.tmp 30), none, []⟩] [29, 30])
 (.cond (.tmp 31)
 .skip
 (.exit 2)))
 (.seq
 (.block 3
 (.seq
 (.region true [⟨some 34, .mv (.tmp 3), none, []⟩,
 ⟨some 35, .fad 1 (.tmp 1), none, []⟩,
 ⟨some 36, .iadA 4 1 (.tmp 35) (.tmp 34), none, [1, 0]⟩,
 ⟨some 37, .load1 (.tmp 36), none, [2, 1, 0]⟩,
 ⟨some 38, .mv (.tmp 4), none, []⟩,
 ⟨some 39, .fad 1 (.tmp 1), none, []⟩,
 ⟨some 40, .iadA 4 1 (.tmp 39) (.tmp 38), none, [5, 4]⟩,
 ⟨some 41, .load1 (.tmp 40), none, [6, 5, 4]⟩,
 ⟨some 42, .bin .eql (.tmp 37) (.tmp 41), none, [3, 2, 1, 0, 7, 6, 5, 4]⟩] [34, 35, 36, 37, 38, 39, 40, 41])
 (.cond (.tmp 42)
 (.seq
 (.region false [⟨some 2, .mv (.const (.int .i64 120)), none, []⟩] [])
 .ret)
 .skip)))
 (.region false [⟨some 32, .mv (.tmp 4), none, []⟩,
 ⟨some 33, .bin .add (.tmp 32) (.const (.int .i64 1)), none, []⟩,
 ⟨some 4, .mv (.tmp 33), none, []⟩] [32, 33]))))))))
 (.region false [⟨some 21, .mv (.tmp 3), none, []⟩,
 ⟨some 22, .bin .add (.tmp 21) (.const (.int .i64 1)), none, []⟩,
 ⟨some 3, .mv (.tmp 22), none, []⟩] [21, 22]))))))
 (.seq
 (.seq
 (.region false [⟨some 5, .mv (.const (.int .i64 0)), none, []⟩] [])
 (.block 4
 (.loop
 (.seq
 (.seq
 (.region false [⟨some 43, .mv (.tmp 5), none, []⟩,
 ⟨some 44, .fad 5 (.tmp 1), none, []⟩,
 ⟨some 45, .load1 (.tmp 44), none, []⟩,
 ⟨some 46, .len_ (.tmp 45), none, []⟩,
 ⟨some 47, .bin .lss (.tmp 43) (.tmp 46), none, []⟩] [43, 44, 45, 46])
 (.cond (.tmp 47)
 .skip
 (.exit 4)))
 (.seq
 (.block 5
 (.seq
 (.region false [⟨some 50, .fad 5 (.tmp 1), none, []⟩,
 ⟨some 51, .load1 (.tmp 50), none, []⟩,
 ⟨some 52, .mv (.tmp 5), none, []⟩,
 ⟨some 53, .iadS 9 (.tmp 51) (.tmp 52), none, []⟩,
 ⟨some 54, .loadN 9 (.tmp 53), none, []⟩,
 ⟨some 6, .mem [(.val (.int .i64 0)), (.val (.int .i64 0)), (.val (.int .i64 0)), (.val (.bool false)), (.val (.int .i64 0)), (.val (.int .i64 0)), (.val (.int .i64 0)), (.val (.int .i64 0)), (.val (.int .i64 0))], none, []⟩,
 ⟨none, .store 9 (.tmp 6) (.tmp 54), none, []⟩] [50, 51, 52, 53, 54])
 (.seq
 (.seq
 (.region false [⟨some 55, .fad 0 (.tmp 6), none, []⟩,
 ⟨some 56, .load1 (.tmp 55), none, []⟩,
 ⟨some 57, .fad 0 (.tmp 1), none, []⟩,
 ⟨some 58, .load1 (.tmp 57), none, []⟩,
 ⟨some 59, .bin .sub (.tmp 58) (.const (.int .i64 1)), none, []⟩,
 ⟨some 60, .call (.func 79) [(.tmp 56), (.const (.int .i64 1)), (.tmp 59)], none, []⟩,
 ⟨some 61, .un .not (.tmp 60), none, []⟩,
 ⟨some 62, .mv (.tmp 61), none, []⟩,
 ⟨some 63, .fad 1 (.tmp 6), (some (some 62, false)), []⟩,
 ⟨some 64, .load1 (.tmp 63), (some (some 62, false)), []⟩,
 ⟨some 65, .call (.func 79) [(.tmp 64), (.const (.int .i64 0)), (.const (.int .i64 12))], (some (some 62, false)), []⟩,
 ⟨some 66, .un .not (.tmp 65), (some (some 62, false)), []⟩,
 ⟨some 67, .pick (.tmp 62) (.const (.bool true)) (.tmp 66), none, []⟩,
 ⟨some 68, .mv (.tmp 67), none, []⟩,
 ⟨some 69, .fad 2 (.tmp 6), (some (some 68, false)), []⟩,
 ⟨some 70, .load1 (.tmp 69), (some (some 68, false)), []⟩,
 ⟨some 71, .call (.func 79) [(.tmp 70), (.const (.int .i64 1)), (.const (.int .i64 12))], (some (some 68, false)), []⟩,
 ⟨some 72, .un .not (.tmp 71), (some (some 68, false)), []⟩,
 ⟨some 73, .pick (.tmp 68) (.const (.bool true)) (.tmp 72), none, []⟩,
 ⟨some 74, .mv (.tmp 73), none, []⟩,
 ⟨some 75, .fad 1 (.tmp 6), (some (some 74, false)), []⟩,
 ⟨some 76, .load1 (.tmp 75), (some (some 74, false)), []⟩,
 ⟨some 77, .fad 2 (.tmp 6), (some (some 74, false)), []⟩,
 ⟨some 78, .load1 (.tmp 77), (some (some 74, false)), []⟩,
 ⟨some 79, .bin .add (.tmp 76) (.tmp 78), (some (some 74, false)), []⟩,
 ⟨some 80, .bin .gtr (.tmp 79) (.const (.int .i64 12)), (some (some 74, false)), []⟩,
 ⟨some 81, .pick (.tmp 74) (.const (.bool true)) (.tmp 80), none, []⟩,
 ⟨some 82, .mv (.tmp 81), none, []⟩,
 ⟨some 83, .fad 4 (.tmp 6), (some (some 82, false)), []⟩,
 ⟨some 84, .load1 (.tmp 83), (some (some 82, false)), []⟩,
 ⟨some 85, .call (.func 79) [(.tmp 84), (.const (.int .i64 (-1000))), (.const (.int .i64 1000))], (some (some 82, false)), []⟩,
 ⟨some 86, .un .not (.tmp 85), (some (some 82, false)), []⟩,
 ⟨some 87, .pick (.tmp 82) (.const (.bool true)) (.tmp 86), none, []⟩,
 ⟨some 88, .mv (.tmp 87), none, []⟩,
 ⟨some 89, .fad 5 (.tmp 6), (some (some 88, false)), []⟩,
 ⟨some 90, .load1 (.tmp 89), (some (some 88, false)), []⟩,
 ⟨some 91, .call (.func 79) [(.tmp 90), (.const (.int .i64 1)), (.const (.int .i64 1000))], (some (some 88, false)), []⟩,
 ⟨some 92, .un .not (.tmp 91), (some (some 88, false)), []⟩,
 ⟨some 93, .pick (.tmp 88) (.const (.bool true)) (.tmp 92), none, []⟩,
 ⟨some 94, .mv (.tmp 93), none, []⟩,
 ⟨some 95, .fad 6 (.tmp 6), (some (some 94, false)), []⟩,
 ⟨some 96, .load1 (.tmp 95), (some (some 94, false)), []⟩,
 ⟨some 97, .call (.func 79) [(.tmp 96), (.const (.int .i64 (-1000000))), (.const (.int .i64 1000000))], (some (some 94, false)), []⟩,
 ⟨some 98, .un .not (.tmp 97), (some (some 94, false)), []⟩,
 ⟨some 99, .pick (.tmp 94) (.const (.bool true)) (.tmp 98), none, []⟩] [55, 56, 57, 58, 59, 60, 61, 62, 63, 64, 65, 66, 67, 68, 69, 70, 71, 72, 73, 74, 75, 76, 77, 78, 79, 80, 81, 82, 83, 84, 85, 86, 87, 88, 89, 90, 91, 92, 93, 94, 95, 96, 97, 98])
 (.cond (.tmp 99)
 (.seq
 (.region false [⟨some 2, .mv (.const (.int .i64 120)), none, []⟩] [])
 .ret)
 .skip))
 (.seq
 (.region false [⟨some 100, .fad 7 (.tmp 6), none, []⟩,
 ⟨some 101, .load1 (.tmp 100), none, []⟩,
 ⟨some 102, .bin .neq (.tmp 101) (.const (.int .i64 1)), none, []⟩,
 ⟨some 103, .mv (.tmp 102), none, []⟩,
 ⟨some 104, .fad 7 (.tmp 6), (some (some 103, true)), []⟩,
 ⟨some 105, .load1 (.tmp 104), (some (some 103, true)), []⟩,
 ⟨some 106, .bin .neq (.tmp 105) (.const (.int .i64 2)), (some (some 103, true)), []⟩,
 ⟨some 107, .pick (.tmp 103) (.tmp 106) (.const (.bool false)), none, []⟩,
 ⟨some 108, .mv (.tmp 107), none, []⟩,
 ⟨some 109, .fad 7 (.tmp 6), (some (some 108, true)), []⟩,
 ⟨some 110, .load1 (.tmp 109), (some (some 108, true)), []⟩,
 ⟨some 111, .bin .neq (.tmp 110) (.const (.int .i64 4)), (some (some 108, true)), []⟩,
 ⟨some 112, .pick (.tmp 108) (.tmp 111) (.const (.bool false)), none, []⟩,
 ⟨some 113, .mv (.tmp 112), none, []⟩,
 ⟨some 114, .fad 8 (.tmp 6), (some (some 113, false)), []⟩,
 ⟨some 115, .load1 (.tmp 114), (some (some 113, false)), []⟩,
 ⟨some 116, .fad 7 (.tmp 6), (some (some 113, false)), []⟩,
 ⟨some 117, .load1 (.tmp 116), (some (some 113, false)), []⟩,
 ⟨some 118, .bin .sub (.tmp 117) (.const (.int .i64 1)), (some (some 113, false)), []⟩,
 ⟨some 119, .call (.func 79) [(.tmp 115), (.const (.int .i64 0)), (.tmp 118)], (some (some 113, false)), []⟩,
 ⟨some 120, .un .not (.tmp 119), (some (some 113, false)), []⟩,
 ⟨some 121, .pick (.tmp 113) (.const (.bool true)) (.tmp 120), none, []⟩] [100, 101, 102, 103, 104, 105, 106, 107, 108, 109, 110, 111, 112, 113, 114, 115, 116, 117, 118, 119, 120])
 (.cond (.tmp 121)
 (.seq
 (.region false [⟨some 2, .mv (.const (.int .i64 120)), none, []⟩] [])
 .ret)
 .skip)))))
 (.region false [⟨some 48, .mv (.tmp 5), none, []⟩,
 ⟨some 49, .bin .add (.tmp 48) (.const (.int .i64 1)), none, []⟩,
 ⟨some 5, .mv (.tmp 49), none, []⟩] [48, 49]))))))
 (.seq
 (.seq
 (.region false [⟨some 7, .mv (.const (.int .i64 0)), none, []⟩] [])
 (.block 6
 (.loop
 (.seq
 (.seq
 (.region false [⟨some 122, .mv (.tmp 7), none, []⟩,
 ⟨some 123, .fad 5 (.tmp 1), none, []⟩,
 ⟨some 124, .load1 (.tmp 123), none, []⟩,
 ⟨some 125, .len_ (.tmp 124), none, []⟩,
 ⟨some 126, .bin .lss (.tmp 122) (.tmp 125), none, []⟩] [122, 123, 124, 125])
 (.cond (.tmp 126)
 .skip
 (.exit 6)))
 (.seq
 (.block 7
 (.seq
 (.region false [⟨some 8, .mv (.const (.int .i64 0)), none, []⟩] [])
 (.block 8
 (.loop
 (.seq
 (.seq
 (.region false [⟨some 129, .mv (.tmp 8), none, []⟩,
 ⟨some 130, .mv (.tmp 7), none, []⟩,
 ⟨some 131, .bin .lss (.tmp 129) (.tmp 130), none, []⟩] [129, 130])
 (.cond (.tmp 131)
 .skip
 (.exit 8)))
 (.seq
 (.block 9
 (.seq
 (.region true [⟨some 134, .fad 5 (.tmp 1), none, []⟩,
 ⟨some 135, .load1 (.tmp 134), none, [0]⟩,
 ⟨some 136, .mv (.tmp 7), none, []⟩,
 ⟨some 137, .iadS 9 (.tmp 135) (.tmp 136), none, [1, 0, 2]⟩,
 ⟨some 138, .loadN 9 (.tmp 137), none, [3, 1, 0, 2]⟩,
 ⟨some 139, .fad 5 (.tmp 1), none, []⟩,
 ⟨some 140, .load1 (.tmp 139), none, [5]⟩,
 ⟨some 141, .mv (.tmp 8), none, []⟩,
 ⟨some 142, .iadS 9 (.tmp 140) (.tmp 141), none, [6, 5, 7]⟩,
 ⟨some 143, .loadN 9 (.tmp 142), none, [8, 6, 5, 7]⟩,
 ⟨some 144, .call (.func 80) [(.tmp 138), (.tmp 143)], none, [4, 3, 1, 0, 2, 9, 8, 6, 5, 7]⟩] [134, 135, 136, 137, 138, 139, 140, 141, 142, 143])
 (.cond (.tmp 144)
 (.seq
 (.region false [⟨some 2, .mv (.const (.int .i64 120)), none, []⟩] [])
 .ret)
 .skip)))
 (.region false [⟨some 132, .mv (.tmp 8), none, []⟩,
 ⟨some 133, .bin .add (.tmp 132) (.const (.int .i64 1)), none, []⟩,
 ⟨some 8, .mv (.tmp 133), none, []⟩] [132, 133])))))))
 (.region false [⟨some 127, .mv (.tmp 7), none, []⟩,
 ⟨some 128, .bin .add (.tmp 127) (.const (.int .i64 1)), none, []⟩,
 ⟨some 7, .mv (.tmp 128), none, []⟩] [127, 128]))))))
 (.seq
 (.region false [⟨some 2, .mv (.const (.int .i64 0)), none, []⟩] [])
 .ret))))))
set_option maxRecDepth 100000 in
theorem kref12_Check : IsCode Try.prog 28 145 cref12_Check [.tmp 2] :=
 ⟨Try.f28, _, [144, 131, 126, 121, 99, 47, 42, 31, 28, 20, 18, 0, 1, 3, 4, 5, 6, 7, 8, 2], Try.func28, rfl, by decide, rfl, by kernel_rfl, by kernel_rfl⟩
def cref12_meet : ACode :=
 (.seq
 (.region false [⟨some 2, .box (.tmp 0), none, []⟩,
 ⟨some 3, .box (.tmp 1), none, []⟩,
 ⟨some 4, .mv (.const (.bool false)), none, []⟩] [])
 (.seq
 (.seq
 (.region false [⟨some 6, .fad 0 (.tmp 2), none, []⟩,
 ⟨some 7, .load1 (.tmp 6), none, []⟩,
 ⟨some 8, .fad 0 (.tmp 3), none, []⟩,
 ⟨some 9, .load1 (.tmp 8), none, []⟩,
 ⟨some 10, .bin .neq (.tmp 7) (.tmp 9), none, []⟩,
 ⟨some 11, .mv (.tmp 10), none, []⟩,
 ⟨some 12, .fad 1 (.tmp 2), (some (some 11, false)), []⟩,
 ⟨some 13, .load1 (.tmp 12), (some (some 11, false)), []⟩,
 ⟨some 14, .fad 1 (.tmp 3), (some (some 11, false)), []⟩,
 ⟨some 15, .load1 (.tmp 14), (some (some 11, false)), []⟩,
 ⟨some 16, .fad 2 (.tmp 3), (some (some 11, false)), []⟩,
 ⟨some 17, .load1 (.tmp 16), (some (some 11, false)), []⟩,
 ⟨some 18, .bin .add (.tmp 15) (.tmp 17), (some (some 11, false)), []⟩,
 ⟨some 19, .bin .geq (.tmp 13) (.tmp 18), (some (some 11, false)), []⟩,
 ⟨some 20, .pick (.tmp 11) (.const (.bool true)) (.tmp 19), none, []⟩,
 ⟨some 21, .mv (.tmp 20), none, []⟩,
 ⟨some 22, .fad 1 (.tmp 3), (some (some 21, false)), []⟩,
 ⟨some 23, .load1 (.tmp 22), (some (some 21, false)), []⟩,
 ⟨some 24, .fad 1 (.tmp 2), (some (some 21, false)), []⟩,
 ⟨some 25, .load1 (.tmp 24), (some (some 21, false)), []⟩,
 ⟨some 26, .fad 2 (.tmp 2), (some (some 21, false)), []⟩,
 ⟨some 27, .load1 (.tmp 26), (some (some 21, false)), []⟩,
 ⟨some 28, .bin .add (.tmp 25) (.tmp 27), (some (some 21, false)), []⟩,
 ⟨some 29, .bin .geq (.tmp 23) (.tmp 28), (some (some 21, false)), []⟩,
 ⟨some 30, .pick (.tmp 21) (.const (.bool true)) (.tmp 29), none, []⟩] [6, 7, 8, 9, 10, 11, 12, 13, 14, 15, 16, 17, 18, 19, 20, 21, 22, 23, 24, 25, 26, 27, 28, 29])
 (.cond (.tmp 30)
 (.seq
 (.region false [⟨some 4, .mv (.const (.bool false)), none, []⟩] [])
 .ret)
 .skip))
 (.seq
 (.seq
 (.region false [⟨some 5, .mv (.const (.int .i64 0)), none, []⟩] [])
 (.block 0
 (.loop
 (.seq
 (.seq
 (.region false [⟨some 31, .mv (.tmp 5), none, []⟩,
 ⟨some 32, .bin .lss (.tmp 31) (.const (.int .i64 4)), none, []⟩] [31])
 (.cond (.tmp 32)
 .skip
 (.exit 0)))
 (.seq
 (.block 1
 (.seq
 (.region true [⟨some 35, .mv (.tmp 5), none, []⟩,
 ⟨some 36, .fad 7 (.tmp 2), none, []⟩,
 ⟨some 37, .load1 (.tmp 36), none, [1]⟩,
 ⟨some 38, .bin .rem (.tmp 35) (.tmp 37), none, [0, 2, 1]⟩,
 ⟨some 39, .fad 8 (.tmp 2), none, []⟩,
 ⟨some 40, .load1 (.tmp 39), none, [4]⟩,
 ⟨some 41, .bin .eql (.tmp 38) (.tmp 40), none, [3, 0, 2, 1, 5, 4]⟩,
 ⟨some 42, .mv (.tmp 41), none, [6, 3, 0, 2, 1, 5, 4]⟩,
 ⟨some 43, .mv (.tmp 5), (some (some 42, true)), [7, 6, 3, 0, 2, 1, 5, 4]⟩,
 ⟨some 44, .fad 7 (.tmp 3), (some (some 42, true)), [7, 6, 3, 0, 2, 1, 5, 4]⟩,
 ⟨some 45, .load1 (.tmp 44), (some (some 42, true)), [9, 7, 6, 3, 0, 2, 1, 5, 4]⟩,
 ⟨some 46, .bin .rem (.tmp 43) (.tmp 45), (some (some 42, true)), [8, 7, 6, 3, 0, 2, 1, 5, 4, 10, 9]⟩,
 ⟨some 47, .fad 8 (.tmp 3), (some (some 42, true)), [7, 6, 3, 0, 2, 1, 5, 4]⟩,
 ⟨some 48, .load1 (.tmp 47), (some (some 42, true)), [12, 7, 6, 3, 0, 2, 1, 5, 4]⟩,
 ⟨some 49, .bin .eql (.tmp 46) (.tmp 48), (some (some 42, true)), [11, 8, 7, 6, 3, 0, 2, 1, 5, 4, 10, 9, 13, 12]⟩,
 ⟨some 50, .pick (.tmp 42) (.tmp 49) (.const (.bool false)), none, [7, 6, 3, 0, 2, 1, 5, 4, 14, 11, 8, 10, 9, 13, 12]⟩] [35, 36, 37, 38, 39, 40, 41, 42, 43, 44, 45, 46, 47, 48, 49])
 (.cond (.tmp 50)
 (.seq
 (.region false [⟨some 4, .mv (.const (.bool true)), none, []⟩] [])
 .ret)
 .skip)))
 (.region false [⟨some 33, .mv (.tmp 5), none, []⟩,
 ⟨some 34, .bin .add (.tmp 33) (.const (.int .i64 1)), none, []⟩,
 ⟨some 5, .mv (.tmp 34), none, []⟩] [33, 34]))))))
 (.seq
 (.region false [⟨some 4, .mv (.const (.bool false)), none, []⟩] [])
 .ret))))
set_option maxRecDepth 100000 in
theorem kref12_meet : IsCode Try.prog 80 51 cref12_meet [.tmp 4] :=
 ⟨Try.f80, _, [50, 32, 30, 0, 1, 2, 3, 5, 4], Try.func80, rfl, by decide, rfl, by kernel_rfl, by kernel_rfl⟩
end Go.Proofs.Ytdcodicoclecnaa
/- record: the check of a layout. No conditions. -/
namespace Go.Proofs.Ytdcodicoclecnaa
open Go.RowKit Lift

structure LayIn (l : Lay) : Prop where
  nf : l.fl.length ≤ maxLen
  sz : ∀ k, k < l.fl.length → (fAt l k).size ≤ 9223372036854775807
theorem sync_no (l : Lay) (k : Nat) (hk : k < 4) (h : wI ((sync l)[k]?.getD 0) 0 4095 = false ∨ (sync l)[k]?.getD 0 ∈ (sync l).take k) : ¬ LayOk l := by
  intro ho
  rcases h with h | h
  · have := ho.sy k hk
    have := wI_f h
    omega
  · obtain ⟨j, hj, he⟩ := List.getElem_of_mem h
    have hjk : j < k := by simp at hj; omega
    refine ho.sd k hk j hjk ?_
    rw [List.getElem_take] at he
    have hj4 : j < (sync l).length := by simp [sync]; omega
    simp [hj4, he]
def SyncOk (l : Lay) (k : Nat) : Prop := ∀ j, j < k → (0 ≤ (sync l)[j]?.getD 0 ∧ (sync l)[j]?.getD 0 ≤ 4095) ∧ ∀ i, i < j → (sync l)[j]?.getD 0 ≠ (sync l)[i]?.getD 0
theorem sync_step {l : Lay} {k : Nat} (hk : k < 4) (h : SyncOk l k) (h1 : wI ((sync l)[k]?.getD 0) 0 4095 = true) (h2 : (sync l)[k]?.getD 0 ∉ (sync l).take k) : SyncOk l (k + 1) := by
  intro j hj
  rcases (by omega : j < k ∨ j = k) with h' | rfl
  · exact h j h'
  · refine ⟨wI_t h1, fun i hi he => h2 ?_⟩
    have hi4 : i < (sync l).length := by simp [sync]; omega
    have : (sync l)[i] ∈ (sync l).take j := by
      rw [List.mem_take_iff_getElem]
      exact ⟨i, by omega, rfl⟩
    rw [he]; simpa [hi4] using this
theorem sync_view (l : Lay) (k : Nat) (hk : k ≤ 4) {H : Heap} (hH : H 0 = some (layC l)) : Vw H [0] (.own 0 1 k 1) (.list (ints ((sync l).take k))) := by
  refine own_ints ((sync l).take k) (by simp) hH (by simp [sync]; omega) (by simp [layC]; omega) ?_ (layC_in l)
  have : (layC l).drop 1 = [dI l.s0, dI l.s1, dI l.s2, dI l.s3] ++ [.list (fls l.fl)] := rfl
  rw [this, List.take_append_of_le_length (by simp; omega)]
  unfold icells sync
  rw [List.map_take]; rfl
def UsdOk (l : Lay) (s : Int) (k : Nat) : Prop := ∀ i, i < k → ∀ j, j < i → inSub (fAt l i) s → inSub (fAt l j) s → ¬ Ovl (fAt l i) (fAt l j)
end Go.Proofs.Ytdcodicoclecnaa
/- States with fewer names. No conditions. -/
namespace Go.Proofs.Ytdcodicoclecnaa.Lift
open Go Go.RowKit

def EL (n : Nat) (env : Env) : Env → Prop
  | [] => True
  | x :: r => x.2 = eget env x.1 ∧ In (· < n) x.2 ∧ EL n env r
theorem EL.get {n : Nat} {env : Env} : ∀ {e : Env}, EL n env e → ∀ t, eget e t = .bot ∨ (eget e t = eget env t ∧ In (· < n) (eget e t))
  | [], _, t => .inl rfl
  | (k, d) :: r, h, t => by
    rw [get_cons]
    split
    · rename_i hk; subst hk; exact .inr ⟨h.1, h.2.1⟩
    · exact EL.get h.2.2 t
theorem wk_low {pre : List Nat} {s s' : St} (hpre : ∀ g ∈ pre, g < s'.nx) (hh : s'.hp = s.hp) (hE : EL s'.nx s.env s'.env) (hH : ∀ g c, hget s.hp g = some c → g < s'.nx ∧ ∀ d ∈ c, In (· < s'.nx) d) : Wk pre s s' := by
  rintro C a w rfl ⟨β, Z, h, hβ⟩
  obtain ⟨β', hb'⟩ : ∃ β' : Bet, β' = fun g => if g < s'.nx then β g else none := ⟨_, rfl⟩
  have eq : ∀ g, g < s'.nx → β' g = β g := fun g hg => by rw [hb']; exact if_pos hg
  have no : ∀ g, s'.nx ≤ g → β' g = none := fun g hg => by rw [hb']; exact if_neg (by omega)
  have back : ∀ g B, β' g = some B → β g = some B := fun g B hB => by
    by_cases hg : g < s'.nx
    · rw [← eq g hg]; exact hB
    · rw [no g (by omega)] at hB; cases hB
  have hHs : ∀ g c, s'.F.H g = some c → s.F.H g = some c := fun g c hc => by
    have h1 : hget s'.hp g = some c := hc
    rw [hh] at h1; exact h1
  refine ⟨β', Z, ⟨h.size, h.defers, fun t => ?_, fun g c hc => ?_, fun g g' c c' B hc hc' hb hb'' => h.inj g g' c c' B (hHs _ _ hc) (hHs _ _ hc') (back _ _ hb) (back _ _ hb''), h.fr, h.z0, h.old, fun g c B hc hB => h.orig g c B (hHs _ _ hc) (back _ _ hB), fun g hg B hB => ?_, h.zlt⟩, no⟩
  · show Rep w _ Z _ (eget s'.env t)
    rcases hE.get t with h1 | ⟨h1, h2⟩
    · rw [h1]; exact .bot _
    · rw [h1] at h2 ⊢
      exact (h.env t).rename h2 eq
  · obtain ⟨h1, h2⟩ := hH g c (hHs g c hc)
    rcases h.objs g c (hHs g c hc) with ⟨h3, h4⟩ | ⟨B, cs, e, hO⟩
    · exact .inl ⟨h3, by rw [eq g h1]; exact h4⟩
    · exact .inr ⟨B, cs, e, by rw [eq g h1]; exact hO.at_, hO.ours, hO.block, hO.fits, fun i hi => (hO.rep i hi).rename (h2 _ (List.getElem_mem hi)) eq⟩
  · have h1 := h.ext g hg B hB
    rw [eq g (hpre g hg)]; exact h1
theorem wk_up {pre : List Nat} {e : Env} {h : Hp} {n m : Nat} (hn : n ≤ m) : Wk pre ⟨e, h, n⟩ ⟨e, h, m⟩ := by
  rintro C a w rfl ⟨β, Z, hR, hβ⟩
  exact ⟨β, Z, hR, fun g hg => hβ g (Nat.le_trans hn hg)⟩
end Go.Proofs.Ytdcodicoclecnaa.Lift
namespace Go.Proofs.Ytdcodicoclecnaa
open Go.RowKit Lift

def subsK (l : Lay) (frs : List (List Int)) (k : Nat) : List Int := (List.range k).map fun i => subF l (frm frs i)
theorem subsK_len (l : Lay) (frs : List (List Int)) (k : Nat) : (subsK l frs k).length = k := by simp [subsK]
theorem subsK_succ (l : Lay) (frs : List (List Int)) (k : Nat) : subsK l frs (k + 1) = subsK l frs k ++ [subF l (frm frs k)] := by simp [subsK, List.range_succ]
theorem subsK_get (l : Lay) (frs : List (List Int)) (n k : Nat) (h : k < n) : (subsK l frs n)[k]?.getD 0 = subF l (frm frs k) := by simp [subsK, h]
def tpC (l : Lay) (frs : List (List Int)) : List D := [dI l.words, dI l.s0, dI l.s1, dI l.s2, dI l.s3, .list (fls l.fl), .list (rows frs), .list (ints (subsK l frs frs.length))]
theorem tpC_in (S : Nat → Prop) (l : Lay) (frs : List (List Int)) : ∀ d ∈ tpC l frs, In S d := by
  intro d hd; simp [tpC] at hd; rcases hd with rfl | rfl | rfl | rfl | rfl | rfl | rfl | rfl <;> first | exact .val _ | exact .list _
noncomputable def tpE (l : Lay) (frs : List (List Int)) : Int := if layE l 120 = 0 then (if frs.length > 200 then 2 else 0) else 120
theorem tpE_ok {l : Lay} {frs : List (List Int)} (h1 : LayOk l) (h2 : frs.length ≤ 200) : tpE l frs = 0 := by
  unfold tpE; rw [if_pos (layE_ok h1), if_neg (by omega)]
theorem tpE_many {l : Lay} {frs : List (List Int)} (h1 : LayOk l) (h2 : ¬ frs.length ≤ 200) : tpE l frs = 2 := by
  unfold tpE; rw [if_pos (layE_ok h1), if_pos (by omega)]
theorem tpE_no {l : Lay} {frs : List (List Int)} (h1 : ¬ LayOk l) : tpE l frs = 120 := by
  unfold tpE; rw [if_neg (by rw [layE_no h1]; omega)]
theorem tpE_cases (l : Lay) (frs : List (List Int)) : (tpE l frs = 0 ∧ LayOk l ∧ frs.length ≤ 200) ∨ (tpE l frs ≠ 0 ∧ (tpE l frs != 0) = true) := by
  by_cases h1 : LayOk l
  · by_cases h2 : frs.length ≤ 200
    · exact .inl ⟨tpE_ok h1 h2, h1, h2⟩
    · rw [tpE_many h1 h2]; exact .inr ⟨by omega, rfl⟩
  · rw [tpE_no h1]; exact .inr ⟨by omega, rfl⟩
theorem idx_sync (l : Lay) (x : Int) : idxI (sync l) x = idx4 l x := by
  unfold idx4
  by_cases h0 : x = l.s0
  · rw [if_pos h0]
    exact idx_at (l := sync l) (k := 0) (by simp [sync]) (fun j hj => by omega) (by simp [sync, h0])
  rw [if_neg h0]
  by_cases h1 : x = l.s1
  · rw [if_pos h1]
    exact idx_at (l := sync l) (k := 1) (by simp [sync]) (fun j hj => by obtain rfl : j = 0 := by omega
                                                                         simpa [sync] using fun h => h0 h.symm) (by simp [sync, h1])
  rw [if_neg h1]
  by_cases h2 : x = l.s2
  · rw [if_pos h2]
    exact idx_at (l := sync l) (k := 2) (by simp [sync]) (fun j hj => by
      rcases (by omega : j = 0 ∨ j = 1) with rfl | rfl
      · simpa [sync] using fun h => h0 h.symm
      · simpa [sync] using fun h => h1 h.symm) (by simp [sync, h2])
  rw [if_neg h2]
  by_cases h3 : x = l.s3
  · rw [if_pos h3]
    exact idx_at (l := sync l) (k := 3) (by simp [sync]) (fun j hj => by
      rcases (by omega : j = 0 ∨ j = 1 ∨ j = 2) with rfl | rfl | rfl
      · simpa [sync] using fun h => h0 h.symm
      · simpa [sync] using fun h => h1 h.symm
      · simpa [sync] using fun h => h2 h.symm) (by simp [sync, h3])
  rw [if_neg h3]
  refine idx_no fun j hj => ?_
  have : j < 4 := by simpa [sync] using hj
  rcases (by omega : j = 0 ∨ j = 1 ∨ j = 2 ∨ j = 3) with rfl | rfl | rfl | rfl
  · simpa [sync] using fun h => h0 h.symm
  · simpa [sync] using fun h => h1 h.symm
  · simpa [sync] using fun h => h2 h.symm
  · simpa [sync] using fun h => h3 h.symm
structure FrIn (frs : List (List Int)) : Prop where
  n : frs.length ≤ maxLen
  m : ∀ k, (frm frs k).length ≤ maxLen
end Go.Proofs.Ytdcodicoclecnaa
/- parts: one round of the damage, whatever size is counted (views last). No conditions. -/
namespace Go.Proofs.Ytdcodicoclecnaa
open Go.RowKit Lift

theorem dmg_hit (st : List (Int × Int)) (z : Int) (i : Nat) (h2 : lo st i ≤ z) : ∀ k, i < k → (∀ j, i < j → j < k → ¬ lo st j ≤ z) → dmg st z k = hi st i
  | 0, h, _ => by omega
  | k + 1, h, hn => by
    rw [dmg_succ]
    rcases (by omega : i = k ∨ i < k) with rfl | h3
    · rw [if_pos h2]
    · rw [if_neg (hn k h3 (by omega))]
      exact dmg_hit st z i h2 k h3 fun j hj hk => hn j hj (by omega)
theorem dmg_none (st : List (Int × Int)) (z : Int) : ∀ k, (∀ j, j < k → ¬ lo st j ≤ z) → dmg st z k = 0
  | 0, _ => rfl
  | k + 1, hn => by
    rw [dmg_succ, if_neg (hn k (by omega))]
    exact dmg_none st z k fun j hj => hn j (by omega)
set_option maxRecDepth 100000 in
set_option maxHeartbeats 2000000 in
theorem backward_ac (st : List (Int × Int)) : AC Try.prog 104 [.list (sps st)] [] [(4008, some [.list (sps st)])] (.fn 140 [] [.ptr 4008 0]) := by
  refine kslices_Backward_L_L_J_L2_Jint_K_L2_Jint_J.ac (n0 := 0) (by simp) ⟨.list _, trivial⟩ trivial rfl ?_
  unfold cslices_Backward_L_L_J_L2_Jint_K_L2_Jint_J
  (repeat' (first | (with_reducible first | refine thenQ_n ?_ | refine blockQ_n ?_ | refine thenQ_e ?_ | refine blockQ_t ?_ | refine blockQ_f (by decide) ?_) | apply aw_seq | apply aw_skip | apply aw_exit | apply aw_ret | apply aw_block | apply aw_condT rfl | apply aw_condF rfl | ((first | refine aw_hide fun K hK => aw_region ?_ | refine ago_if (by omega) ?_ | skip); simp (disch := first | exact okY | omega) only [ZU, Nat.reduceAdd, Nat.reduceMul, AOpRun, aexec, D.isBot, ↓eget_h, or_self, ↓reduceIte, D.cells, Nat.reduceBEq]) | subst hK))
  refine end_q [] [(4008, 0)] ?_ ?_ <;> repeat' (first | exact trivial | exact vr_list _ | exact vr_ptr _ _ _ rfl | apply vr_fn | refine And.intro ⟨_, rfl, _, rfl, by decide, ?_⟩ ?_ | apply And.intro)
set_option maxRecDepth 100000 in
set_option maxHeartbeats 2000000 in
theorem count_ac (s : List Int) : AC Try.prog 103 [.list (ints s)] [] [(224, some [.list (ints s)])] (.fn 136 [] [.ptr 224 0]) := by
  refine kparts_count.ac (n0 := 0) (by simp) ⟨.list _, trivial⟩ trivial rfl ?_
  unfold cparts_count
  (repeat' (first | (with_reducible first | refine thenQ_n ?_ | refine blockQ_n ?_ | refine thenQ_e ?_ | refine blockQ_t ?_ | refine blockQ_f (by decide) ?_) | apply aw_seq | apply aw_skip | apply aw_exit | apply aw_ret | apply aw_block | apply aw_condT rfl | apply aw_condF rfl | ((first | refine aw_hide fun K hK => aw_region ?_ | refine ago_if (by omega) ?_ | skip); simp (disch := first | exact okY | omega) only [ZU, Nat.reduceAdd, Nat.reduceMul, AOpRun, aexec, D.isBot, ↓eget_h, or_self, ↓reduceIte, D.cells, Nat.reduceBEq]) | subst hK))
  refine end_q [] [(224, 0)] ?_ ?_ <;> repeat' (first | exact trivial | exact vr_list _ | exact vr_ptr _ _ _ rfl | apply vr_fn | refine And.intro ⟨_, rfl, _, rfl, by decide, ?_⟩ ?_ | apply And.intro)
theorem asg_post {P : Program} {nb : Nat} {pin : List Nat} {cb : ACode} {Q Q' : AExit → St → Prop} (hq : ∀ e s, Q e s → ∃ s', Wk pin s s' ∧ Q' e s') : ∀ e s, AsgQ P nb pin cb Q e s → ∃ s', Wk pin s s' ∧ AsgQ P nb pin cb Q' e s' := fun _ s h => ⟨s, Wk.refl s, h.1, h.2.1, h.2.2.1, aw_post h.2.2.2 hq⟩
set_option maxRecDepth 100000 in
set_option maxHeartbeats 8000000 in
theorem dround (st : List (Int × Int)) (hst : st.length ≤ 1000) (hso : StOk st) (S z h : Int) (hS : 0 ≤ S ∧ S ≤ 1000000000) (hh : h = 1 ∨ h = 2) (C : List D) (hC : ∀ d ∈ C, In (fun _ => False) d) (hCy : C.all (noY 9) = true) :
    AWb true Try.prog 73 [1000, 24, 32, 40] cparts_Damage_B100056 (AsgQ Try.prog 73 [1000, 24, 32, 40] cparts_Damage_B56 (fun e s => e = .norm ∧ Wk [1000, 24, 32, 40] s ⟨[], [(24, [.list (sps st)]), (32, [dI (S + h * dmg st z st.length)]), (40, C)], 3000⟩))
      ⟨parE (envOf 0 [.bot, .bot, .bot, .ptr 24 0, .ptr 32 0]) [56, 57] [dI z, dI h], [(24, [.list (sps st)]), (32, [dI S]), (40, C)], 2000⟩ := by
  have sl := sps_len st
  have sa := sps_all st
  have hds := dmg_bd hso z st.length (Nat.le_refl _)
  unfold cparts_Damage_B100056
  refine aw_seq (aw_region ?_)
  simp (disch := first | exact okY | omega) only [ZU, dI, Nat.reduceAdd, Nat.reduceMul, parE, Nat.reduceBEq, AOpRun, aexec, ↓reduceIte, ↓eget_h, ↓hget_h, D.isBot, D.cells, Nat.reduceLeDiff, List.all, D.leaf, splice, List.take, List.drop]
  refine aw_region ?_
  simp (disch := first | exact okY | omega) only [ZU, Nat.reduceAdd, Nat.reduceMul, AOpRun, aexec, Nat.reduceBEq, ↓reduceIte, ↓eget_h, ↓hget_h, D.isBot, D.cells, Nat.reduceLeDiff, List.all, D.leaf, splice, List.take, List.drop]
  refine asgQ (by simp [hpY, noY, hCy]) (by simp [noY]) ?_
  unfold cparts_Damage_B56
  refine aw_wk (s' := ⟨[(3, .ptr 24 0), (4, .ptr 32 0), (9, .ptr 3000 0), (10, .ptr 3008 0)], [(24, [.list (sps st)]), (32, [dI S]), (40, C), (3000, [dI z]), (3008, [dI h])], 4000⟩) ?_ ?_
  · unfold dI
    refine wk_q [] [(1000, 1000), (24, 24), (32, 32), (40, 40), (3000, 2000), (3008, 2016)] ?_ ?_ <;> repeat' (first | exact trivial | exact vr_val _ | exact vr_list _ | exact vr_ptr _ _ _ rfl | refine And.intro ⟨_, rfl, .inl ⟨_, rfl, by decide, ?_⟩⟩ ?_ | apply And.intro | exact vrl_flat _ (by first | exact icells_in _ | exact rcells_in _ | exact scells_in _ | exact bcells_in _ | assumption) | fail)
    all_goals exact vrl_flat _ hC
  refine aw_block (aw_seq (aw_region ?_))
  simp (disch := first | exact okY | omega) only [ZU, Nat.reduceAdd, Nat.reduceMul, dI, AOpRun, aexec, run1, ↓eget_h, Nat.reduceBEq]
  refine acallH (backward_ac st) [] (VwL.refl _) (.inl rfl) (by simp) (by simp) (by simp) (by intro g hg _; simp at hg; subst hg; rfl) (by kernel_rfl) (by kernel_rfl) ?_
  simp (disch := first | exact okY | omega) only [ZU, Nat.reduceAdd, Nat.reduceBEq]
  refine aw_block ?_
  refine aw_wk (s' := ⟨[(4, .ptr 32 0), (9, .ptr 3000 0), (10, .ptr 3008 0), (59, .fn 140 [] [.ptr 4008 0])], [(24, [.list (sps st)]), (32, [dI S]), (40, C), (3000, [dI z]), (3008, [dI h]), (4008, [.list (sps st)])], 4100⟩) ?_ ?_
  · unfold dI
    refine wk_q [] [(1000, 1000), (24, 24), (32, 32), (40, 40), (3000, 3000), (3008, 3008), (4008, 4008)] ?_ ?_ <;> repeat' (first | exact trivial | exact vr_val _ | exact vr_list _ | exact vr_ptr _ _ _ rfl | apply vr_fn | refine And.intro ⟨_, rfl, .inl ⟨_, rfl, by decide, ?_⟩⟩ ?_ | apply And.intro | exact vrl_flat _ (by first | exact icells_in _ | exact rcells_in _ | exact scells_in _ | exact bcells_in _ | assumption) | fail)
    all_goals exact vrl_flat _ hC
  refine aw_rangeSA [1000, 24, 32, 40, 3000, 3008] [] [.bot, .bot, .bot, .bot, .ptr 32 0, .bot, .bot, .bot, .bot, .ptr 3000 0, .ptr 3008 0] kslices_Backward_L_L_J_L2_Jint_K_L2_Jint_J_S1 rfl (by simp) ⟨.inl rfl, .inl rfl, .inl rfl, .inl rfl, .inr rfl, .inl rfl, .inl rfl, .inl rfl, .inl rfl, .inr rfl, .inr rfl, trivial⟩ rfl rfl (by simp) trivial fun r hr => ?_
  unfold cslices_Backward_L_L_J_L2_Jint_K_L2_Jint_J_S1
  refine aw_seq (aw_region ?_)
  simp (disch := first | exact okY | omega) only [ZU, Nat.reduceAdd, Nat.reduceMul, dI, AOpRun, aexec, run1, Nat.reduceBEq, ↓eget_h, ↓hget_h, sl, isSh, ↓reduceIte, abin, fits]
  refine aw_block ?_
  refine aw_loop (fun i : Nat => ⟨[(0, .yld 4100 r [.bot, .bot, .bot, .bot, .ptr 32 0, .bot, .bot, .bot, .bot, .ptr 3000 0, .ptr 3008 0]), (1, .ptr 4008 0), (3, dI ((i : Int) - 1))], [(24, [.list (sps st)]), (32, [dI S]), (40, C), (3000, [dI z]), (3008, [dI h]), (4008, [.list (sps st)])], 4200⟩) (fun i => i ≤ st.length ∧ ∀ j, i ≤ j → j < st.length → ¬ lo st j ≤ z) (fun i => i) ⟨st.length, ⟨Nat.le_refl _, fun j h1 h2 => by omega⟩, ?_⟩ ?_
  · unfold dI
    refine wk_q [] [(1000, 1000), (24, 24), (32, 32), (40, 40), (3000, 3000), (3008, 3008), (4008, 4008), (4100, 4100)] ?_ ?_ <;> repeat' (first | exact trivial | exact vr_val _ | exact vr_list _ | exact vr_ptr _ _ _ rfl | refine vr_yld _ _ _ rfl ?_ | exact Ren.bot _ | exact Ren.ptr _ _ _ rfl | refine And.intro ⟨_, rfl, .inl ⟨_, rfl, by decide, ?_⟩⟩ ?_ | apply And.intro | exact vrl_flat _ (by first | exact icells_in _ | exact rcells_in _ | exact scells_in _ | exact bcells_in _ | assumption) | fail)
    all_goals exact vrl_flat _ hC
  rintro i ⟨hile, hno⟩
  cases i with
  | zero =>
    have e0 := dmg_none st z st.length fun j hj => hno j (by omega) hj
    rw [e0, Int.mul_zero, Int.add_zero]
    have q : decide (((0 : Nat) : Int) - 1 ≥ 0) = false := rfl
    refine aw_seq (aw_seq (aw_region ?_))
    simp (disch := first | exact okY | omega) only [ZU, dI, Nat.reduceAdd, Nat.reduceMul, cast_lit, Int.reduceSub, Int.reduceNeg, AOpRun, aexec, Nat.reduceBEq, ↓eget_h, isSh, ↓reduceIte, abin]
    refine aw_condF rfl (aw_exit ?_)
    simp only [thenQ, blockQ, if_true]
    refine rangeQSA 0 hr rfl (.inl rfl) (by simp [hpY, noY, hCy]) ?_
    simp only [thenQ, blockQ, if_true]
    refine ⟨trivial, ?_⟩
    refine wk_q [] [(1000, 1000), (24, 24), (32, 32), (40, 40)] ?_ ?_ <;> repeat' (first | exact trivial | exact vr_val _ | exact vr_list _ | refine And.intro ⟨_, rfl, .inl ⟨_, rfl, by decide, ?_⟩⟩ ?_ | apply And.intro | exact vrl_flat _ (by first | exact icells_in _ | exact rcells_in _ | exact scells_in _ | exact bcells_in _ | assumption) | fail)
    all_goals exact vrl_flat _ hC
  | succ j =>
  have ej : ((j + 1 : Nat) : Int) - 1 = (j : Int) := by omega
  have q0 : decide ((j : Int) ≥ 0) = true := decide_eq_true (by omega)
  have kj : (j : Int) < (st.length : Int) := by omega
  have gj := sps_gd st j (by omega)
  have hhit := fun h2 : lo st j ≤ z => dmg_hit st z j h2 st.length (by omega) fun m h3 h4 => hno m (by omega) h4
  have hS2 := hso j (by omega)
  have hnu : ¬ lo st j ≤ z → ¬ lo st j ≤ z := id
  rw [show (st[j]?.getD (0, 0)).2 = hi st j from rfl] at hS2
  rw [ej]
  refine aw_seq (aw_seq (aw_region ?_))
  simp (disch := first | exact okY | omega) only [ZU, dI, Nat.reduceAdd, Nat.reduceMul, AOpRun, aexec, Nat.reduceBEq, ↓eget_h, isSh, ↓reduceIte, abin]
  refine aw_condT rfl (aw_skip ?_)
  refine aw_seq (aw_block (aw_seq (aw_region_yieldSA hr [⟨some 11, .mv (.tmp 0), none, []⟩,
            ⟨some 12, .mv (.tmp 3), none, []⟩,
            ⟨some 13, .load1 (.tmp 1), none, []⟩,
            ⟨some 14, .mv (.tmp 3), none, []⟩,
            ⟨some 15, .iadS 2 (.tmp 13) (.tmp 14), none, []⟩,
            ⟨some 16, .loadN 2 (.tmp 15), none, []⟩] [⟨some 18, .un .not (.tmp 17), none, []⟩] ?_)))
  simp (disch := first | exact okY | omega) only [ZU, Nat.reduceAdd, Nat.reduceMul, AOpRun, aexec, ↓eget_h, Nat.reduceBEq, run1, ↓hget_h, sa, ↓reduceIte, opt1, gj, Nat.reduceLeDiff, List.take]
  generalize hd : dmg st z st.length = dm at hhit hds ⊢
  generalize hi st j = v at hhit gj hS2 ⊢
  generalize hlo : lo st j = u at hhit gj hnu ⊢
  refine yieldKSA [4100, 1000, 24, 32, 40, 3000, 3008, 4008] [(0, .yld 4100 r [.bot, .bot, .bot, .bot, .ptr 32 0, .bot, .bot, .bot, .bot, .ptr 3000 0, .ptr 3008 0]), (1, .ptr 4008 0), (3, .val (.int .i64 j))] _ rfl rfl hr rfl (by simp [hpY, noY, hCy]) (by simp)
    ⟨.inr ⟨rfl, .yld _ _ _ (by simp) (by intro d hd; simp at hd; rcases hd with rfl | rfl | rfl | rfl | rfl | rfl <;> first | exact .bot | exact .ptr _ _ (by simp))⟩, .inr ⟨rfl, .ptr _ _ (by simp)⟩, .inr ⟨rfl, .val _⟩, trivial⟩ ?_
  unfold cparts_Damage_B100060
  refine aw_region ?_
  simp (disch := first | exact okY | omega) only [ZU, Nat.reduceAdd, Nat.reduceMul, Nat.reduceBEq, ↓eget_h, parE, AOpRun, aexec, ↓reduceIte, ↓hget_h, D.isBot, D.cells, Nat.reduceLeDiff, List.all, D.leaf, splice, List.take, List.drop]
  refine asgQ (by simp [hpY, noY, hCy]) (by simp [noY]) ?_
  unfold cparts_Damage_B60
  by_cases huz : u ≤ z
  · have q : decide (u ≤ z) = true := decide_eq_true huz
    have e1 := hhit huz
    rw [e1]
    have m1 : 0 ≤ h * v ∧ h * v ≤ 2000000 := by rcases hh with rfl | rfl <;> omega
    generalize hm : h * v = M at *
    refine aw_block (aw_seq (aw_region ?_))
    simp (disch := first | exact okY | omega) only [ZU, Nat.reduceAdd, Nat.reduceMul, AOpRun, aexec, Nat.reduceBEq, ↓eget_h, Int.le_refl, cast_lit, Int.reduceLT, ↓reduceIte, Int.toNat_zero, run1, ↓hget_h, isSh, abin, q]
    refine aw_condT rfl (aw_seq (aw_region ?_))
    simp (disch := first | exact okY | omega) only [ZU, Nat.reduceAdd, Nat.reduceMul, AOpRun, aexec, run1, Nat.reduceBEq, ↓eget_h, ↓hget_h, Int.reduceLE, cast_lit, Int.reduceLT, ↓reduceIte, Int.reduceToNat, isSh, abin, hm, fits, D.isBot, D.cells, Nat.reduceLeDiff, List.all, D.leaf, splice, List.take, List.drop]
    refine aw_exit ?_
    simp only [thenQ, blockQ, if_true, if_false, Nat.reduceEqDiff, reduceCtorEq]
    refine yieldQS_ex (by simp) (by simp [hpY, noY, hCy]) (of_decide_eq_true (by kernel_rfl)) ?_
    simp (disch := first | exact okY | omega) only [ZU, Nat.reduceAdd, Nat.reduceMul, Nat.reduceSub, stopE, stopD, noY, Nat.reduceBEq, AOpRun, aexec, ↓eget_h]
    refine aw_condT rfl (aw_ret ?_)
    simp only [thenQ, blockQ, if_true, if_false, Nat.reduceEqDiff, reduceCtorEq]
    refine rangeQS_ex 0 rfl (.inr rfl) (by simp [hpY, noY, hCy]) ?_
    simp only [thenQ, blockQ, if_true, if_false, Nat.reduceEqDiff, reduceCtorEq]
    refine ⟨trivial, ?_⟩
    refine wk_q [] [(1000, 1000), (24, 24), (32, 32), (40, 40)] ?_ ?_ <;> repeat' (first | exact trivial | exact vr_val _ | exact vr_list _ | refine And.intro ⟨_, rfl, .inl ⟨_, rfl, by decide, ?_⟩⟩ ?_ | apply And.intro | exact vrl_flat _ (by first | exact icells_in _ | exact rcells_in _ | exact scells_in _ | exact bcells_in _ | assumption) | fail)
    all_goals exact vrl_flat _ hC
  · have q : decide (u ≤ z) = false := decide_eq_false huz
    refine aw_block (aw_seq (aw_region ?_))
    simp (disch := first | exact okY | omega) only [ZU, Nat.reduceAdd, Nat.reduceMul, AOpRun, aexec, Nat.reduceBEq, ↓eget_h, Int.le_refl, cast_lit, Int.reduceLT, ↓reduceIte, Int.toNat_zero, run1, ↓hget_h, isSh, abin, q]
    refine aw_condF rfl (aw_skip ?_)
    simp only [thenQ, blockQ, if_true, if_false, Nat.reduceEqDiff, reduceCtorEq]
    refine yieldQS (by simp [hpY, noY, hCy]) (of_decide_eq_true (by kernel_rfl)) ?_
    simp (disch := first | exact okY | omega) only [ZU, Nat.reduceAdd, Nat.reduceMul, Nat.reduceSub, Nat.reduceBEq, AOpRun, aexec, ↓eget_h]
    refine aw_condF rfl (aw_skip ?_)
    simp only [thenQ, blockQ, if_true, if_false, Nat.reduceEqDiff, reduceCtorEq]
    refine aw_region ?_
    simp (disch := first | exact okY | omega) only [ZU, Nat.reduceAdd, Nat.reduceMul, AOpRun, aexec, Nat.reduceBEq, ↓eget_h, isSh, ↓reduceIte, abin, fits]
    refine ⟨j, ⟨by omega, fun m h3 h4 => ?_⟩, by omega, ?_⟩
    · rcases (by omega : m = j ∨ j + 1 ≤ m) with rfl | h5
      · rw [hlo]; exact hnu huz
      · exact hno m h5 h4
    refine wk_q [] [(1000, 1000), (24, 24), (32, 32), (40, 40), (3000, 3000), (3008, 3008), (4008, 4008), (4100, 4100)] ?_ ?_ <;> repeat' (first | exact trivial | exact vr_val _ | exact vr_list _ | exact vr_ptr _ _ _ rfl | refine vr_yld _ _ _ rfl ?_ | exact Ren.bot _ | exact Ren.ptr _ _ _ rfl | refine And.intro ⟨_, rfl, .inl ⟨_, rfl, by decide, ?_⟩⟩ ?_ | apply And.intro | exact vrl_flat _ (by first | exact icells_in _ | exact rcells_in _ | exact scells_in _ | exact bcells_in _ | assumption) | fail)
    all_goals exact vrl_flat _ hC
end Go.Proofs.Ytdcodicoclecnaa
/- slices.Delete of the two elements ahead of the last one. No conditions. -/
namespace Go.Proofs.Ytdcodicoclecnaa
open Go Go.RowKit Lift

noncomputable def wdI : TypeInfo := (Try.prog.info? 3).get (by kernel_rfl)
set_option maxHeartbeats 4000000 in
set_option maxRecDepth 1000000 in
theorem wdel_calls (B off cap k j n : Nat) (x : Int) (w : World) (hj1 : k + 2 ≤ j) (hj2 : j ≤ k + 2) (hn1 : k + 3 ≤ n) (hn2 : n ≤ k + 3) (hx : w.cell? ⟨B, off + j, none⟩ = some (.int .i64 x)) (hc : ∀ i, i < 3 → (w.cell? ⟨B, off + (k + i), none⟩).isSome = true ∧ w.frozen? ⟨B, off + (k + i), none⟩ = false) (hcap : n ≤ cap) :
    Calls Try.prog 139 #[.slice (some ⟨B, off, none⟩) n cap, .int .i64 k, .int .i64 j] w fun e w' => e = .returned (.slice (some ⟨B, off, none⟩) (k + 1) cap) ∧
      w' = (w.drew.setCells B (off + k * 1) [.int .i64 x]).setCells B (off + (k + 1)) [.int .i64 0, .int .i64 0] := by
  have mixed : Try.prog.follows .mixedOrders = true := by kernel_rfl
  have t0 : Try.prog.underlying 41 = some (.slice 3) := by kernel_rfl
  have t1 : Try.prog.info? 3 = some wdI := by kernel_rfl
  have t2 : wdI.size = 1 := by kernel_rfl
  have t3 : ∀ w, (zeroValue 3).run Try.prog w = .ok (.int .i64 0) w := fun w => by kernel_rfl
  have s1 : Hid (∀ t u, [Value.int .i64 x][t]? = some u → w.drew.cell? ((⟨B, off + j, none⟩ : Addr).add t) = some u) := Lib.hid fun t u hu => by
    cases t with
    | zero => cases hu; exact hx
    | succ t => simp at hu
  have s3 : Hid (∀ t, t < [Value.int .i64 x].length → (w.drew.cell? ⟨B, off + k * 1 + t, none⟩).isSome = true ∧ w.drew.frozen? ⟨B, off + k * 1 + t, none⟩ = false) := Lib.hid fun t ht => by
    obtain rfl : t = 0 := by simpa using ht
    have := hc 0 (by omega)
    simpa using this
  obtain ⟨W1, hW1⟩ : ∃ W1, W1 = w.drew.setCells B (off + k * 1) [.int .i64 x] := ⟨_, rfl⟩
  have hW := Lib.hid hW1
  have hcl : ∀ ty n c, n = 2 → (Builtin.clear_ #[41] ty #[.slice (some ⟨B, off + (k + 1), none⟩) n c]).run Try.prog W1 = .ok (.tuple #[]) (W1.setCells B (off + (k + 1)) [.int .i64 0, .int .i64 0]) := fun ty n c hn => by
    subst hn
    have hsc : W1 = w.drew.setCell ⟨B, off + k * 1, none⟩ (.int .i64 x) := hW1
    refine Lib.run_clear_slice W1 _ _ ty _ t0 t3 rfl rfl B (off + (k + 1)) _ _ (by omega) (fun t ht => ?_) (fun t ht => ?_)
    · rw [hsc, World.cell?_setCell_other _ _ _ _ (fun e => by injection e with _ e _; omega)]
      have := (hc (1 + t) (by omega)).1
      rw [show off + (k + 1) + t = off + (k + (1 + t)) by omega]
      exact this
    · have := (hc (1 + t) (by omega)).2
      rw [hsc, show off + (k + 1) + t = off + (k + (1 + t)) by omega]
      rw [World.frozen?_setCell]
      exact this
  have hik : k ≤ cap := by omega
  have hjk : j ≤ cap := by omega
  have hne : ¬ cap = j := by omega
  have hkj : ¬ k = j := by omega
  have hjn : j ≤ n := by omega
  have hkn : k ≤ n := by omega
  have hk1 : k + (n - j) = k + 1 := by omega
  have hk2 : n - (k + 1) = 2 := by omega
  clear hW1 hx hc
  go_enter Try.func139, Try.ntmps139
  go_wp2_with fail
  go_region_law_o (refine step_append_room rfl (.tmp 22) (.tmp 25) 41 rfl 3 wdI 1 t0 t1 t2 B off k cap (by simp [Act.eval, Act.put]) ⟨B, off + j, none⟩ (n - j) (cap - j) [.int .i64 x] (by simp [Act.eval, Act.put]) (by simp; omega) s1.out (by intro u hu; rw [List.mem_singleton.1 hu]; rfl) (by omega) s3.out ?_; rw [← hW.out])
  go_wp2
  go_ret
  exact ⟨rfl, by rw [hW.out]⟩
theorem wdel_ac (g off k : Nat) (c : List D) (x : Int) (hl : off + (k + 3) ≤ c.length) (hx : c[off + (k + 2)]? = some (.val (.int .i64 x))) : AC Try.prog 139 [.own g off (k + 3) 1, .val (.int .i64 k), .val (.int .i64 ((k + 2 : Nat) : Int))] [(g, c)]
    [(g, some (c.take (off + k) ++ (.val (.int .i64 x) :: .val (.int .i64 0) :: .val (.int .i64 0) :: c.drop (off + (k + 3)))))] (.own g off (k + 1) 1) := by
  refine ⟨⟨Try.f139, Try.func139, by decide, rfl⟩, fun w us β Z H hs hr hh hnew hp => ?_⟩
  have hH : H g = some c := hh (g, c) (by simp)
  have h0 := hr 0 (by simp)
  have h1 := (hr 1 (by simp)).val_eq
  have h2 := (hr 2 (by simp)).val_eq
  simp only [List.getElem_cons_zero] at h0
  generalize hv0 : us.getD 0 undef = v0 at h0
  cases h0 with
  | own _ _ _ _ B cap e nn hB hlt hlen hsh hnn =>
    obtain ⟨cs, e', hO⟩ := (hp.objs g c (.inl (by simp)) hH).real hB
    have hfits := hO.fits
    have hus : us = #[.slice (some ⟨B, off, none⟩) (k + 3) cap, .int .i64 k, .int .i64 ((k + 2 : Nat) : Int)] := by
      apply Array.ext
      · simpa using hs
      · intro i hi1 hi2
        have hi3 : i < 3 := by simpa using hi2
        have e1 : us[i] = us.getD i undef := by simp [hi1]
        rw [e1]
        match i, hi3 with
        | 0, _ => exact hv0
        | 1, _ => exact h1.symm
        | 2, _ => exact h2.symm
    rw [hus]
    have hcell : ∀ i, i < c.length → w.cell? ⟨B, i, none⟩ = some (cs.getD i undef) := fun i hi => hO.cell i hi
    have hxv : cs.getD (off + (k + 2)) undef = .int .i64 x := by
      have h3 := hO.rep (off + (k + 2)) (by omega)
      have h4 : c[off + (k + 2)]'(by omega) = .val (.int .i64 x) := by
        have := List.getElem?_eq_getElem (l := c) (i := off + (k + 2)) (by omega)
        rw [this] at hx; exact Option.some.inj hx
      rw [h4] at h3
      exact h3.val_eq.symm
    refine (wdel_calls B off cap k (k + 2) (k + 3) x w (by omega) (by omega) (by omega) (by omega) (by rw [hcell _ (by omega), hxv]) (fun i hi => ⟨by rw [hcell _ (by omega)]; rfl, by simp [World.frozen?, hO.block]⟩) hlen).mono ?_
    rintro e2 w' ⟨rfl, rfl⟩
    refine ⟨_, rfl, ?_⟩
    obtain ⟨wd, hwd⟩ : ∃ wd, w.drew = wd := ⟨_, rfl⟩
    have hb0 : wd.heap[B]? = some (.cells cs e' (0, 0)) := by rw [← hwd]; exact hO.block
    have hf0 : Fr (fun b => b = B) w wd := by rw [← hwd]; exact Fr.drawn _ _ _
    rw [hwd]
    have b1 := setCell_block hb0 (off + k * 1) (.int .i64 x)
    have f1 := setCell_fr hb0 (off + k * 1) (.int .i64 x)
    have b2 := setCell_block b1 (off + (k + 1)) (.int .i64 0)
    have f2 := setCell_fr b1 (off + (k + 1)) (.int .i64 0)
    have b3 := setCell_block b2 (off + (k + 1) + 1) (.int .i64 0)
    have f3 := setCell_fr b2 (off + (k + 1) + 1) (.int .i64 0)
    have hf := ((hf0.trans f1 (fun _ _ h => h)).trans f2 (fun _ _ h => h)).trans f3 (fun _ _ h => h)
    show Post w β Z H _ _ ((((wd.setCell ⟨B, off + k * 1, none⟩ (.int .i64 x)).setCell ⟨B, off + (k + 1), none⟩ (.int .i64 0)).setCell ⟨B, off + (k + 1) + 1, none⟩ (.int .i64 0)))
    generalize ((wd.setCell ⟨B, off + k * 1, none⟩ (.int .i64 x)).setCell ⟨B, off + (k + 1), none⟩ (.int .i64 0)).setCell ⟨B, off + (k + 1) + 1, none⟩ (.int .i64 0) = w3 at *
    obtain ⟨β', p⟩ := post_store (c' := c.take (off + k) ++ (.val (.int .i64 x) :: .val (.int .i64 0) :: .val (.int .i64 0) :: c.drop (off + (k + 3)))) hO hH hf b3 ⟨by simp; omega, fun i hi => by
      have hi2 : i < c.length := by
        have h7 : (c.take (off + k) ++ (.val (.int .i64 x) :: .val (.int .i64 0) :: .val (.int .i64 0) :: c.drop (off + (k + 3)))).length = c.length := by simp; omega
        omega
      have hi3 : i < cs.size := by omega
      have hs3 : (((cs.setIfInBounds (off + k * 1) (.int .i64 x)).setIfInBounds (off + (k + 1)) (.int .i64 0)).setIfInBounds (off + (k + 1) + 1) (.int .i64 0)).size = cs.size := by simp
      have gt : ∀ (a : Array Value), a.size = cs.size → a.getD i undef = (a[i]?).getD undef := fun a _ => by simp
      have ht : (c.take (off + k)).length = off + k := by simp; omega
      rw [gt _ hs3, Array.getElem?_setIfInBounds, Array.getElem?_setIfInBounds, Array.getElem?_setIfInBounds]
      by_cases a1 : i < off + k
      · rw [if_neg (by omega), if_neg (by omega), if_neg (by omega), List.getElem_append_left (by omega)]
        have h5 := hO.rep i hi2
        rw [gt _ rfl] at h5
        simpa using h5
      · rw [List.getElem_append_right (by omega)]
        by_cases a2 : i = off + k
        · subst a2
          rw [if_neg (by omega), if_neg (by omega), if_pos (by omega), if_pos (by omega)]
          simp only [ht, Nat.sub_self, List.getElem_cons_zero]
          exact .val _
        · by_cases a3 : i = off + (k + 1)
          · subst a3
            rw [if_neg (by omega), if_pos (by omega), if_pos (by simp; omega)]
            simp only [ht, show off + (k + 1) - (off + k) = 1 by omega, List.getElem_cons_succ, List.getElem_cons_zero]
            exact .val _
          · by_cases a4 : i = off + (k + 2)
            · subst a4
              rw [if_pos (by omega), if_pos (by simp; omega)]
              simp only [ht, show off + (k + 2) - (off + k) = 2 by omega, List.getElem_cons_succ, List.getElem_cons_zero]
              exact .val _
            · rw [if_neg (by omega), if_neg (by omega), if_neg (by omega)]
              obtain ⟨m, rfl⟩ : ∃ m, i = off + (k + 3) + m := ⟨i - (off + (k + 3)), by omega⟩
              simp only [ht, show off + (k + 3) + m - (off + k) = m + 1 + 1 + 1 by omega, List.getElem_cons_succ, List.getElem_drop]
              have h5 := hO.rep (off + (k + 3) + m) hi2
              rw [gt _ rfl] at h5
              exact h5⟩
    exact ⟨β', p.ext, p.dom, p.fr, .own g off (k + 1) 1 B cap e' cs.size (p.ext _ _ hO.at_) (Nat.lt_of_lt_of_le hO.lt hf.size) (by omega) (by simp [World.shape?, b3]) (by
      have : nn = cs.size := by simp [World.shape?, hO.block] at hsh; exact hsh.2.symm
      omega), p.objs, p.orig, p.zold, p.zlt, p.inj⟩
end Go.Proofs.Ytdcodicoclecnaa
