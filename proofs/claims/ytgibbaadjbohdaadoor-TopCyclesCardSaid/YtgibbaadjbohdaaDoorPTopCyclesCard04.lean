/- Texts of the law TopCyclesCard, part 4. No conditions. -/
import Derived.Test.YtgibbaadjbohdaaDoorPTopCyclesCard03
import Derived.Test.YtgibbaadjbohdaaDoorRows
set_option linter.unusedSimpArgs false
set_option linter.unusedVariables false
/- parts: how long a machine may fly (views last). No conditions. -/
namespace Go.Proofs.YtgibbaadjbohdaaDoor
open Go Go.RowKit Lift

def pt0 : Prt := ⟨0, 0, 0, false, 0, 0, [], [], [], 0⟩
def prtAt (S : Hg) (i : Nat) : Prt := S.pts[i]?.getD pt0
def lg (S : Hg) (m c : Int) : Nat → Option Int
  | 0 => some 100
  | i + 1 => (lg S m c i).bind fun a => if ((prtAt S i).m != m) = true then some a else if lfC S (prtAt S i) < c then none else some (if lfH S (prtAt S i) < a then lfH S (prtAt S i) else a)
def lgI (S : Hg) (m c : Int) : Int := if (lkA S m).length = 0 then (lg S m c S.pts.length).getD (-1) else -1
theorem lg_none {S : Hg} {m c : Int} {i : Nat} (h : lg S m c i = none) : ∀ k, i ≤ k → lg S m c k = none := by
  intro k hk
  induction k with
  | zero => have : i = 0 := by omega
            subst this; exact h
  | succ k ih =>
    rcases (by omega : i ≤ k ∨ i = k + 1) with h1 | rfl
    · unfold lg; rw [ih h1]; rfl
    · exact h
structure HgrOk (S : Hg) : Prop where
  ks : S.rg.ks.length ≤ 6
  os : S.rg.os.length ≤ 6
  np : S.pts.length ≤ 24
  is : S.iss.length = S.rg.os.length
  kp : ∀ k, kpl S k ≤ 4
  pt : ∀ p ∈ S.pts, PtOk S p
theorem HgrOk.at {S : Hg} (h : HgrOk S) {i : Nat} {p : Prt} (hp : S.pts[i]? = some p) : PtOk S p := h.pt p (List.mem_of_getElem? hp)
set_option maxRecDepth 100000 in
set_option maxHeartbeats 8000000 in
theorem longest_ac (S : Hg) (hS : HgrOk S) (m c : Int) : AC Tryd.prog 68 [hgV S, dI m, dI c] [] [] (dI (lgI S m c)) := by
  refine kpparts_hangar_longest.ac (n0 := 0) (by simp) ⟨.at_ _, .val _, .val _, trivial⟩ trivial rfl ?_
  unfold cpparts_hangar_longest lgI
  have c1 := lacks_ac S m hS.ks hS.kp (by have := hS.np; omega)
  have hnp := hS.np
  have cl := fun p hp => left_ac S p hS.is (by have := hS.os; omega) hp
  generalize lkA S m = L at *
  unfold hgV at *
  by_cases hL : L.length = 0
  case neg =>
    rw [if_neg hL]
    have q : decide ((L.length : Int) > 0) = true := decide_eq_true (by omega)
    (repeat' (first | (with_reducible first | refine thenQ_n ?_ | refine blockQ_n ?_ | refine thenQ_e ?_ | refine blockQ_t ?_ | refine blockQ_f (by decide) ?_) | apply aw_seq | apply aw_skip | apply aw_exit | apply aw_ret | apply aw_block | apply aw_condT rfl | apply aw_condF rfl | ((first | refine aw_hide fun K hK => aw_region ?_ | refine acall0 (c1) ?_ | refine ago_if (by omega) ?_ | skip); simp (disch := first | exact okY | omega) only [ZU, Nat.reduceMul, dI, Nat.reduceAdd, AOpRun, aexec, Nat.reduceBEq, ↓eget_h, sps_len, isSh, ↓reduceIte, abin, q, Int.reduceNeg]) | subst hK))
    (refine end_q [] [] ?_ ?_ <;> repeat' (first | exact trivial | exact vr_val _))
  rw [if_pos hL]
  have q : decide ((L.length : Int) > 0) = false := decide_eq_false (by omega)
  (repeat' (first | (with_reducible first | refine thenQ_n ?_ | refine blockQ_n ?_ | refine thenQ_e ?_ | refine blockQ_t ?_ | refine blockQ_f (by decide) ?_) | apply aw_seq | apply aw_skip | apply aw_exit | apply aw_ret | apply aw_block | apply aw_condT rfl | apply aw_condF rfl | ((first | refine aw_hide fun K hK => aw_region ?_ | refine acall0 (c1) ?_ | refine ago_if (by omega) ?_ | skip); simp (disch := first | exact okY | omega) only [ZU, Nat.reduceMul, dI, Nat.reduceAdd, AOpRun, aexec, Nat.reduceBEq, ↓eget_h, sps_len, isSh, ↓reduceIte, abin, q, List.drop, run1, pvs_len, Int.reduceNeg]) | subst hK))
  clear c1 q hL L
  refine aw_loop (fun x : Nat × Int => ⟨[(0, hgV S), (1, dI m), (2, dI c), (7, dI x.2), (20, .list (pvs S.pts)), (21, dI S.pts.length), (22, dI x.1)], [], 600⟩) (fun x => x.1 ≤ S.pts.length ∧ lg S m c x.1 = some x.2) (fun x => S.pts.length - x.1) ⟨(0, 100), ⟨by omega, rfl⟩, ?_⟩ ?_
  · unfold dI hgV
    refine wk_q [] [] ?_ ?_ <;> repeat' (first | exact trivial | exact vr_val _ | exact vr_list _ | exact vr_at _ | apply And.intro)
  rintro ⟨i, a⟩ ⟨hi1, ha⟩
  simp only at hi1 ha ⊢
  unfold hgV
  by_cases hi2 : i < S.pts.length
  case neg =>
    obtain rfl : i = S.pts.length := by omega
    rw [ha]
    (repeat' (first | (with_reducible first | refine thenQ_n ?_ | refine blockQ_n ?_ | refine thenQ_e ?_ | refine blockQ_t ?_ | refine blockQ_f (by decide) ?_) | apply aw_seq | apply aw_skip | apply aw_exit | apply aw_ret | apply aw_block | apply aw_condT rfl | apply aw_condF rfl | ((first | refine aw_hide fun K hK => aw_region ?_ | refine ago_if (by omega) ?_ | skip); simp (disch := first | exact okY | omega) only [ZU, Nat.reduceMul, Nat.reduceAdd, dI, AOpRun, aexec, Nat.reduceBEq, ↓eget_h, isSh, ↓reduceIte, abin, Int.lt_irrefl, decide_false, Int.reduceNeg, Option.getD_some]) | subst hK))
    (refine end_q [] [] ?_ ?_ <;> repeat' (first | exact trivial | exact vr_val _))
  obtain ⟨p, hx2⟩ := nthI hi2
  have g2 := pvs_nth S.pts i p hx2
  have gb := pvs_all S.pts
  have il : ((i : Nat) : Int) < (S.pts.length : Int) := by omega
  have ep : prtAt S i = p := by unfold prtAt; rw [hx2]; rfl
  have e : lg S m c (i + 1) = if (p.m != m) = true then some a else if lfC S p < c then none else some (if lfH S p < a then lfH S p else a) := by
    show (lg S m c i).bind _ = _
    rw [ha, ep]; rfl
  have cp := cl p (hS.at hx2)
  have hno := fun h => lg_none (S := S) (m := m) (c := c) (i := i + 1) h S.pts.length (by omega)
  generalize lfC S p = C at *
  generalize lfH S p = B at *
  unfold ptV at *
  have fin : i + 1 ≤ S.pts.length := by omega
  have fin2 : S.pts.length - (i + 1) < S.pts.length - i := by omega
  cases q1 : (p.m != m)
  case true =>
    rw [q1, if_pos rfl] at e
    (repeat' (first | (with_reducible first | refine thenQ_n ?_ | refine blockQ_n ?_ | refine thenQ_e ?_ | refine blockQ_t ?_ | refine blockQ_f (by decide) ?_) | apply aw_seq | apply aw_skip | apply aw_exit | apply aw_ret | apply aw_block | apply aw_condT rfl | apply aw_condF rfl | ((first | refine aw_hide fun K hK => aw_region ?_ | refine ago_if (by omega) ?_ | skip); simp (disch := first | exact okY | omega) only [ZU, Nat.reduceMul, Nat.reduceAdd, dI, AOpRun, aexec, Nat.reduceBEq, ↓eget_h, isSh, ↓reduceIte, abin, il, gb, opt1, g2, dB, run1, List.drop, Int.le_refl, cast_lit, Int.reduceLT, Int.toNat_zero, q1, fits]) | subst hK))
    refine ⟨(i + 1, a), ⟨fin, e⟩, fin2, ?_⟩
    refine wk_q [] [] ?_ ?_ <;> repeat' (first | exact trivial | exact vr_val _ | exact vr_list _ | exact vr_at _ | apply And.intro)
  rw [q1, if_neg (by simp)] at e
  by_cases q2 : C < c
  · rw [if_pos q2] at e
    rw [hno e]
    have q3 : decide (C < c) = true := decide_eq_true q2
    (repeat' (first | (with_reducible first | refine thenQ_n ?_ | refine blockQ_n ?_ | refine thenQ_e ?_ | refine blockQ_t ?_ | refine blockQ_f (by decide) ?_) | apply aw_seq | apply aw_skip | apply aw_exit | apply aw_ret | apply aw_block | apply aw_condT rfl | apply aw_condF rfl | ((first | refine aw_hide fun K hK => aw_region ?_ | refine acall0 (cp) ?_ | refine ago_if (by omega) ?_ | skip); simp (disch := first | exact okY | omega) only [ZU, Nat.reduceMul, Nat.reduceAdd, dI, AOpRun, aexec, Nat.reduceBEq, ↓eget_h, isSh, ↓reduceIte, abin, il, gb, opt1, g2, dB, run1, List.drop, Int.le_refl, cast_lit, Int.reduceLT, Int.toNat_zero, q1, q3, Int.reduceNeg, blockQ, Option.getD_none]) | subst hK))
    (refine end_q [] [] ?_ ?_ <;> repeat' (first | exact trivial | exact vr_val _))
  · rw [if_neg q2] at e
    have q3 : decide (C < c) = false := decide_eq_false q2
    (repeat' (first | (with_reducible first | refine thenQ_n ?_ | refine blockQ_n ?_ | refine thenQ_e ?_ | refine blockQ_t ?_ | refine blockQ_f (by decide) ?_) | apply aw_seq | apply aw_skip | apply aw_exit | apply aw_ret | apply aw_block | apply aw_condT rfl | apply aw_condF rfl | ((first | refine aw_hide fun K hK => aw_region ?_ | refine acall0 (cp) ?_ | refine ago_if (by omega) ?_ | skip); simp (disch := first | exact okY | omega) only [ZU, Nat.reduceMul, Nat.reduceAdd, dI, AOpRun, aexec, Nat.reduceBEq, ↓eget_h, isSh, ↓reduceIte, abin, il, gb, opt1, g2, dB, run1, List.drop, Int.le_refl, cast_lit, Int.reduceLT, Int.toNat_zero, q1, q3, foldI, mn2, fits]) | subst hK))
    refine ⟨(i + 1, _), ⟨fin, e⟩, fin2, ?_⟩
    refine wk_q [] [] ?_ ?_ <;> repeat' (first | exact trivial | exact vr_val _ | exact vr_list _ | exact vr_at _ | apply And.intro)
end Go.Proofs.YtgibbaadjbohdaaDoor
/- parts: the memory of a hangar. No conditions. -/
namespace Go.Proofs.YtgibbaadjbohdaaDoor
open Go Go.RowKit Lift

def pN (i : Nat) : Nat := 2000 + 400 * i + 128
def sN (i : Nat) : Nat := 2000 + 400 * i + 80
def cN (i : Nat) : Nat := 2000 + 400 * i + 112
def ptC (i : Nat) (p : Prt) : List D := [dI p.kd, dI p.h, dI p.c, dB p.kn, dI p.m, dI p.pl, .vec (sN i) p.since.length 1, .vec (cN i) p.chk.length 1]
def hgrC (S : Hg) : List D := [.list (kds S.rg.ks), .list (p0s S.rg.ps), dI S.rg.ms, .list (ods S.rg.os), .vec S.pv S.pts.length 1, .vec 1032 S.iss.length 1, .vec 1056 S.fl.length 2, dI S.works, .vec 1088 S.pts.length 1]
def hsC (l : List Prt) : List D := l.map fun p => .vec p.hn p.hist.length 6
def pvC (n : Nat) : List D := (List.range n).map fun i => .ptr (pN i) 0
def fam1 (i : Nat) (p : Prt) : Hp := [(pN i, ptC i p), (sN i, icells p.since), (cN i, bcl p.chk), (p.hn, icells p.hist.flatten)]
def famL : Nat → List Prt → Hp
  | _, [] => []
  | i, p :: l => fam1 i p ++ famL (i + 1) l
def hd5 (S : Hg) : Hp := [(1104, hgrC S), (1032, bcl S.iss), (1056, scells S.fl), (1088, hsC S.pts), (S.pv, pvC S.pts.length)]
def HF (S : Hg) (tl : Hp) : Hp := hd5 S ++ (famL 0 S.pts ++ tl)
structure HgN (S : Hg) (top : Nat) : Prop where
  n : S.pts.length ≤ 24
  hn : ∀ p ∈ S.pts, 500000 ≤ p.hn ∧ p.hn < top
  nd : ∀ (i j : Nat) (p q : Prt), S.pts[i]? = some p → S.pts[j]? = some q → p.hn = q.hn → i = j
  pv : S.pv = 1992 ∨ ∃ k, k < 24 ∧ S.pv = 2000 + 400 * k + 144
  tp : 500000 ≤ top

/-! ### lists of named objects -/
theorem hget_app {a b : Hp} {k : Nat} (h : k ∉ a.map (·.1)) : hget (a ++ b) k = hget b k := by
  induction a with
  | nil => rfl
  | cons x a ih =>
    simp at h
    show (if x.1 = k then _ else hget (a ++ b) k) = _
    rw [if_neg (fun e => h.1 e.symm)]
    exact ih (by simpa using h.2)
theorem hput_app {a b : Hp} {k : Nat} {c : List D} (h : k ∉ a.map (·.1)) : hput (a ++ b) k c = a ++ hput b k c := by
  induction a with
  | nil => rfl
  | cons x a ih =>
    simp at h
    show (if x.1 = k then _ else x :: hput (a ++ b) k c) = _
    rw [if_neg (fun e => h.1 e.symm), ih (by simpa using h.2)]; rfl
theorem hdel_app {a b : Hp} {k : Nat} (h : k ∉ a.map (·.1)) : hdel (a ++ b) k = a ++ hdel b k := by
  induction a with
  | nil => rfl
  | cons x a ih =>
    simp at h
    show (if x.1 = k then _ else x :: hdel (a ++ b) k) = _
    rw [if_neg (fun e => h.1 e.symm), ih (by simpa using h.2)]; rfl
theorem hget_left {a b : Hp} {k : Nat} {c : List D} (h : hget a k = some c) : hget (a ++ b) k = some c := by
  induction a with
  | nil => simp [hget] at h
  | cons x a ih =>
    show (if x.1 = k then some x.2 else hget (a ++ b) k) = some c
    have h' : (if x.1 = k then some x.2 else hget a k) = some c := h
    by_cases e : x.1 = k
    · rw [if_pos e] at h' ⊢; exact h'
    · rw [if_neg e] at h' ⊢; exact ih h'
/-! ### the parts' objects -/
theorem famL_split : ∀ (l : List Prt) (i j : Nat) (p : Prt), l[j]? = some p → famL i l = famL i (l.take j) ++ (fam1 (i + j) p ++ famL (i + j + 1) (l.drop (j + 1)))
  | [], i, j, p, h => by simp at h
  | q :: l, i, 0, p, h => by simp at h; subst h; rfl
  | q :: l, i, j + 1, p, h => by
    have ih := famL_split l (i + 1) j p (by simpa using h)
    show fam1 i q ++ famL (i + 1) l = (fam1 i q ++ famL (i + 1) (l.take j)) ++ _
    rw [ih, List.append_assoc, show i + 1 + j = i + (j + 1) by omega]; rfl
theorem famL_set (l : List Prt) (i j : Nat) (p p' : Prt) (h : l[j]? = some p) : famL i (l.set j p') = famL i (l.take j) ++ (fam1 (i + j) p' ++ famL (i + j + 1) (l.drop (j + 1))) := by
  have hj : j < l.length := by
    rcases Nat.lt_or_ge j l.length with h1 | h1
    · exact h1
    · rw [List.getElem?_eq_none h1] at h; cases h
  rw [famL_split (l.set j p') i j p' (by simp [hj]), List.take_set_of_le (Nat.le_refl j), List.drop_set_of_lt (Nat.lt_succ_self j)]
theorem famL_names : ∀ (l : List Prt) (i k : Nat), k ∈ (famL i l).map (·.1) → ∃ j p, l[j]? = some p ∧ (k = pN (i + j) ∨ k = sN (i + j) ∨ k = cN (i + j) ∨ k = p.hn)
  | [], i, k, h => by simp [famL] at h
  | q :: l, i, k, h => by
    have h' : k ∈ (fam1 i q).map (·.1) ∨ k ∈ (famL (i + 1) l).map (·.1) := by
      unfold famL at h; rw [List.map_append, List.mem_append] at h; exact h
    rcases h' with h' | h'
    · refine ⟨0, q, rfl, ?_⟩
      simpa [fam1] using h'
    · obtain ⟨j, p, h1, h2⟩ := famL_names l (i + 1) k h'
      refine ⟨j + 1, p, by simpa using h1, ?_⟩
      rw [show i + (j + 1) = i + 1 + j by omega]; exact h2
section
variable {S : Hg} {top : Nat} (hN : HgN S top)
include hN
theorem hd5_no {k : Nat} (h : 2000 ≤ k) (h2 : ∀ j, k ≠ 2000 + 400 * j + 144) : k ∉ (hd5 S).map (·.1) := by
  have := hN.pv
  simp only [hd5, List.map_cons, List.map_nil, List.mem_cons, List.not_mem_nil, or_false]
  rintro (h1 | h1 | h1 | h1 | h1)
  · omega
  · omega
  · omega
  · omega
  · rcases hN.pv with h3 | ⟨j, _, h3⟩
    · omega
    · exact h2 j (by omega)
theorem take_no {i j : Nat} {p : Prt} (hj : S.pts[j]? = some p) (hi : i = j) {k : Nat} (hk : k = pN i ∨ k = sN i ∨ k = cN i ∨ k = p.hn) : k ∉ (famL 0 (S.pts.take j)).map (·.1) := by
  subst hi
  intro h
  obtain ⟨m, q, h1, h2⟩ := famL_names _ _ _ h
  have hm : m < i := by
    rcases Nat.lt_or_ge m i with h3 | h3
    · exact h3
    · rw [List.getElem?_take_eq_none h3] at h1; cases h1
  rw [List.getElem?_take_of_lt hm] at h1
  have hq := hN.hn q (List.mem_of_getElem? h1)
  have hp := hN.hn p (List.mem_of_getElem? hj)
  have hil : i < S.pts.length := by
    rcases Nat.lt_or_ge i S.pts.length with h3 | h3
    · exact h3
    · rw [List.getElem?_eq_none h3] at hj; cases hj
  have hn := hN.n
  have hne : q.hn = p.hn → False := fun e => by have := hN.nd m i q p h1 hj e; omega
  unfold pN sN cN at *
  rcases hk with rfl | rfl | rfl | rfl <;> rcases h2 with h2 | h2 | h2 | h2 <;> first | omega | exact hne h2.symm
end
end Go.Proofs.YtgibbaadjbohdaaDoor
/- parts: the memory of a hangar, read and written. No conditions. -/
namespace Go.Proofs.YtgibbaadjbohdaaDoor
open Go Go.RowKit Lift

def Hg.setP (S : Hg) (i : Nat) (p : Prt) : Hg := { S with pts := S.pts.set i p }
theorem idx_lt {α : Type} {l : List α} {i : Nat} {a : α} (h : l[i]? = some a) : i < l.length := by
  rcases Nat.lt_or_ge i l.length with h1 | h1
  · exact h1
  · rw [List.getElem?_eq_none h1] at h; cases h
theorem setP_at {S : Hg} {i : Nat} {p p' : Prt} (h : S.pts[i]? = some p) : (S.setP i p').pts[i]? = some p' := by simp [Hg.setP, idx_lt h]
theorem get_hg (S : Hg) (tl : Hp) : hget (HF S tl) 1104 = some (hgrC S) := rfl
theorem get_is (S : Hg) (tl : Hp) : hget (HF S tl) 1032 = some (bcl S.iss) := rfl
theorem get_fl (S : Hg) (tl : Hp) : hget (HF S tl) 1056 = some (scells S.fl) := rfl
theorem get_hs (S : Hg) (tl : Hp) : hget (HF S tl) 1088 = some (hsC S.pts) := rfl
theorem put_is (S : Hg) (tl : Hp) (l : List Bool) (h : l.length = S.iss.length) : hput (HF S tl) 1032 (bcl l) = HF { S with iss := l } tl := by
  have : hgrC { S with iss := l } = hgrC S := by unfold hgrC; simp only [h]
  unfold HF hd5
  rw [this]; rfl
theorem put_fl (S : Hg) (tl : Hp) (l : List (Int × Int)) (h : l.length = S.fl.length) : hput (HF S tl) 1056 (scells l) = HF { S with fl := l } tl := by
  have : hgrC { S with fl := l } = hgrC S := by unfold hgrC; simp only [h]
  unfold HF hd5
  rw [this]; rfl
theorem hput_head {k : Nat} {c c' : List D} {r : Hp} : hput ((k, c) :: r) k c' = (k, c') :: r := if_pos rfl
theorem hget_head {k : Nat} {c : List D} {r : Hp} : hget ((k, c) :: r) k = some c := if_pos rfl
theorem hget_skip {k t : Nat} {c : List D} {r : Hp} (h : k ≠ t) : hget ((k, c) :: r) t = hget r t := if_neg h
theorem hput_skip {k t : Nat} {c c' : List D} {r : Hp} (h : k ≠ t) : hput ((k, c) :: r) t c' = (k, c) :: hput r t c' := if_neg h
section
variable {S : Hg} {top : Nat} (hN : HgN S top) (tl : Hp)
include hN
theorem get_pv : hget (HF S tl) S.pv = some (pvC S.pts.length) := by
  have h := hN.pv
  unfold HF hd5
  simp only [List.cons_append, List.nil_append]
  rw [hget_skip (by omega), hget_skip (by omega), hget_skip (by omega), hget_skip (by omega), hget_head]
theorem fam_get {i : Nat} {p : Prt} (hi : S.pts[i]? = some p) {k : Nat} (hk : k = pN i ∨ k = sN i ∨ k = cN i ∨ k = p.hn) : hget (HF S tl) k = hget (fam1 i p ++ (famL (i + 1) (S.pts.drop (i + 1)) ++ tl)) k := by
  have hp := hN.hn p (List.mem_of_getElem? hi)
  have hn := hN.n
  have hil := idx_lt hi
  have h1 : k ∉ (hd5 S).map (·.1) := by
    rcases hk with rfl | rfl | rfl | rfl
    · exact hd5_no hN (by unfold pN; omega) (fun j => by unfold pN; omega)
    · exact hd5_no hN (by unfold sN; omega) (fun j => by unfold sN; omega)
    · exact hd5_no hN (by unfold cN; omega) (fun j => by unfold cN; omega)
    · intro h
      have := hN.pv
      simp only [hd5, List.map_cons, List.map_nil, List.mem_cons, List.not_mem_nil, or_false] at h
      omega
  have h2 := take_no hN hi rfl hk
  unfold HF
  rw [hget_app h1, famL_split _ 0 i p hi, Nat.zero_add, List.append_assoc, List.append_assoc, hget_app h2]
theorem fam_put {i : Nat} {p : Prt} (hi : S.pts[i]? = some p) {k : Nat} (hk : k = pN i ∨ k = sN i ∨ k = cN i ∨ k = p.hn) (c : List D) : hput (HF S tl) k c = hd5 S ++ (famL 0 (S.pts.take i) ++ hput (fam1 i p ++ (famL (i + 1) (S.pts.drop (i + 1)) ++ tl)) k c) := by
  have hp := hN.hn p (List.mem_of_getElem? hi)
  have hn := hN.n
  have hil := idx_lt hi
  have h1 : k ∉ (hd5 S).map (·.1) := by
    rcases hk with rfl | rfl | rfl | rfl
    · exact hd5_no hN (by unfold pN; omega) (fun j => by unfold pN; omega)
    · exact hd5_no hN (by unfold sN; omega) (fun j => by unfold sN; omega)
    · exact hd5_no hN (by unfold cN; omega) (fun j => by unfold cN; omega)
    · intro h
      have := hN.pv
      simp only [hd5, List.map_cons, List.map_nil, List.mem_cons, List.not_mem_nil, or_false] at h
      omega
  have h2 := take_no hN hi rfl hk
  unfold HF
  rw [hput_app h1, famL_split _ 0 i p hi, Nat.zero_add, List.append_assoc, List.append_assoc, hput_app h2]
theorem get_pN {i : Nat} {p : Prt} (hi : S.pts[i]? = some p) : hget (HF S tl) (pN i) = some (ptC i p) := by
  rw [fam_get hN tl hi (.inl rfl)]; exact hget_head
theorem get_sN {i : Nat} {p : Prt} (hi : S.pts[i]? = some p) : hget (HF S tl) (sN i) = some (icells p.since) := by
  rw [fam_get hN tl hi (.inr (.inl rfl))]
  show hget ((pN i, _) :: (sN i, _) :: _) _ = _
  rw [hget_skip (by unfold pN sN; omega), hget_head]
theorem get_cN {i : Nat} {p : Prt} (hi : S.pts[i]? = some p) : hget (HF S tl) (cN i) = some (bcl p.chk) := by
  rw [fam_get hN tl hi (.inr (.inr (.inl rfl)))]
  show hget ((pN i, _) :: (sN i, _) :: (cN i, _) :: _) _ = _
  rw [hget_skip (by unfold pN cN; omega), hget_skip (by unfold sN cN; omega), hget_head]
theorem get_hn {i : Nat} {p : Prt} (hi : S.pts[i]? = some p) : hget (HF S tl) p.hn = some (icells p.hist.flatten) := by
  have hp := hN.hn p (List.mem_of_getElem? hi)
  have hn := hN.n
  have hil := idx_lt hi
  rw [fam_get hN tl hi (.inr (.inr (.inr rfl)))]
  show hget ((pN i, _) :: (sN i, _) :: (cN i, _) :: (p.hn, _) :: _) _ = _
  rw [hget_skip (by unfold pN; omega), hget_skip (by unfold sN; omega), hget_skip (by unfold cN; omega), hget_head]
theorem set_same {i : Nat} {p p' : Prt} (hi : S.pts[i]? = some p) (e1 : p'.hist = p.hist) (e2 : p'.hn = p.hn) : hd5 (S.setP i p') = hd5 S := by
  have _ := hN
  have h1 : hsC (S.pts.set i p') = hsC S.pts := by
    unfold hsC
    rw [List.map_set, e1, e2]
    apply List.ext_getElem?
    intro j
    rw [List.getElem?_set]
    by_cases hj : i = j
    · subst hj
      rw [if_pos rfl, if_pos (by simpa using idx_lt hi), List.getElem?_map, hi]; rfl
    · rw [if_neg hj]
  unfold hd5 hgrC Hg.setP
  simp only [List.length_set, h1]
theorem put_pN {i : Nat} {p p' : Prt} (hi : S.pts[i]? = some p) (e1 : p'.hist = p.hist) (e2 : p'.hn = p.hn) (e3 : p'.since = p.since) (e4 : p'.chk = p.chk) : hput (HF S tl) (pN i) (ptC i p') = HF (S.setP i p') tl := by
  rw [fam_put hN tl hi (.inl rfl)]
  show _ ++ (_ ++ hput ((pN i, _) :: _) _ _) = _
  rw [hput_head]
  unfold HF
  rw [set_same hN hi e1 e2]
  show _ = _ ++ (famL 0 (S.pts.set i p') ++ tl)
  rw [famL_set _ 0 i p p' hi, Nat.zero_add, List.append_assoc, List.append_assoc]
  unfold fam1
  rw [e1, e2, e3, e4]; rfl
theorem put_sN {i : Nat} {p : Prt} {l : List Int} (hi : S.pts[i]? = some p) (hl : l.length = p.since.length) : hput (HF S tl) (sN i) (icells l) = HF (S.setP i { p with since := l }) tl := by
  rw [fam_put hN tl hi (.inr (.inl rfl))]
  show _ ++ (_ ++ hput ((pN i, _) :: (sN i, _) :: _) _ _) = _
  rw [hput_skip (by unfold pN sN; omega), hput_head]
  unfold HF
  rw [set_same hN (p' := { p with since := l }) hi rfl rfl]
  show _ = _ ++ (famL 0 (S.pts.set i { p with since := l }) ++ tl)
  rw [famL_set _ 0 i p { p with since := l } hi, Nat.zero_add, List.append_assoc, List.append_assoc]
  unfold fam1 ptC
  simp only [hl]; rfl
theorem put_cN {i : Nat} {p : Prt} {l : List Bool} (hi : S.pts[i]? = some p) (hl : l.length = p.chk.length) : hput (HF S tl) (cN i) (bcl l) = HF (S.setP i { p with chk := l }) tl := by
  rw [fam_put hN tl hi (.inr (.inr (.inl rfl)))]
  show _ ++ (_ ++ hput ((pN i, _) :: (sN i, _) :: (cN i, _) :: _) _ _) = _
  rw [hput_skip (by unfold pN cN; omega), hput_skip (by unfold sN cN; omega), hput_head]
  unfold HF
  rw [set_same hN (p' := { p with chk := l }) hi rfl rfl]
  show _ = _ ++ (famL 0 (S.pts.set i { p with chk := l }) ++ tl)
  rw [famL_set _ 0 i p { p with chk := l } hi, Nat.zero_add, List.append_assoc, List.append_assoc]
  unfold fam1 ptC
  simp only [hl]; rfl
theorem out_no {k : Nat} (h : top ≤ k) : k ∉ (hd5 S).map (·.1) ∧ k ∉ (famL 0 S.pts).map (·.1) := by
  have ht := hN.tp
  constructor
  · intro h1
    have := hN.pv
    simp only [hd5, List.map_cons, List.map_nil, List.mem_cons, List.not_mem_nil, or_false] at h1
    omega
  · intro h1
    obtain ⟨j, p, h2, h3⟩ := famL_names _ _ _ h1
    have hp := hN.hn p (List.mem_of_getElem? h2)
    have := idx_lt h2
    have hn := hN.n
    unfold pN sN cN at h3
    omega
theorem get_out {k : Nat} (h : top ≤ k) : hget (HF S tl) k = hget tl k := by
  obtain ⟨h1, h2⟩ := out_no hN h
  unfold HF
  rw [hget_app h1, hget_app h2]
theorem put_out {k : Nat} (h : top ≤ k) (c : List D) : hput (HF S tl) k c = HF S (hput tl k c) := by
  obtain ⟨h1, h2⟩ := out_no hN h
  unfold HF
  rw [hput_app h1, hput_app h2]
theorem del_out {k : Nat} (h : top ≤ k) : hdel (HF S tl) k = HF S (hdel tl k) := by
  obtain ⟨h1, h2⟩ := out_no hN h
  unfold HF
  rw [hdel_app h1, hdel_app h2]
end
theorem HF_tl {S : Hg} {tl : Hp} {g : Nat} {c : List D} (h : hget (HF S []) g = some c) : hget (HF S tl) g = some c := by
  unfold HF at h ⊢
  rw [List.append_nil] at h
  rw [← List.append_assoc]
  exact hget_left h
theorem HF_cases {S : Hg} {g : Nat} {c : List D} (h : hget (HF S []) g = some c) : (g = 1104 ∧ c = hgrC S) ∨ (g = 1032 ∧ c = bcl S.iss) ∨ (g = 1056 ∧ c = scells S.fl) ∨ (g = 1088 ∧ c = hsC S.pts) ∨ (g = S.pv ∧ c = pvC S.pts.length) ∨
    ∃ i p, S.pts[i]? = some p ∧ ((g = pN i ∧ c = ptC i p) ∨ (g = sN i ∧ c = icells p.since) ∨ (g = cN i ∧ c = bcl p.chk) ∨ (g = p.hn ∧ c = icells p.hist.flatten)) := by
  have hm := hget_mem h
  unfold HF at hm
  rw [List.append_nil, List.mem_append] at hm
  rcases hm with hm | hm
  · simp only [hd5, List.mem_cons, List.not_mem_nil, or_false, Prod.mk.injEq] at hm
    rcases hm with h1 | h1 | h1 | h1 | h1
    · exact .inl h1
    · exact .inr (.inl h1)
    · exact .inr (.inr (.inl h1))
    · exact .inr (.inr (.inr (.inl h1)))
    · exact .inr (.inr (.inr (.inr (.inl h1))))
  · refine .inr (.inr (.inr (.inr (.inr ?_))))
    have key : ∀ (l : List Prt) (i : Nat), (g, c) ∈ famL i l → ∃ j p, l[j]? = some p ∧ ((g = pN (i + j) ∧ c = ptC (i + j) p) ∨ (g = sN (i + j) ∧ c = icells p.since) ∨ (g = cN (i + j) ∧ c = bcl p.chk) ∨ (g = p.hn ∧ c = icells p.hist.flatten)) := by
      intro l
      induction l with
      | nil => intro i h; simp [famL] at h
      | cons q l ih =>
        intro i h
        unfold famL at h
        rw [List.mem_append] at h
        rcases h with h | h
        · refine ⟨0, q, rfl, ?_⟩
          simpa [fam1] using h
        · obtain ⟨j, p, h1, h2⟩ := ih (i + 1) h
          refine ⟨j + 1, p, by simpa using h1, ?_⟩
          rw [show i + (j + 1) = i + 1 + j by omega]; exact h2
    have := key S.pts 0 hm
    simpa using this
theorem wk_sub {pre : List Nat} {s s' : St} (hE : ∀ t, eget s'.env t = .bot ∨ eget s'.env t = eget s.env t) (hH : ∀ g c, hget s'.hp g = some c → hget s.hp g = some c) (hn : s.nx ≤ s'.nx) : Wk pre s s' := by
  rintro C a w rfl ⟨β, Z, h, hβ⟩
  refine ⟨β, Z, ⟨h.size, h.defers, fun t => ?_, fun g c hc => h.objs g c (hH g c hc), fun g g' c c' B hc hc' => h.inj g g' c c' B (hH g c hc) (hH g' c' hc'), h.fr, h.z0, h.old, fun g c B hc => h.orig g c B (hH g c hc), h.ext, h.zlt⟩, fun g hg => hβ g (by omega)⟩
  show Rep w β Z _ (eget s'.env t)
  rcases hE t with h1 | h1
  · rw [h1]; exact .bot _
  · rw [h1]; exact h.env t
end Go.Proofs.YtgibbaadjbohdaaDoor
/- parts: a hangar in memory, looked at. No conditions. -/
namespace Go.Proofs.YtgibbaadjbohdaaDoor
open Go Go.RowKit Lift

def EnvSub (e : Env) : Env → Prop
  | [] => True
  | x :: r => eget e x.1 = x.2 ∧ EnvSub e r
theorem EnvSub.get {e : Env} : ∀ {e' : Env}, EnvSub e e' → ∀ t, eget e' t = .bot ∨ eget e' t = eget e t
  | [], _, t => .inl rfl
  | (k, d) :: r, h, t => by
    show (if k = t then d else eget r t) = .bot ∨ (if k = t then d else eget r t) = eget e t
    by_cases hk : k = t
    · subst hk; rw [if_pos rfl]; exact .inr h.1.symm
    · rw [if_neg hk]; exact EnvSub.get h.2 t
theorem wk_env {pre : List Nat} {s s' : St} (hE : EnvSub s.env s'.env) (hH : ∀ g c, hget s'.hp g = some c → hget s.hp g = some c) (hn : s.nx ≤ s'.nx) : Wk pre s s' := wk_sub hE.get hH hn
theorem VwL.of {H : Heap} {V : List Nat} : ∀ {c l : List D}, c.length = l.length → (∀ (i : Nat) (a b : D), c[i]? = some a → l[i]? = some b → Vw H V a b) → VwL H V c l
  | [], [], _, _ => trivial
  | [], _ :: _, h, _ => by simp at h
  | _ :: _, [], h, _ => by simp at h
  | a :: c, b :: l, h, k => ⟨k 0 a b rfl rfl, VwL.of (by simpa using h) fun i x y hx hy => k (i + 1) x y (by simpa using hx) (by simpa using hy)⟩
def vN (S : Hg) : List Nat := 1104 :: 1032 :: S.pv :: (List.range S.pts.length).flatMap fun i => [pN i, sN i, cN i]
theorem vN_at {S : Hg} {i : Nat} (hi : i < S.pts.length) : pN i ∈ vN S ∧ sN i ∈ vN S ∧ cN i ∈ vN S := by
  have key : ∀ x, x ∈ [pN i, sN i, cN i] → x ∈ vN S := fun x hx => by
    unfold vN
    exact List.mem_cons_of_mem _ (List.mem_cons_of_mem _ (List.mem_cons_of_mem _ (List.mem_flatMap.2 ⟨i, List.mem_range.2 hi, hx⟩)))
  exact ⟨key _ (by simp), key _ (by simp), key _ (by simp)⟩
theorem pvC_nth {n i : Nat} (h : i < n) : (pvC n)[i]? = some (.ptr (pN i) 0) := by simp [pvC, h]
section
variable {S : Hg} {top : Nat} (hN : HgN S top) (tl : Hp)
include hN
theorem hg_vw : Vw (hget (HF S tl)) (vN S) (.ptr 1104 0) (hgV S) := by
  have h1 : (1104 : Nat) ∈ vN S := by simp [vN]
  have h2 : (1032 : Nat) ∈ vN S := by simp [vN]
  have h3 : S.pv ∈ vN S := by simp [vN]
  refine vw_obj h1 (get_hg S tl) ⟨.refl _, .bot _, .refl _, .refl _, ?_, vec_bools S.iss h2 (get_is S tl) rfl, .bot _, .bot _, .bot _, trivial⟩ rfl
  refine vw_vec1 (l := S.pts.map ptV) h3 (get_pv hN tl) (VwL.of (by simp [pvC]) fun i a b ha hb => ?_) (by simp) (by rw [List.all_map]; exact List.all_eq_true.2 fun _ _ => rfl)
  rw [List.getElem?_map] at hb
  cases hp : S.pts[i]? with
  | none => rw [hp] at hb; cases hb
  | some p =>
    rw [hp] at hb
    have hil := idx_lt hp
    rw [pvC_nth hil] at ha
    cases ha; cases hb
    obtain ⟨v1, v2, v3⟩ := vN_at hil
    exact vw_obj v1 (get_pN hN tl hp) ⟨.refl _, .refl _, .refl _, .refl _, .refl _, .refl _, vec_ints p.since v2 (get_sN hN tl hp) rfl, vec_bools p.chk v3 (get_cN hN tl hp) rfl, trivial⟩ rfl
theorem hg_live : ∀ g ∈ vN S, ∃ c, hget (HF S tl) g = some c := by
  intro g hg
  unfold vN at hg
  rcases List.mem_cons.1 hg with rfl | hg
  · exact ⟨_, get_hg S tl⟩
  rcases List.mem_cons.1 hg with rfl | hg
  · exact ⟨_, get_is S tl⟩
  rcases List.mem_cons.1 hg with rfl | hg
  · exact ⟨_, get_pv hN tl⟩
  obtain ⟨i, hi, hx⟩ := List.mem_flatMap.1 hg
  obtain ⟨p, hp⟩ := nthI (List.mem_range.1 hi)
  simp at hx
  rcases hx with rfl | rfl | rfl
  · exact ⟨_, get_pN hN tl hp⟩
  · exact ⟨_, get_sN hN tl hp⟩
  · exact ⟨_, get_cN hN tl hp⟩
end
theorem acallS {P : Program} {dr : Bool} {b : Nat} {Q : St → Prop} {dst : Option Nat} {anc : List Nat} {l : List AOper} {k : Nat} {s : St} {log : Lg} {f : FuncId} {S : Hg} {top : Nat} {tl : Hp} {r : List D} {d : D} (hN : HgN S top) (hA : AC P f (hgV S :: r) [] [] d) (hF : Flat d) (hs : s.hp = HF S tl)
    (hl : okLog dr log anc (vN S) [] = true) (h : ARun P dr b Q l (k + 1) (s.app dst d []) ((k, vN S, []) :: log)) : ACallK P dr b Q (.fn f [] []) (.ptr 1104 0 :: r) dst anc l k s log := by
  refine acall hA (vN S) ?_ (.inr hF) ?_ hl h
  · rw [hs, List.append_nil]
    exact ⟨hg_vw hN tl, VwL.refl _⟩
  · rw [hs]; exact hg_live hN tl
/-! ### a changed part -/
theorem setP_N {S : Hg} {top i : Nat} {p p' : Prt} (hN : HgN S top) (hi : S.pts[i]? = some p) (e : p'.hn = p.hn) : HgN (S.setP i p') top := by
  have key : ∀ (j : Nat) (q : Prt), (S.setP i p').pts[j]? = some q → ∃ q0, S.pts[j]? = some q0 ∧ q.hn = q0.hn := by
    intro j q hq
    unfold Hg.setP at hq
    simp only [List.getElem?_set] at hq
    by_cases hj : i = j
    · subst hj
      rw [if_pos rfl, if_pos (idx_lt hi)] at hq
      cases hq
      exact ⟨p, hi, e⟩
    · rw [if_neg hj] at hq; exact ⟨q, hq, rfl⟩
  refine ⟨by simpa [Hg.setP] using hN.n, fun q hq => ?_, fun j k q q' hq hq' he => ?_, hN.pv, hN.tp⟩
  · obtain ⟨j, hj, rfl⟩ := List.getElem_of_mem hq
    obtain ⟨q0, h1, h2⟩ := key j _ (List.getElem?_eq_getElem hj)
    rw [h2]; exact hN.hn q0 (List.mem_of_getElem? h1)
  · obtain ⟨q0, h1, h2⟩ := key j q hq
    obtain ⟨q1, h3, h4⟩ := key k q' hq'
    exact hN.nd j k q0 q1 h1 h3 (by rw [← h2, ← h4]; exact he)
theorem setP_ok {S : Hg} {i : Nat} {p p' : Prt} (hS : HgrOk S) (hi : S.pts[i]? = some p) (e1 : p'.kd = p.kd) (e2 : p'.since.length = p.since.length) (e3 : p'.chk.length = p.chk.length) : HgrOk (S.setP i p') := by
  refine ⟨hS.ks, hS.os, by simpa [Hg.setP] using hS.np, hS.is, hS.kp, fun q hq => ?_⟩
  have hp := hS.at hi
  have hp' : PtOk S p' := ⟨by rw [e1]; exact hp.k0, by rw [e1]; exact hp.k1, by rw [e2]; exact hp.sl, by rw [e3]; exact hp.cl⟩
  rcases List.mem_or_eq_of_mem_set hq with h | rfl
  · have := hS.pt q h
    exact ⟨this.k0, this.k1, this.sl, this.cl⟩
  · exact ⟨hp'.k0, hp'.k1, hp'.sl, hp'.cl⟩
theorem setP_setP (S : Hg) (i : Nat) (p q : Prt) : (S.setP i p).setP i q = S.setP i q := by simp [Hg.setP]
theorem setP_self {S : Hg} {i : Nat} {p : Prt} (h : S.pts[i]? = some p) : S.setP i p = S := by
  have : S.pts.set i p = S.pts := by
    apply List.ext_getElem?
    intro j
    rw [List.getElem?_set]
    by_cases hj : i = j
    · subst hj; rw [if_pos rfl, if_pos (idx_lt h), h]
    · rw [if_neg hj]
  unfold Hg.setP
  rw [this]
end Go.Proofs.YtgibbaadjbohdaaDoor
/- The functions' bodies, translated. Written by a program; no conditions. -/
namespace Go.Proofs.YtgibbaadjbohdaaDoor
open Go.RowKit Lift

def cpparts_hangar_fly : ACode :=
 (.seq
 (.region false [oo 8 (.mv (.const (.bool false)))] [])
 (.seq
 (.seq
 (.region false [oo 12 (.mv (.tmp 0)),
 oo 13 (.mv (.tmp 1)),
 oo 14 (.call (.func 67) [(.tmp 12), (.tmp 13)]),
 oo 15 (.un .not (.tmp 14)),
 oo 16 (.mv (.tmp 15)),
 og 17 16 false (.mv (.tmp 2)) [],
 og 18 16 false (.call (.func 32) [(.tmp 17), (kI 0), (kI 100)]) [],
 og 19 16 false (.un .not (.tmp 18)) [],
 oo 20 (.pick (.tmp 16) (.const (.bool true)) (.tmp 19)),
 oo 21 (.mv (.tmp 20)),
 og 22 21 false (.mv (.tmp 3)) [],
 og 23 21 false (.call (.func 32) [(.tmp 22), (kI 0), (kI 100)]) [],
 og 24 21 false (.un .not (.tmp 23)) [],
 oo 25 (.pick (.tmp 21) (.const (.bool true)) (.tmp 24)),
 oo 26 (.mv (.tmp 25)),
 og 27 26 false (.mv (.tmp 2)) [],
 og 28 26 false (.mv (.tmp 0)) [],
 og 29 26 false (.mv (.tmp 1)) [],
 og 30 26 false (.mv (.tmp 3)) [],
 og 31 26 false (.call (.func 68) [(.tmp 28), (.tmp 29), (.tmp 30)]) [],
 og 32 26 false (.bin .gtr (.tmp 27) (.tmp 31)) [],
 oo 33 (.pick (.tmp 26) (.const (.bool true)) (.tmp 32))] [12,13,14,15,16,17,18,19,20,21,22,23,24,25,26,27,28,29,30,31,32])
 (.cond (.tmp 33)
 (.seq
 (.region false [oo 8 (.mv (.const (.bool false)))] [])
 .ret)
 .skip))
 (.seq
 (.seq
 (.region false [oo 34 (.mv (.tmp 0)),
 oo 35 (.nilc (.tmp 34)),
 oo 36 (.fad 4 (.tmp 35)),
 oo 37 (.load1 (.tmp 36)),
 oo 38 (.len_ (.tmp 37)),
 oo 39 (.mv (kI 0))] [34,35,36])
 (.block 0
 (.loop
 (.seq
 (.region false [oo 40 (.bin .lss (.tmp 39) (.tmp 38))] [])
 (.seq
 (.cond (.tmp 40)
 .skip
 (.exit 0))
 (.seq
 (.block 1
 (.seq
 (.region false [oo 41 (.iadS 1 (.tmp 37) (.tmp 39)),
 oo 42 (.load1 (.tmp 41)),
 oo 10 (.mv (.tmp 42))] [41,42])
 (.seq
 (.seq
 (.region false [oo 43 (.mv (.tmp 10)),
 oo 44 (.nilc (.tmp 43)),
 oo 45 (.fad 4 (.tmp 44)),
 oo 46 (.iadA 2 1 (.tmp 45) (kI 0)),
 oo 47 (.load1 (.tmp 46)),
 oo 48 (.mv (.tmp 1)),
 oo 49 (.bin .neq (.tmp 47) (.tmp 48))] [43,44,45,46,47,48])
 (.cond (.tmp 49)
 (.exit 1)
 .skip))
 (.seq
 (.region false [oo 50 (.mv (.tmp 10)),
 oo 51 (.nilc (.tmp 50)),
 oo 52 (.fad 0 (.tmp 51)),
 oo 53 (.fad 1 (.tmp 52)),
 oo 54 (.load1 (.tmp 53)),
 oo 55 (.mv (.tmp 2)),
 oo 56 (.bin .add (.tmp 54) (.tmp 55)),
 oo 57 (.nilc (.tmp 50)),
 oo 58 (.fad 0 (.tmp 57)),
 oo 59 (.fad 1 (.tmp 58)),
 on (.store 1 (.tmp 59) (.tmp 56))] [50,51,52,53,54,55,56,57,58,59])
 (.seq
 (.region false [oo 60 (.mv (.tmp 10)),
 oo 61 (.nilc (.tmp 60)),
 oo 62 (.fad 0 (.tmp 61)),
 oo 63 (.fad 2 (.tmp 62)),
 oo 64 (.load1 (.tmp 63)),
 oo 65 (.mv (.tmp 3)),
 oo 66 (.bin .add (.tmp 64) (.tmp 65)),
 oo 67 (.nilc (.tmp 60)),
 oo 68 (.fad 0 (.tmp 67)),
 oo 69 (.fad 2 (.tmp 68)),
 on (.store 1 (.tmp 69) (.tmp 66))] [60,61,62,63,64,65,66,67,68,69])
 (.seq
 (.region false [oo 70 (.mv (.tmp 0)),
 oo 71 (.nilc (.tmp 70)),
 oo 72 (.fad 5 (.tmp 71)),
 oo 73 (.load1 (.tmp 72)),
 oo 74 (.len_ (.tmp 73)),
 oo 75 (.mv (kI 0))] [70,71,72,73])
 (.block 2
 (.loop
 (.seq
 (.region false [oo 76 (.bin .lss (.tmp 75) (.tmp 74))] [])
 (.seq
 (.cond (.tmp 76)
 .skip
 (.exit 2))
 (.seq
 (.block 3
 (.seq
 (.region false [oo 77 (.mv (.tmp 75)),
 oo 11 (.mv (.tmp 77))] [77])
 (.seq
 (.region false [oo 78 (.mv (.tmp 0)),
 oo 79 (.nilc (.tmp 78)),
 oo 80 (.fad 5 (.tmp 79)),
 oo 81 (.load1 (.tmp 80)),
 oo 82 (.mv (.tmp 11)),
 oo 83 (.iadS 1 (.tmp 81) (.tmp 82)),
 oo 84 (.load1 (.tmp 83))] [78,79,80,81,82,83])
 (.cond (.tmp 84)
 (.region false [oo 85 (.mv (.tmp 10)),
 oo 86 (.nilc (.tmp 85)),
 oo 87 (.fad 6 (.tmp 86)),
 oo 88 (.load1 (.tmp 87)),
 oo 89 (.mv (.tmp 11)),
 oo 90 (.iadS 1 (.tmp 88) (.tmp 89)),
 oo 91 (.load1 (.tmp 90)),
 oo 92 (.mv (.tmp 2)),
 oo 93 (.bin .add (.tmp 91) (.tmp 92)),
 oo 94 (.iadS 1 (.tmp 88) (.tmp 89)),
 on (.store 1 (.tmp 94) (.tmp 93))] [85,86,87,88,89,90,91,92,93,94])
 .skip))))
 (.region false [oo 95 (.bin .add (.tmp 75) (kI 1)),
 oo 75 (.mv (.tmp 95))] [95]))))))))))))
 (.region false [oo 96 (.bin .add (.tmp 39) (kI 1)),
 oo 39 (.mv (.tmp 96))] [96])))))))
 (.seq
 (.region true [oo 97 (.mv (.tmp 0)),
 oa 98 (.nilc (.tmp 97)) [0],
 oa 99 (.fad 6 (.tmp 98)) [1,0],
 oa 100 (.load1 (.tmp 99)) [2,1,0],
 oo 101 (.mv (.tmp 1)),
 oa 102 (.iadS 2 (.tmp 100) (.tmp 101)) [3,2,1,0,4],
 oa 103 (.iadA 2 1 (.tmp 102) (kI 0)) [5,3,2,1,0,4],
 oa 104 (.load1 (.tmp 103)) [6,5,3,2,1,0,4],
 oo 105 (.mv (.tmp 2)),
 oa 106 (.bin .add (.tmp 104) (.tmp 105)) [7,6,5,3,2,1,0,4,8],
 oa 107 (.iadS 2 (.tmp 100) (.tmp 101)) [3,2,1,0,4],
 oa 108 (.iadA 2 1 (.tmp 107) (kI 0)) [10,3,2,1,0,4,5,6,7,8,9],
 ⟨none, .store 1 (.tmp 108) (.tmp 106), none, [11,10,3,2,1,0,4,5,6,7,8,9]⟩] [97,98,99,100,101,102,103,104,105,106,107,108])
 (.seq
 (.region true [oo 109 (.mv (.tmp 0)),
 oa 110 (.nilc (.tmp 109)) [0],
 oa 111 (.fad 6 (.tmp 110)) [1,0],
 oa 112 (.load1 (.tmp 111)) [2,1,0],
 oo 113 (.mv (.tmp 1)),
 oa 114 (.iadS 2 (.tmp 112) (.tmp 113)) [3,2,1,0,4],
 oa 115 (.iadA 2 1 (.tmp 114) (kI 1)) [5,3,2,1,0,4],
 oa 116 (.load1 (.tmp 115)) [6,5,3,2,1,0,4],
 oo 117 (.mv (.tmp 3)),
 oa 118 (.bin .add (.tmp 116) (.tmp 117)) [7,6,5,3,2,1,0,4,8],
 oa 119 (.iadS 2 (.tmp 112) (.tmp 113)) [3,2,1,0,4],
 oa 120 (.iadA 2 1 (.tmp 119) (kI 1)) [10,3,2,1,0,4,5,6,7,8,9],
 ⟨none, .store 1 (.tmp 120) (.tmp 118), none, [11,10,3,2,1,0,4,5,6,7,8,9]⟩] [109,110,111,112,113,114,115,116,117,118,119,120])
 (.seq
 (.region false [oo 8 (.mv (.const (.bool true)))] [])
 .ret))))))
set_option maxRecDepth 100000 in
theorem kpparts_hangar_fly : IsCode Tryd.prog 47 121 cpparts_hangar_fly [.tmp 8] :=
 ⟨Tryd.f47, _, [84,76,49,40,33,0,1,2,3,39,38,37,10,75,74,11,8], Tryd.func47, rfl, by decide, rfl, by kernel_rfl, by kernel_rfl⟩
def cpparts_hangar_fit : ACode :=
 (.seq
 (.region false [oo 8 (.mv (.const (.bool false)))] [])
 (.seq
 (.seq
 (.region false [oo 11 (.mv (.tmp 0)),
 oo 12 (.mv (.tmp 1)),
 oo 13 (.call (.func 17) [(.tmp 11), (.tmp 12)]),
 oo 14 (.un .not (.tmp 13)),
 oo 15 (.mv (.tmp 14)),
 og 16 15 false (.mv (.tmp 0)) [],
 og 17 15 false (.mv (.tmp 2)) [],
 og 18 15 false (.call (.func 67) [(.tmp 16), (.tmp 17)]) [],
 og 19 15 false (.un .not (.tmp 18)) [],
 oo 20 (.pick (.tmp 15) (.const (.bool true)) (.tmp 19))] [11,12,13,14,15,16,17,18,19])
 (.cond (.tmp 20)
 (.seq
 (.region false [oo 8 (.mv (.const (.bool false)))] [])
 .ret)
 .skip))
 (.seq
 (.region false [oo 21 (.mv (.tmp 0)),
 oo 22 (.nilc (.tmp 21)),
 oo 23 (.fad 4 (.tmp 22)),
 oo 24 (.load1 (.tmp 23)),
 oo 25 (.mv (.tmp 1)),
 oo 26 (.iadS 1 (.tmp 24) (.tmp 25)),
 oo 27 (.load1 (.tmp 26)),
 oo 28 (.mv (.tmp 2)),
 oo 29 (.mv (.tmp 3)),
 oo 30 (.build [(.val (.int .i64 0)), (.val (.int .i64 0))] [(0,1, (.tmp 28)), (1,1, (.tmp 29))]),
 oo 10 (.mem [(.val (.int .i64 0)), (.val (.int .i64 0))]),
 oo 9 (.mv (.tmp 27)),
 on (.store 2 (.tmp 10) (.tmp 30))] [21,22,23,24,25,26,27,28,29,30])
 (.seq
 (.seq
 (.region true [oo 31 (.mv (.tmp 9)),
 oa 32 (.nilc (.tmp 31)) [0],
 oa 33 (.fad 4 (.tmp 32)) [1,0],
 oa 34 (.loadN 2 (.tmp 33)) [2,1,0],
 oo 35 (.loadN 2 (.global 0)),
 oa 36 (.eqa true [false, false] (.tmp 34) (.tmp 35)) [3,2,1,0,4],
 oa 37 (.mv (.tmp 36)) [5,3,2,1,0,4],
 og 38 37 false (.mv (.tmp 9)) [6,5,3,2,1,0,4],
 og 39 37 false (.nilc (.tmp 38)) [7,6,5,3,2,1,0,4],
 og 40 37 false (.fad 0 (.tmp 39)) [8,7,6,5,3,2,1,0,4],
 og 41 37 false (.fad 3 (.tmp 40)) [9,8,7,6,5,3,2,1,0,4],
 og 42 37 false (.load1 (.tmp 41)) [10,9,8,7,6,5,3,2,1,0,4],
 og 43 37 false (.un .not (.tmp 42)) [11,10,9,8,7,6,5,3,2,1,0,4],
 oa 44 (.pick (.tmp 37) (.const (.bool true)) (.tmp 43)) [6,5,3,2,1,0,4,12,11,10,9,8,7],
 oa 45 (.mv (.tmp 44)) [13,6,5,3,2,1,0,4,12,11,10,9,8,7],
 og 46 45 false (.mv (.tmp 3)) [14,13,6,5,3,2,1,0,4,12,11,10,9,8,7],
 og 47 45 false (.mv (.tmp 0)) [14,13,6,5,3,2,1,0,4,12,11,10,9,8,7],
 og 48 45 false (.nilc (.tmp 47)) [16,14,13,6,5,3,2,1,0,4,12,11,10,9,8,7],
 og 49 45 false (.fad 0 (.tmp 48)) [17,16,14,13,6,5,3,2,1,0,4,12,11,10,9,8,7],
 og 50 45 false (.fad 0 (.tmp 49)) [18,17,16,14,13,6,5,3,2,1,0,4,12,11,10,9,8,7],
 og 51 45 false (.load1 (.tmp 50)) [19,18,17,16,14,13,6,5,3,2,1,0,4,12,11,10,9,8,7],
 og 52 45 false (.mv (.tmp 9)) [14,13,6,5,3,2,1,0,4,12,11,10,9,8,7],
 og 53 45 false (.nilc (.tmp 52)) [21,14,13,6,5,3,2,1,0,4,12,11,10,9,8,7],
 og 54 45 false (.fad 0 (.tmp 53)) [22,21,14,13,6,5,3,2,1,0,4,12,11,10,9,8,7],
 og 55 45 false (.fad 0 (.tmp 54)) [23,22,21,14,13,6,5,3,2,1,0,4,12,11,10,9,8,7],
 og 56 45 false (.load1 (.tmp 55)) [24,23,22,21,14,13,6,5,3,2,1,0,4,12,11,10,9,8,7],
 og 57 45 false (.iadS 3 (.tmp 51) (.tmp 56)) [20,19,18,17,16,14,13,6,5,3,2,1,0,4,12,11,10,9,8,7,25,24,23,22,21],
 og 58 45 false (.fad 2 (.tmp 57)) [26,20,19,18,17,16,14,13,6,5,3,2,1,0,4,12,11,10,9,8,7,25,24,23,22,21],
 og 59 45 false (.load1 (.tmp 58)) [27,26,20,19,18,17,16,14,13,6,5,3,2,1,0,4,12,11,10,9,8,7,25,24,23,22,21],
 og 60 45 false (.bin .sub (.tmp 59) (kI 1)) [28,27,26,20,19,18,17,16,14,13,6,5,3,2,1,0,4,12,11,10,9,8,7,25,24,23,22,21],
 og 61 45 false (.call (.func 32) [(.tmp 46), (kI 0), (.tmp 60)]) [15,14,13,6,5,3,2,1,0,4,12,11,10,9,8,7,29,28,27,26,20,19,18,17,16,25,24,23,22,21],
 og 62 45 false (.un .not (.tmp 61)) [30,15,14,13,6,5,3,2,1,0,4,12,11,10,9,8,7,29,28,27,26,20,19,18,17,16,25,24,23,22,21],
 oa 63 (.pick (.tmp 45) (.const (.bool true)) (.tmp 62)) [14,13,6,5,3,2,1,0,4,12,11,10,9,8,7,31,30,15,29,28,27,26,20,19,18,17,16,25,24,23,22,21],
 oa 64 (.mv (.tmp 63)) [32,14,13,6,5,3,2,1,0,4,12,11,10,9,8,7,31,30,15,29,28,27,26,20,19,18,17,16,25,24,23,22,21],
 og 65 64 false (.mv (.tmp 0)) [33,32,14,13,6,5,3,2,1,0,4,12,11,10,9,8,7,31,30,15,29,28,27,26,20,19,18,17,16,25,24,23,22,21],
 og 66 64 false (.mv (.tmp 9)) [33,32,14,13,6,5,3,2,1,0,4,12,11,10,9,8,7,31,30,15,29,28,27,26,20,19,18,17,16,25,24,23,22,21],
 og 67 64 false (.nilc (.tmp 66)) [35,33,32,14,13,6,5,3,2,1,0,4,12,11,10,9,8,7,31,30,15,29,28,27,26,20,19,18,17,16,25,24,23,22,21],
 og 68 64 false (.fad 0 (.tmp 67)) [36,35,33,32,14,13,6,5,3,2,1,0,4,12,11,10,9,8,7,31,30,15,29,28,27,26,20,19,18,17,16,25,24,23,22,21],
 og 69 64 false (.fad 0 (.tmp 68)) [37,36,35,33,32,14,13,6,5,3,2,1,0,4,12,11,10,9,8,7,31,30,15,29,28,27,26,20,19,18,17,16,25,24,23,22,21],
 og 70 64 false (.load1 (.tmp 69)) [38,37,36,35,33,32,14,13,6,5,3,2,1,0,4,12,11,10,9,8,7,31,30,15,29,28,27,26,20,19,18,17,16,25,24,23,22,21],
 og 71 64 false (.loadN 2 (.tmp 10)) [33,32,14,13,6,5,3,2,1,0,4,12,11,10,9,8,7,31,30,15,29,28,27,26,20,19,18,17,16,25,24,23,22,21],
 og 72 64 false (.call (.func 69) [(.tmp 65), (.tmp 70), (.tmp 71)]) [34,33,32,14,13,6,5,3,2,1,0,4,12,11,10,9,8,7,31,30,15,29,28,27,26,20,19,18,17,16,25,24,23,22,21,39,38,37,36,35,40],
 og 73 64 false (.bin .geq (.tmp 72) (kI 0)) [41,34,33,32,14,13,6,5,3,2,1,0,4,12,11,10,9,8,7,31,30,15,29,28,27,26,20,19,18,17,16,25,24,23,22,21,39,38,37,36,35,40],
 oa 74 (.pick (.tmp 64) (.const (.bool true)) (.tmp 73)) [33,32,14,13,6,5,3,2,1,0,4,12,11,10,9,8,7,31,30,15,29,28,27,26,20,19,18,17,16,25,24,23,22,21,42,41,34,39,38,37,36,35,40]] [31,32,33,34,35,36,37,38,39,40,41,42,43,44,45,46,47,48,49,50,51,52,53,54,55,56,57,58,59,60,61,62,63,64,65,66,67,68,69,70,71,72,73])
 (.cond (.tmp 74)
 (.seq
 (.region false [oo 8 (.mv (.const (.bool false)))] [])
 .ret)
 .skip))
 (.seq
 (.region false [oo 75 (.mv (.tmp 9)),
 oo 76 (.loadN 2 (.tmp 10)),
 oo 77 (.nilc (.tmp 75)),
 oo 78 (.fad 4 (.tmp 77)),
 on (.store 2 (.tmp 78) (.tmp 76))] [75,76,77,78])
 (.seq
 (.region true [oo 79 (.mv (.tmp 0)),
 oa 80 (.nilc (.tmp 79)) [0],
 oa 81 (.fad 8 (.tmp 80)) [1,0],
 oa 82 (.load1 (.tmp 81)) [2,1,0],
 oo 83 (.mv (.tmp 1)),
 oo 84 (.mv (.tmp 0)),
 oa 85 (.nilc (.tmp 84)) [5],
 oa 86 (.fad 8 (.tmp 85)) [6,5],
 oa 87 (.load1 (.tmp 86)) [7,6,5],
 oo 88 (.mv (.tmp 1)),
 oa 89 (.iadS 1 (.tmp 87) (.tmp 88)) [8,7,6,5,9],
 oa 90 (.load1 (.tmp 89)) [10,8,7,6,5,9],
 oo 91 (.mv (.tmp 2)),
 oo 92 (.mv (.tmp 3)),
 oo 93 (.mv (.tmp 0)),
 oa 94 (.nilc (.tmp 93)) [14],
 oa 95 (.fad 7 (.tmp 94)) [15,14],
 oa 96 (.load1 (.tmp 95)) [16,15,14],
 oo 97 (.mv (.tmp 0)),
 oa 98 (.nilc (.tmp 97)) [18],
 oa 99 (.fad 6 (.tmp 98)) [19,18],
 oa 100 (.load1 (.tmp 99)) [20,19,18],
 oo 101 (.mv (.tmp 2)),
 oa 102 (.iadS 2 (.tmp 100) (.tmp 101)) [21,20,19,18,22],
 oa 103 (.iadA 2 1 (.tmp 102) (kI 0)) [23,21,20,19,18,22],
 oa 104 (.load1 (.tmp 103)) [24,23,21,20,19,18,22],
 oo 105 (.mv (.tmp 0)),
 oa 106 (.nilc (.tmp 105)) [26],
 oa 107 (.fad 6 (.tmp 106)) [27,26],
 oa 108 (.load1 (.tmp 107)) [28,27,26],
 oo 109 (.mv (.tmp 2)),
 oa 110 (.iadS 2 (.tmp 108) (.tmp 109)) [29,28,27,26,30],
 oa 111 (.iadA 2 1 (.tmp 110) (kI 1)) [31,29,28,27,26,30],
 oa 112 (.load1 (.tmp 111)) [32,31,29,28,27,26,30],
 oa 113 (.build [(.val (.int .i64 0)), (.val (.int .i64 0)), (.val (.int .i64 0)), (.val (.int .i64 0)), (.val (.int .i64 0)), (.val (.int .i64 0))] [(0,1, (.tmp 91)), (1,1, (.tmp 92)), (2,1, (.tmp 96)), (3,1, (kI (-1))), (4,1, (.tmp 104)), (5,1, (.tmp 112))]) [12,13,17,16,15,14,25,24,23,21,20,19,18,22,33,32,31,29,28,27,26,30],
 oa 114 (.buildSl 6 1 [(.val (.int .i64 0)), (.val (.int .i64 0)), (.val (.int .i64 0)), (.val (.int .i64 0)), (.val (.int .i64 0)), (.val (.int .i64 0))] [(0,6, (.tmp 113))]) [34,12,13,17,16,15,14,25,24,23,21,20,19,18,22,33,32,31,29,28,27,26,30],
 oa 115 (.app 6 48 (.tmp 90) (.tmp 114)) [11,10,8,7,6,5,9,35,34,12,13,17,16,15,14,25,24,23,21,20,19,18,22,33,32,31,29,28,27,26,30],
 oa 116 (.iadS 1 (.tmp 82) (.tmp 83)) [3,2,1,0,4,5,6,7,8,9,10,11,12,13,14,15,16,17,18,19,20,21,22,23,24,25,26,27,28,29,30,31,32,33,34,35,36],
 ⟨none, .store 1 (.tmp 116) (.tmp 115), none, [37,3,2,1,0,4,5,6,7,8,9,10,11,12,13,14,15,16,17,18,19,20,21,22,23,24,25,26,27,28,29,30,31,32,33,34,35,36]⟩] [79,80,81,82,83,84,85,86,87,88,89,90,91,92,93,94,95,96,97,98,99,100,101,102,103,104,105,106,107,108,109,110,111,112,113,114,115,116])
 (.seq
 (.region false [oo 8 (.mv (.const (.bool true)))] [])
 .ret)))))))
set_option maxRecDepth 100000 in
theorem kpparts_hangar_fit : IsCode Tryd.prog 48 117 cpparts_hangar_fit [.tmp 8] :=
 ⟨Tryd.f48, _, [74,20,0,1,2,3,9,10,8], Tryd.func48, rfl, by decide, rfl, by kernel_rfl, by kernel_rfl⟩
def cpparts_hangar_check : ACode :=
 (.seq
 (.region false [oo 6 (.mv (.const (.bool false)))] [])
 (.seq
 (.seq
 (.region false [oo 8 (.mv (.tmp 0)),
 oo 9 (.mv (.tmp 1)),
 oo 10 (.call (.func 17) [(.tmp 8), (.tmp 9)]),
 oo 11 (.un .not (.tmp 10)),
 oo 12 (.mv (.tmp 11)),
 og 13 12 false (.mv (.tmp 0)) [],
 og 14 12 false (.mv (.tmp 2)) [],
 og 15 12 false (.call (.func 51) [(.tmp 13), (.tmp 14)]) [],
 og 16 12 false (.un .not (.tmp 15)) [],
 oo 17 (.pick (.tmp 12) (.const (.bool true)) (.tmp 16)),
 oo 18 (.mv (.tmp 17)),
 og 19 18 false (.mv (.tmp 0)) [],
 og 20 18 false (.nilc (.tmp 19)) [],
 og 21 18 false (.fad 5 (.tmp 20)) [],
 og 22 18 false (.load1 (.tmp 21)) [],
 og 23 18 false (.mv (.tmp 2)) [],
 og 24 18 false (.iadS 1 (.tmp 22) (.tmp 23)) [],
 og 25 18 false (.load1 (.tmp 24)) [],
 og 26 18 false (.un .not (.tmp 25)) [],
 oo 27 (.pick (.tmp 18) (.const (.bool true)) (.tmp 26))] [8,9,10,11,12,13,14,15,16,17,18,19,20,21,22,23,24,25,26])
 (.cond (.tmp 27)
 (.seq
 (.region false [oo 6 (.mv (.const (.bool false)))] [])
 .ret)
 .skip))
 (.seq
 (.region false [oo 28 (.mv (.tmp 0)),
 oo 29 (.nilc (.tmp 28)),
 oo 30 (.fad 4 (.tmp 29)),
 oo 31 (.load1 (.tmp 30)),
 oo 32 (.mv (.tmp 1)),
 oo 33 (.iadS 1 (.tmp 31) (.tmp 32)),
 oo 34 (.load1 (.tmp 33)),
 oo 7 (.mv (.tmp 34))] [28,29,30,31,32,33,34])
 (.seq
 (.seq
 (.region true [oo 35 (.mv (.tmp 7)),
 oa 36 (.nilc (.tmp 35)) [0],
 oa 37 (.fad 0 (.tmp 36)) [1,0],
 oa 38 (.fad 0 (.tmp 37)) [2,1,0],
 oa 39 (.load1 (.tmp 38)) [3,2,1,0],
 oo 40 (.mv (.tmp 0)),
 oa 41 (.nilc (.tmp 40)) [5],
 oa 42 (.fad 0 (.tmp 41)) [6,5],
 oa 43 (.fad 3 (.tmp 42)) [7,6,5],
 oa 44 (.load1 (.tmp 43)) [8,7,6,5],
 oo 45 (.mv (.tmp 2)),
 oa 46 (.iadS 2 (.tmp 44) (.tmp 45)) [9,8,7,6,5,10],
 oa 47 (.fad 0 (.tmp 46)) [11,9,8,7,6,5,10],
 oa 48 (.load1 (.tmp 47)) [12,11,9,8,7,6,5,10],
 oa 49 (.bin .neq (.tmp 39) (.tmp 48)) [4,3,2,1,0,13,12,11,9,8,7,6,5,10],
 oa 50 (.mv (.tmp 49)) [14,4,3,2,1,0,13,12,11,9,8,7,6,5,10],
 og 51 50 false (.mv (.tmp 7)) [15,14,4,3,2,1,0,13,12,11,9,8,7,6,5,10],
 og 52 50 false (.nilc (.tmp 51)) [16,15,14,4,3,2,1,0,13,12,11,9,8,7,6,5,10],
 og 53 50 false (.fad 7 (.tmp 52)) [17,16,15,14,4,3,2,1,0,13,12,11,9,8,7,6,5,10],
 og 54 50 false (.load1 (.tmp 53)) [18,17,16,15,14,4,3,2,1,0,13,12,11,9,8,7,6,5,10],
 og 55 50 false (.mv (.tmp 2)) [15,14,4,3,2,1,0,13,12,11,9,8,7,6,5,10],
 og 56 50 false (.iadS 1 (.tmp 54) (.tmp 55)) [19,18,17,16,15,14,4,3,2,1,0,13,12,11,9,8,7,6,5,10,20],
 og 57 50 false (.load1 (.tmp 56)) [21,19,18,17,16,15,14,4,3,2,1,0,13,12,11,9,8,7,6,5,10,20],
 oa 58 (.pick (.tmp 50) (.const (.bool true)) (.tmp 57)) [15,14,4,3,2,1,0,13,12,11,9,8,7,6,5,10,22,21,19,18,17,16,20]] [35,36,37,38,39,40,41,42,43,44,45,46,47,48,49,50,51,52,53,54,55,56,57])
 (.cond (.tmp 58)
 (.seq
 (.region false [oo 6 (.mv (.const (.bool false)))] [])
 .ret)
 .skip))
 (.seq
 (.region false [oo 59 (.mv (.tmp 7)),
 oo 60 (.nilc (.tmp 59)),
 oo 61 (.fad 7 (.tmp 60)),
 oo 62 (.load1 (.tmp 61)),
 oo 63 (.mv (.tmp 2)),
 oo 64 (.iadS 1 (.tmp 62) (.tmp 63)),
 on (.store 1 (.tmp 64) (.const (.bool true)))] [59,60,61,62,63,64])
 (.seq
 (.region false [oo 6 (.mv (.const (.bool true)))] [])
 .ret))))))
set_option maxRecDepth 100000 in
theorem kpparts_hangar_check : IsCode Tryd.prog 49 65 cpparts_hangar_check [.tmp 6] :=
 ⟨Tryd.f49, _, [58,27,0,1,2,7,6], Tryd.func49, rfl, by decide, rfl, by kernel_rfl, by kernel_rfl⟩
def cpparts_hangar_end : ACode :=
 (.seq
 (.region false [oo 7 (.mv (.tmp 1)),
 oo 8 (.mv (.tmp 1)),
 oo 9 (.len_ (.tmp 8)),
 oo 10 (.bin .sub (.tmp 9) (kI 1)),
 oo 11 (.iadS 6 (.tmp 7) (.tmp 10)),
 oo 6 (.mv (.tmp 11))] [7,8,9,10,11])
 (.seq
 (.region false [oo 12 (.mv (.tmp 6)),
 oo 13 (.mv (.tmp 2)),
 oo 14 (.nilc (.tmp 12)),
 oo 15 (.fad 3 (.tmp 14)),
 on (.store 1 (.tmp 15) (.tmp 13))] [12,13,14,15])
 (.region true [oo 16 (.mv (.tmp 6)),
 oo 17 (.mv (.tmp 6)),
 oo 18 (.mv (.tmp 0)),
 oa 19 (.nilc (.tmp 18)) [2],
 oa 20 (.fad 6 (.tmp 19)) [3,2],
 oa 21 (.load1 (.tmp 20)) [4,3,2],
 oo 22 (.mv (.tmp 6)),
 oa 23 (.nilc (.tmp 22)) [6],
 oa 24 (.fad 0 (.tmp 23)) [7,6],
 oa 25 (.load1 (.tmp 24)) [8,7,6],
 oa 26 (.iadS 2 (.tmp 21) (.tmp 25)) [5,4,3,2,9,8,7,6],
 oa 27 (.iadA 2 1 (.tmp 26) (kI 0)) [10,5,4,3,2,9,8,7,6],
 oa 28 (.load1 (.tmp 27)) [11,10,5,4,3,2,9,8,7,6],
 oo 29 (.mv (.tmp 6)),
 oa 30 (.nilc (.tmp 29)) [13],
 oa 31 (.fad 4 (.tmp 30)) [14,13],
 oa 32 (.load1 (.tmp 31)) [15,14,13],
 oa 33 (.bin .sub (.tmp 28) (.tmp 32)) [12,11,10,5,4,3,2,9,8,7,6,16,15,14,13],
 oo 34 (.mv (.tmp 0)),
 oa 35 (.nilc (.tmp 34)) [18],
 oa 36 (.fad 6 (.tmp 35)) [19,18],
 oa 37 (.load1 (.tmp 36)) [20,19,18],
 oo 38 (.mv (.tmp 6)),
 oa 39 (.nilc (.tmp 38)) [22],
 oa 40 (.fad 0 (.tmp 39)) [23,22],
 oa 41 (.load1 (.tmp 40)) [24,23,22],
 oa 42 (.iadS 2 (.tmp 37) (.tmp 41)) [21,20,19,18,25,24,23,22],
 oa 43 (.iadA 2 1 (.tmp 42) (kI 1)) [26,21,20,19,18,25,24,23,22],
 oa 44 (.load1 (.tmp 43)) [27,26,21,20,19,18,25,24,23,22],
 oo 45 (.mv (.tmp 6)),
 oa 46 (.nilc (.tmp 45)) [29],
 oa 47 (.fad 5 (.tmp 46)) [30,29],
 oa 48 (.load1 (.tmp 47)) [31,30,29],
 oa 49 (.bin .sub (.tmp 44) (.tmp 48)) [28,27,26,21,20,19,18,25,24,23,22,32,31,30,29],
 oa 50 (.nilc (.tmp 16)) [0,2,3,4,5,6,7,8,9,10,11,12,13,14,15,16,17,21,20,19,18,25,24,23,22,28,27,26,32,31,30,29],
 oa 51 (.fad 4 (.tmp 50)) [34,0,2,3,4,5,6,7,8,9,10,11,12,13,14,15,16,17,21,20,19,18,25,24,23,22,28,27,26,32,31,30,29],
 ⟨none, .store 1 (.tmp 51) (.tmp 33), none, [35,34,0,2,3,4,5,6,7,8,9,10,11,12,13,14,15,16,17,21,20,19,18,25,24,23,22,28,27,26,32,31,30,29]⟩,
 oa 52 (.nilc (.tmp 17)) [1,0,2,3,4,5,6,7,8,9,10,11,12,13,14,15,16,17,18,19,20,21,22,23,24,25,26,27,28,29,30,31,32,33,34,35,36],
 oa 53 (.fad 5 (.tmp 52)) [37,1,0,2,3,4,5,6,7,8,9,10,11,12,13,14,15,16,17,18,19,20,21,22,23,24,25,26,27,28,29,30,31,32,33,34,35,36],
 ⟨none, .store 1 (.tmp 53) (.tmp 49), none, [38,37,1,0,2,3,4,5,6,7,8,9,10,11,12,13,14,15,16,17,18,19,20,21,22,23,24,25,26,27,28,29,30,31,32,33,34,35,36]⟩] [16,17,18,19,20,21,22,23,24,25,26,27,28,29,30,31,32,33,34,35,36,37,38,39,40,41,42,43,44,45,46,47,48,49,50,51,52,53])))
set_option maxRecDepth 100000 in
theorem kpparts_hangar_end : IsCode Tryd.prog 50 54 cpparts_hangar_end [] :=
 ⟨Tryd.f50, _, [1,6,2,0], Tryd.func50, rfl, by decide, rfl, by kernel_rfl, by kernel_rfl⟩
def cpparts_hangar_do : ACode :=
 (.seq
 (.region false [oo 3 (.box (.tmp 1)),
 oo 4 (.mv (.const (.bool false)))] [])
 (.seq
 (.region false [oo 6 (.fad 2 (.tmp 3)),
 oo 7 (.load1 (.tmp 6)),
 oo 8 (.bin .eql (.tmp 7) (kI 0)),
 oo 9 (.mv (.tmp 8)),
 og 10 9 true (.fad 3 (.tmp 3)) [],
 og 11 9 true (.load1 (.tmp 10)) [],
 og 12 9 true (.bin .eql (.tmp 11) (kI 0)) [],
 oo 13 (.pick (.tmp 9) (.tmp 12) (.const (.bool false))),
 oo 5 (.mv (.tmp 13))] [6,7,8,9,10,11,12,13])
 (.seq
 (.seq
 (.region false [oo 14 (.fad 0 (.tmp 3)),
 oo 15 (.load1 (.tmp 14))] [14])
 (.block 0
 (.seq
 (.region false [oo 17 (.bin .eql (.tmp 15) (kI 1)),
 oo 16 (.mv (.tmp 17))] [17])
 (.cond (.tmp 16)
 (.seq
 (.region false [oo 18 (.mv (.tmp 0)),
 oo 19 (.fad 1 (.tmp 3)),
 oo 20 (.load1 (.tmp 19)),
 oo 21 (.fad 2 (.tmp 3)),
 oo 22 (.load1 (.tmp 21)),
 oo 23 (.fad 3 (.tmp 3)),
 oo 24 (.load1 (.tmp 23)),
 oo 25 (.call (.func 47) [(.tmp 18), (.tmp 20), (.tmp 22), (.tmp 24)]),
 oo 4 (.mv (.tmp 25))] [18,19,20,21,22,23,24,25])
 .ret)
 (.seq
 (.region false [oo 27 (.bin .eql (.tmp 15) (kI 2)),
 oo 26 (.mv (.tmp 27))] [27])
 (.cond (.tmp 26)
 (.seq
 (.region false [oo 28 (.mv (.tmp 0)),
 oo 29 (.fad 1 (.tmp 3)),
 oo 30 (.load1 (.tmp 29)),
 oo 31 (.fad 2 (.tmp 3)),
 oo 32 (.load1 (.tmp 31)),
 oo 33 (.fad 3 (.tmp 3)),
 oo 34 (.load1 (.tmp 33)),
 oo 35 (.call (.func 48) [(.tmp 28), (.tmp 30), (.tmp 32), (.tmp 34)]),
 oo 4 (.mv (.tmp 35))] [28,29,30,31,32,33,34,35])
 .ret)
 (.seq
 (.region false [oo 37 (.bin .eql (.tmp 15) (kI 5)),
 oo 36 (.mv (.tmp 37))] [37])
 (.cond (.tmp 36)
 (.seq
 (.region false [oo 38 (.fad 3 (.tmp 3)),
 oo 39 (.load1 (.tmp 38)),
 oo 40 (.bin .eql (.tmp 39) (kI 0)),
 oo 41 (.mv (.tmp 40)),
 og 42 41 true (.mv (.tmp 0)) [],
 og 43 41 true (.fad 1 (.tmp 3)) [],
 og 44 41 true (.load1 (.tmp 43)) [],
 og 45 41 true (.fad 2 (.tmp 3)) [],
 og 46 41 true (.load1 (.tmp 45)) [],
 og 47 41 true (.call (.func 49) [(.tmp 42), (.tmp 44), (.tmp 46)]) [],
 oo 48 (.pick (.tmp 41) (.tmp 47) (.const (.bool false))),
 oo 4 (.mv (.tmp 48))] [38,39,40,41,42,43,44,45,46,47,48])
 .ret)
 (.seq
 (.region false [oo 50 (.bin .eql (.tmp 15) (kI 3)),
 oo 49 (.mv (.tmp 50))] [50])
 (.cond (.tmp 49)
 (.seq
 (.seq
 (.region true [oo 51 (.mv (.tmp 5)),
 oa 52 (.un .not (.tmp 51)) [0],
 oa 53 (.mv (.tmp 52)) [1,0],
 og 54 53 false (.mv (.tmp 0)) [2,1,0],
 og 55 53 false (.fad 1 (.tmp 3)) [2,1,0],
 og 56 53 false (.load1 (.tmp 55)) [4,2,1,0],
 og 57 53 false (.call (.func 17) [(.tmp 54), (.tmp 56)]) [3,2,1,0,5,4],
 og 58 53 false (.un .not (.tmp 57)) [6,3,2,1,0,5,4],
 oa 59 (.pick (.tmp 53) (.const (.bool true)) (.tmp 58)) [2,1,0,7,6,3,5,4],
 oa 60 (.mv (.tmp 59)) [8,2,1,0,7,6,3,5,4],
 og 61 60 false (.mv (.tmp 0)) [9,8,2,1,0,7,6,3,5,4],
 og 62 60 false (.nilc (.tmp 61)) [10,9,8,2,1,0,7,6,3,5,4],
 og 63 60 false (.fad 4 (.tmp 62)) [11,10,9,8,2,1,0,7,6,3,5,4],
 og 64 60 false (.load1 (.tmp 63)) [12,11,10,9,8,2,1,0,7,6,3,5,4],
 og 65 60 false (.fad 1 (.tmp 3)) [9,8,2,1,0,7,6,3,5,4],
 og 66 60 false (.load1 (.tmp 65)) [14,9,8,2,1,0,7,6,3,5,4],
 og 67 60 false (.iadS 1 (.tmp 64) (.tmp 66)) [13,12,11,10,9,8,2,1,0,7,6,3,5,4,15,14],
 og 68 60 false (.load1 (.tmp 67)) [16,13,12,11,10,9,8,2,1,0,7,6,3,5,4,15,14],
 og 69 60 false (.nilc (.tmp 68)) [17,16,13,12,11,10,9,8,2,1,0,7,6,3,5,4,15,14],
 og 70 60 false (.fad 4 (.tmp 69)) [18,17,16,13,12,11,10,9,8,2,1,0,7,6,3,5,4,15,14],
 og 71 60 false (.iadA 2 1 (.tmp 70) (kI 0)) [19,18,17,16,13,12,11,10,9,8,2,1,0,7,6,3,5,4,15,14],
 og 72 60 false (.load1 (.tmp 71)) [20,19,18,17,16,13,12,11,10,9,8,2,1,0,7,6,3,5,4,15,14],
 og 73 60 false (.bin .lss (.tmp 72) (kI 0)) [21,20,19,18,17,16,13,12,11,10,9,8,2,1,0,7,6,3,5,4,15,14],
 oa 74 (.pick (.tmp 60) (.const (.bool true)) (.tmp 73)) [9,8,2,1,0,7,6,3,5,4,22,21,20,19,18,17,16,13,12,11,10,15,14]] [51,52,53,54,55,56,57,58,59,60,61,62,63,64,65,66,67,68,69,70,71,72,73])
 (.cond (.tmp 74)
 (.seq
 (.region false [oo 4 (.mv (.const (.bool false)))] [])
 .ret)
 .skip))
 (.seq
 (.region true [oo 75 (.mv (.tmp 0)),
 oa 76 (.nilc (.tmp 75)) [0],
 oa 77 (.fad 4 (.tmp 76)) [1,0],
 oa 78 (.load1 (.tmp 77)) [2,1,0],
 oo 79 (.fad 1 (.tmp 3)),
 oa 80 (.load1 (.tmp 79)) [4],
 oa 81 (.iadS 1 (.tmp 78) (.tmp 80)) [3,2,1,0,5,4],
 oa 82 (.load1 (.tmp 81)) [6,3,2,1,0,5,4],
 oo 83 (.loadN 2 (.global 0)),
 oa 84 (.nilc (.tmp 82)) [7,6,3,2,1,0,5,4,8],
 oa 85 (.fad 4 (.tmp 84)) [9,7,6,3,2,1,0,5,4,8],
 ⟨none, .store 2 (.tmp 85) (.tmp 83), none, [10,9,7,6,3,2,1,0,5,4,8]⟩] [75,76,77,78,79,80,81,82,83,84,85])
 (.region true [oo 86 (.mv (.tmp 0)),
 oo 87 (.mv (.tmp 0)),
 oa 88 (.nilc (.tmp 87)) [1],
 oa 89 (.fad 8 (.tmp 88)) [2,1],
 oa 90 (.load1 (.tmp 89)) [3,2,1],
 oo 91 (.fad 1 (.tmp 3)),
 oa 92 (.load1 (.tmp 91)) [5],
 oa 93 (.iadS 1 (.tmp 90) (.tmp 92)) [4,3,2,1,6,5],
 oa 94 (.load1 (.tmp 93)) [7,4,3,2,1,6,5],
 oo 95 (.mv (.tmp 0)),
 oa 96 (.nilc (.tmp 95)) [9],
 oa 97 (.fad 7 (.tmp 96)) [10,9],
 oa 98 (.load1 (.tmp 97)) [11,10,9],
 oa 99 (.call (.func 50) [(.tmp 86), (.tmp 94), (.tmp 98)]) [0,8,7,4,3,2,1,6,5,12,11,10,9]] [86,87,88,89,90,91,92,93,94,95,96,97,98,99])))
 (.seq
 (.region false [oo 101 (.bin .eql (.tmp 15) (kI 4)),
 oo 100 (.mv (.tmp 101))] [101])
 (.cond (.tmp 100)
 (.seq
 (.seq
 (.region true [oo 102 (.mv (.tmp 5)),
 oa 103 (.un .not (.tmp 102)) [0],
 oa 104 (.mv (.tmp 103)) [1,0],
 og 105 104 false (.mv (.tmp 0)) [2,1,0],
 og 106 104 false (.fad 1 (.tmp 3)) [2,1,0],
 og 107 104 false (.load1 (.tmp 106)) [4,2,1,0],
 og 108 104 false (.call (.func 51) [(.tmp 105), (.tmp 107)]) [3,2,1,0,5,4],
 og 109 104 false (.un .not (.tmp 108)) [6,3,2,1,0,5,4],
 oa 110 (.pick (.tmp 104) (.const (.bool true)) (.tmp 109)) [2,1,0,7,6,3,5,4],
 oa 111 (.mv (.tmp 110)) [8,2,1,0,7,6,3,5,4],
 og 112 111 false (.mv (.tmp 0)) [9,8,2,1,0,7,6,3,5,4],
 og 113 111 false (.nilc (.tmp 112)) [10,9,8,2,1,0,7,6,3,5,4],
 og 114 111 false (.fad 5 (.tmp 113)) [11,10,9,8,2,1,0,7,6,3,5,4],
 og 115 111 false (.load1 (.tmp 114)) [12,11,10,9,8,2,1,0,7,6,3,5,4],
 og 116 111 false (.fad 1 (.tmp 3)) [9,8,2,1,0,7,6,3,5,4],
 og 117 111 false (.load1 (.tmp 116)) [14,9,8,2,1,0,7,6,3,5,4],
 og 118 111 false (.iadS 1 (.tmp 115) (.tmp 117)) [13,12,11,10,9,8,2,1,0,7,6,3,5,4,15,14],
 og 119 111 false (.load1 (.tmp 118)) [16,13,12,11,10,9,8,2,1,0,7,6,3,5,4,15,14],
 oa 120 (.pick (.tmp 111) (.const (.bool true)) (.tmp 119)) [9,8,2,1,0,7,6,3,5,4,17,16,13,12,11,10,15,14]] [102,103,104,105,106,107,108,109,110,111,112,113,114,115,116,117,118,119])
 (.cond (.tmp 120)
 (.seq
 (.region false [oo 4 (.mv (.const (.bool false)))] [])
 .ret)
 .skip))
 (.region true [oo 121 (.mv (.tmp 0)),
 oa 122 (.nilc (.tmp 121)) [0],
 oa 123 (.fad 5 (.tmp 122)) [1,0],
 oa 124 (.load1 (.tmp 123)) [2,1,0],
 oo 125 (.fad 1 (.tmp 3)),
 oa 126 (.load1 (.tmp 125)) [4],
 oa 127 (.iadS 1 (.tmp 124) (.tmp 126)) [3,2,1,0,5,4],
 ⟨none, .store 1 (.tmp 127) (.const (.bool true)), none, [6,3,2,1,0,5,4]⟩] [121,122,123,124,125,126,127]))
 (.seq
 (.region false [oo 129 (.bin .eql (.tmp 15) (kI 6)),
 oo 128 (.mv (.tmp 129))] [129])
 (.cond (.tmp 128)
 (.seq
 (.seq
 (.region true [oo 130 (.mv (.tmp 5)),
 oa 131 (.un .not (.tmp 130)) [0],
 oa 132 (.mv (.tmp 131)) [1,0],
 og 133 132 false (.mv (.tmp 0)) [2,1,0],
 og 134 132 false (.fad 1 (.tmp 3)) [2,1,0],
 og 135 132 false (.load1 (.tmp 134)) [4,2,1,0],
 og 136 132 false (.call (.func 17) [(.tmp 133), (.tmp 135)]) [3,2,1,0,5,4],
 og 137 132 false (.un .not (.tmp 136)) [6,3,2,1,0,5,4],
 oa 138 (.pick (.tmp 132) (.const (.bool true)) (.tmp 137)) [2,1,0,7,6,3,5,4],
 oa 139 (.mv (.tmp 138)) [8,2,1,0,7,6,3,5,4],
 og 140 139 false (.mv (.tmp 0)) [9,8,2,1,0,7,6,3,5,4],
 og 141 139 false (.nilc (.tmp 140)) [10,9,8,2,1,0,7,6,3,5,4],
 og 142 139 false (.fad 4 (.tmp 141)) [11,10,9,8,2,1,0,7,6,3,5,4],
 og 143 139 false (.load1 (.tmp 142)) [12,11,10,9,8,2,1,0,7,6,3,5,4],
 og 144 139 false (.fad 1 (.tmp 3)) [9,8,2,1,0,7,6,3,5,4],
 og 145 139 false (.load1 (.tmp 144)) [14,9,8,2,1,0,7,6,3,5,4],
 og 146 139 false (.iadS 1 (.tmp 143) (.tmp 145)) [13,12,11,10,9,8,2,1,0,7,6,3,5,4,15,14],
 og 147 139 false (.load1 (.tmp 146)) [16,13,12,11,10,9,8,2,1,0,7,6,3,5,4,15,14],
 og 148 139 false (.nilc (.tmp 147)) [17,16,13,12,11,10,9,8,2,1,0,7,6,3,5,4,15,14],
 og 149 139 false (.fad 4 (.tmp 148)) [18,17,16,13,12,11,10,9,8,2,1,0,7,6,3,5,4,15,14],
 og 150 139 false (.loadN 2 (.tmp 149)) [19,18,17,16,13,12,11,10,9,8,2,1,0,7,6,3,5,4,15,14],
 og 151 139 false (.loadN 2 (.global 0)) [9,8,2,1,0,7,6,3,5,4],
 og 152 139 false (.eqa true [false, false] (.tmp 150) (.tmp 151)) [20,19,18,17,16,13,12,11,10,9,8,2,1,0,7,6,3,5,4,15,14,21],
 oa 153 (.pick (.tmp 139) (.const (.bool true)) (.tmp 152)) [9,8,2,1,0,7,6,3,5,4,22,20,19,18,17,16,13,12,11,10,15,14,21]] [130,131,132,133,134,135,136,137,138,139,140,141,142,143,144,145,146,147,148,149,150,151,152])
 (.cond (.tmp 153)
 (.seq
 (.region false [oo 4 (.mv (.const (.bool false)))] [])
 .ret)
 .skip))
 (.region true [oo 154 (.mv (.tmp 0)),
 oa 155 (.nilc (.tmp 154)) [0],
 oa 156 (.fad 4 (.tmp 155)) [1,0],
 oa 157 (.load1 (.tmp 156)) [2,1,0],
 oo 158 (.fad 1 (.tmp 3)),
 oa 159 (.load1 (.tmp 158)) [4],
 oa 160 (.iadS 1 (.tmp 157) (.tmp 159)) [3,2,1,0,5,4],
 oa 161 (.load1 (.tmp 160)) [6,3,2,1,0,5,4],
 oo 162 (.loadN 2 (.global 1)),
 oa 163 (.nilc (.tmp 161)) [7,6,3,2,1,0,5,4,8],
 oa 164 (.fad 4 (.tmp 163)) [9,7,6,3,2,1,0,5,4,8],
 ⟨none, .store 2 (.tmp 164) (.tmp 162), none, [10,9,7,6,3,2,1,0,5,4,8]⟩] [154,155,156,157,158,159,160,161,162,163,164]))
 (.seq
 (.region false [oo 4 (.mv (.const (.bool false)))] [])
 .ret)))))))))))))))
 (.seq
 (.region false [oo 4 (.mv (.const (.bool true)))] [])
 .ret))))
set_option maxRecDepth 100000 in
theorem kpparts_hangar_do : IsCode Tryd.prog 31 165 cpparts_hangar_do [.tmp 4] :=
 ⟨Tryd.f31, _, [153,128,120,100,74,49,36,26,16,1,3,15,0,5,4], Tryd.func31, rfl, by decide, rfl, by kernel_rfl, by kernel_rfl⟩
def cparts_newHangar : ACode :=
 (.seq
 (.region false [oo 1 (.box (.tmp 0)),
 oo 2 (.mv (.const (.pointer none)))] [])
 (.seq
 (.region true [oo 6 (.loadN 4 (.tmp 1)),
 oo 7 (.fad 3 (.tmp 1)),
 oa 8 (.load1 (.tmp 7)) [1],
 oa 9 (.len_ (.tmp 8)) [2,1],
 oa 10 (.mksl 1 1 [(.val (.bool false))] (.tmp 9) (.tmp 9)) [3,2,1],
 oo 11 (.fad 2 (.tmp 1)),
 oa 12 (.load1 (.tmp 11)) [5],
 oa 13 (.mksl 2 16 [(.val (.int .i64 0)), (.val (.int .i64 0))] (.tmp 12) (.tmp 12)) [6,5],
 oo 14 (.fad 1 (.tmp 1)),
 oa 15 (.load1 (.tmp 14)) [8],
 oa 16 (.len_ (.tmp 15)) [9,8],
 oa 17 (.mksl 1 24 [(.val (.slice none 0 0))] (.tmp 16) (.tmp 16)) [10,9,8],
 oa 18 (.build [(.val (.slice none 0 0)), (.val (.slice none 0 0)), (.val (.int .i64 0)), (.val (.slice none 0 0)), (.val (.slice none 0 0)), (.val (.slice none 0 0)), (.val (.slice none 0 0)), (.val (.int .i64 0)), (.val (.slice none 0 0))] [(0,4, (.tmp 6)), (5,1, (.tmp 10)), (6,1, (.tmp 13)), (8,1, (.tmp 17))]) [0,4,3,2,1,7,6,5,11,10,9,8],
 oa 19 (.box (.tmp 18)) [12,0,4,3,2,1,7,6,5,11,10,9,8],
 oa 3 (.mv (.tmp 19)) [13,12,0,4,3,2,1,7,6,5,11,10,9,8]] [6,7,8,9,10,11,12,13,14,15,16,17,18,19])
 (.seq
 (.seq
 (.region false [oo 20 (.fad 1 (.tmp 1)),
 oo 21 (.load1 (.tmp 20)),
 oo 22 (.len_ (.tmp 21)),
 oo 23 (.mv (kI 0))] [20])
 (.block 0
 (.loop
 (.seq
 (.region false [oo 24 (.bin .lss (.tmp 23) (.tmp 22))] [])
 (.seq
 (.cond (.tmp 24)
 .skip
 (.exit 0))
 (.seq
 (.block 1
 (.seq
 (.region false [oo 25 (.iadS 4 (.tmp 21) (.tmp 23)),
 oo 26 (.loadN 4 (.tmp 25)),
 oo 5 (.mem [(.val (.int .i64 0)), (.val (.int .i64 0)), (.val (.int .i64 0)), (.val (.bool false))]),
 on (.store 4 (.tmp 5) (.tmp 26))] [25,26])
 (.region true [oo 27 (.mv (.tmp 3)),
 oo 28 (.mv (.tmp 3)),
 oa 29 (.nilc (.tmp 28)) [1],
 oa 30 (.fad 4 (.tmp 29)) [2,1],
 oa 31 (.load1 (.tmp 30)) [3,2,1],
 oo 32 (.loadN 4 (.tmp 5)),
 oo 33 (.loadN 2 (.global 0)),
 oo 34 (.fad 3 (.tmp 1)),
 oa 35 (.load1 (.tmp 34)) [7],
 oa 36 (.len_ (.tmp 35)) [8,7],
 oa 37 (.mksl 1 8 [(.val (.int .i64 0))] (.tmp 36) (.tmp 36)) [9,8,7],
 oo 38 (.fad 3 (.tmp 1)),
 oa 39 (.load1 (.tmp 38)) [11],
 oa 40 (.len_ (.tmp 39)) [12,11],
 oa 41 (.mksl 1 1 [(.val (.bool false))] (.tmp 40) (.tmp 40)) [13,12,11],
 oa 42 (.build [(.val (.int .i64 0)), (.val (.int .i64 0)), (.val (.int .i64 0)), (.val (.bool false)), (.val (.int .i64 0)), (.val (.int .i64 0)), (.val (.slice none 0 0)), (.val (.slice none 0 0))] [(0,4, (.tmp 32)), (4,2, (.tmp 33)), (6,1, (.tmp 37)), (7,1, (.tmp 41))]) [5,6,10,9,8,7,14,13,12,11],
 oa 43 (.box (.tmp 42)) [15,5,6,10,9,8,7,14,13,12,11],
 oa 44 (.buildSl 1 1 [(.val (.pointer none))] [(0,1, (.tmp 43))]) [16,15,5,6,10,9,8,7,14,13,12,11],
 oa 45 (.app 1 8 (.tmp 31) (.tmp 44)) [4,3,2,1,17,16,15,5,6,10,9,8,7,14,13,12,11],
 oa 46 (.nilc (.tmp 27)) [0,1,2,3,4,5,6,7,8,9,10,11,12,13,14,15,16,17,18],
 oa 47 (.fad 4 (.tmp 46)) [19,0,1,2,3,4,5,6,7,8,9,10,11,12,13,14,15,16,17,18],
 ⟨none, .store 1 (.tmp 47) (.tmp 45), none, [20,19,0,1,2,3,4,5,6,7,8,9,10,11,12,13,14,15,16,17,18]⟩] [27,28,29,30,31,32,33,34,35,36,37,38,39,40,41,42,43,44,45,46,47])))
 (.region false [oo 48 (.bin .add (.tmp 23) (kI 1)),
 oo 23 (.mv (.tmp 48))] [48])))))))
 (.seq
 (.region false [oo 49 (.mv (.tmp 3)),
 oo 2 (.mv (.tmp 49))] [49])
 .ret))))
set_option maxRecDepth 100000 in
theorem kparts_newHangar : IsCode Tryd.prog 30 50 cparts_newHangar [.tmp 2] :=
 ⟨Tryd.f30, _, [24,0,1,23,22,21,3,5,2], Tryd.func30, rfl, by decide, rfl, by kernel_rfl, by kernel_rfl⟩
def cparts_open : ACode :=
 (.seq
 (.region false [oo 2 (.box (.tmp 0)),
 oo 4 (.mv (.const (.pointer none))),
 oo 5 (.mv (kI 0)),
 oo 6 (.mv (kI 0))] [])
 (.seq
 (.seq
 (.region false [oo 9 (.loadN 4 (.tmp 2)),
 oo 10 (.call (.func 29) [(.tmp 9)]),
 oo 11 (.un .not (.tmp 10))] [9,10])
 (.cond (.tmp 11)
 (.seq
 (.region false [oo 4 (.mv (.const (.pointer none))),
 oo 5 (.mv (kI 0)),
 oo 6 (.mv (kI 90))] [])
 .ret)
 .skip))
 (.seq
 (.seq
 (.region false [oo 12 (.mv (.tmp 1)),
 oo 13 (.len_ (.tmp 12)),
 oo 14 (.bin .gtr (.tmp 13) (kI 200))] [12,13])
 (.cond (.tmp 14)
 (.seq
 (.region false [oo 4 (.mv (.const (.pointer none))),
 oo 5 (.mv (kI 0)),
 oo 6 (.mv (kI 2))] [])
 .ret)
 .skip))
 (.seq
 (.region false [oo 15 (.loadN 4 (.tmp 2)),
 oo 16 (.call (.func 30) [(.tmp 15)]),
 oo 4 (.mv (.tmp 16))] [15,16])
 (.seq
 (.seq
 (.region false [oo 17 (.mv (.tmp 1)),
 oo 18 (.len_ (.tmp 17)),
 oo 19 (.mv (kI 0))] [])
 (.block 0
 (.loop
 (.seq
 (.region false [oo 20 (.bin .lss (.tmp 19) (.tmp 18))] [])
 (.seq
 (.cond (.tmp 20)
 .skip
 (.exit 0))
 (.seq
 (.block 1
 (.seq
 (.region false [oo 21 (.mv (.tmp 19)),
 oo 22 (.iadS 4 (.tmp 17) (.tmp 19)),
 oo 23 (.loadN 4 (.tmp 22)),
 oo 8 (.mem [(.val (.int .i64 0)), (.val (.int .i64 0)), (.val (.int .i64 0)), (.val (.int .i64 0))]),
 oo 7 (.mv (.tmp 21)),
 on (.store 4 (.tmp 8) (.tmp 23))] [21,22,23])
 (.seq
 (.seq
 (.region false [oo 24 (.mv (.tmp 4)),
 oo 25 (.loadN 4 (.tmp 8)),
 oo 26 (.call (.func 31) [(.tmp 24), (.tmp 25)]),
 oo 27 (.un .not (.tmp 26))] [24,25,26])
 (.cond (.tmp 27)
 (.seq
 (.region false [oo 28 (.mv (.tmp 7)),
 oo 4 (.mv (.const (.pointer none))),
 oo 5 (.mv (.tmp 28)),
 oo 6 (.mv (kI 91))] [28])
 .ret)
 .skip))
 (.region false [oo 29 (.mv (.tmp 4)),
 oo 30 (.nilc (.tmp 29)),
 oo 31 (.fad 7 (.tmp 30)),
 oo 32 (.load1 (.tmp 31)),
 oo 33 (.bin .add (.tmp 32) (kI 1)),
 oo 34 (.nilc (.tmp 29)),
 oo 35 (.fad 7 (.tmp 34)),
 on (.store 1 (.tmp 35) (.tmp 33))] [29,30,31,32,33,34,35]))))
 (.region false [oo 36 (.bin .add (.tmp 19) (kI 1)),
 oo 19 (.mv (.tmp 36))] [36])))))))
 (.seq
 (.region false [oo 37 (.mv (.tmp 4)),
 oo 4 (.mv (.tmp 37)),
 oo 5 (.mv (kI 0)),
 oo 6 (.mv (kI 0))] [37])
 .ret))))))
set_option maxRecDepth 100000 in
theorem kparts_open : IsCode Tryd.prog 13 38 cparts_open [.tmp 4, .tmp 5, .tmp 6] :=
 ⟨Tryd.f13, _, [27,20,14,11,0,2,1,19,18,17,4,8,7,5,6], Tryd.func13, rfl, by decide, rfl, by kernel_rfl, by kernel_rfl⟩
def cparts_each : ACode :=
 (.seq
 (.region false [oo 3 (.box (.tmp 0)),
 oo 6 (.mv (.const (.slice none 0 0))),
 oo 7 (.mv (kI 0))] [])
 (.seq
 (.region false [oo 13 (.loadN 4 (.tmp 3)),
 oo 14 (.mv (.tmp 1)),
 oo 15 (.call (.func 13) [(.tmp 13), (.tmp 14)]),
 oo 12 (.mv (.tmp 15)),
 oo 16 (.ext (.tmp 12) 0),
 oo 17 (.ext (.tmp 12) 1),
 oo 18 (.ext (.tmp 12) 2),
 oo 8 (.mv (.tmp 16)),
 oo 9 (.mv (.tmp 17)),
 oo 7 (.mv (.tmp 18))] [13,14,15,12,16,17,18,9])
 (.seq
 (.seq
 (.region false [oo 19 (.mv (.tmp 7)),
 oo 20 (.bin .neq (.tmp 19) (kI 0))] [19])
 (.cond (.tmp 20)
 (.seq
 (.region false [oo 21 (.mv (.tmp 7)),
 oo 6 (.mv (.const (.slice none 0 0))),
 oo 7 (.mv (.tmp 21))] [21])
 .ret)
 .skip))
 (.seq
 (.seq
 (.region false [oo 22 (.mv (.tmp 8)),
 oo 23 (.nilc (.tmp 22)),
 oo 24 (.fad 4 (.tmp 23)),
 oo 25 (.load1 (.tmp 24)),
 oo 26 (.len_ (.tmp 25)),
 oo 27 (.mv (kI 0))] [22,23,24])
 (.block 0
 (.loop
 (.seq
 (.region false [oo 28 (.bin .lss (.tmp 27) (.tmp 26))] [])
 (.seq
 (.cond (.tmp 28)
 .skip
 (.exit 0))
 (.seq
 (.block 1
 (.seq
 (.region false [oo 29 (.iadS 1 (.tmp 25) (.tmp 27)),
 oo 30 (.load1 (.tmp 29)),
 oo 11 (.mv (.tmp 30))] [29,30])
 (.region false [oo 31 (.mv (.tmp 6)),
 oo 32 (.mv (.tmp 2)),
 oo 33 (.mv (.tmp 11)),
 oo 34 (.call (.tmp 32) [(.tmp 33)]),
 oo 35 (.buildSl 2 1 [(.val (.int .i64 0)), (.val (.int .i64 0))] [(0,2, (.tmp 34))]),
 oo 36 (.app 2 16 (.tmp 31) (.tmp 35)),
 oo 6 (.mv (.tmp 36))] [31,32,33,34,35,36])))
 (.region false [oo 37 (.bin .add (.tmp 27) (kI 1)),
 oo 27 (.mv (.tmp 37))] [37])))))))
 (.seq
 (.region false [oo 38 (.mv (.tmp 6)),
 oo 6 (.mv (.tmp 38)),
 oo 7 (.mv (kI 0))] [38])
 .ret)))))
set_option maxRecDepth 100000 in
theorem kparts_each : IsCode Tryd.prog 14 39 cparts_each [.tmp 6, .tmp 7] :=
 ⟨Tryd.f14, _, [28,20,0,3,1,7,8,27,26,25,6,2,11], Tryd.func14, rfl, by decide, rfl, by kernel_rfl, by kernel_rfl⟩
def cparts_Check : ACode :=
 (.seq
 (.region false [oo 2 (.box (.tmp 0)),
 oo 4 (.mv (kI 0)),
 oo 5 (.mv (kI 0))] [])
 (.seq
 (.region false [oo 7 (.loadN 4 (.tmp 2)),
 oo 8 (.mv (.tmp 1)),
 oo 9 (.call (.func 13) [(.tmp 7), (.tmp 8)]),
 oo 6 (.mv (.tmp 9)),
 oo 10 (.ext (.tmp 6) 0),
 oo 11 (.ext (.tmp 6) 1),
 oo 12 (.ext (.tmp 6) 2),
 oo 4 (.mv (.tmp 11)),
 oo 5 (.mv (.tmp 12))] [7,8,9,6,10,11,12])
 (.seq
 (.region false [oo 13 (.mv (.tmp 4)),
 oo 14 (.mv (.tmp 5)),
 oo 4 (.mv (.tmp 13)),
 oo 5 (.mv (.tmp 14))] [13,14])
 .ret)))
set_option maxRecDepth 100000 in
theorem kparts_Check : IsCode Tryd.prog 6 15 cparts_Check [.tmp 4, .tmp 5] :=
 ⟨Tryd.f6, _, [0,2,1,4,5], Tryd.func6, rfl, by decide, rfl, by kernel_rfl, by kernel_rfl⟩
def cparts_Used : ACode :=
 (.seq
 (.region false [oo 2 (.box (.tmp 0)),
 oo 4 (.mv (.const (.slice none 0 0))),
 oo 5 (.mv (kI 0))] [])
 (.seq
 (.region false [oo 6 (.loadN 4 (.tmp 2)),
 oo 7 (.mv (.tmp 1)),
 oo 8 (.call (.func 14) [(.tmp 6), (.tmp 7), (.func 16)]),
 oo 9 (.ext (.tmp 8) 0),
 oo 10 (.ext (.tmp 8) 1),
 oo 4 (.mv (.tmp 9)),
 oo 5 (.mv (.tmp 10))] [6,7,8,9,10])
 .ret))
set_option maxRecDepth 100000 in
theorem kparts_Used : IsCode Tryd.prog 8 11 cparts_Used [.tmp 4, .tmp 5] :=
 ⟨Tryd.f8, _, [0,2,1,4,5], Tryd.func8, rfl, by decide, rfl, by kernel_rfl, by kernel_rfl⟩
def cparts_Used_S1 : ACode :=
 (.seq
 (.region false [oo 2 (.mem [(.val (.int .i64 0)), (.val (.int .i64 0))])] [])
 (.seq
 (.region true [oo 3 (.mv (.tmp 0)),
 oa 4 (.nilc (.tmp 3)) [0],
 oa 5 (.fad 0 (.tmp 4)) [1,0],
 oa 6 (.fad 1 (.tmp 5)) [2,1,0],
 oa 7 (.load1 (.tmp 6)) [3,2,1,0],
 oo 8 (.mv (.tmp 0)),
 oa 9 (.nilc (.tmp 8)) [5],
 oa 10 (.fad 0 (.tmp 9)) [6,5],
 oa 11 (.fad 2 (.tmp 10)) [7,6,5],
 oa 12 (.load1 (.tmp 11)) [8,7,6,5],
 oa 13 (.build [(.val (.int .i64 0)), (.val (.int .i64 0))] [(0,1, (.tmp 7)), (1,1, (.tmp 12))]) [4,3,2,1,0,9,8,7,6,5],
 ⟨none, .store 2 (.tmp 2) (.tmp 13), none, [10,4,3,2,1,0,9,8,7,6,5]⟩] [3,4,5,6,7,8,9,10,11,12,13])
 .ret))
set_option maxRecDepth 100000 in
theorem kparts_Used_S1 : IsCode Tryd.prog 16 14 cparts_Used_S1 [.cellN 2 2] :=
 ⟨Tryd.f16, _, [0,2], Tryd.func16, rfl, by decide, rfl, by kernel_rfl, by kernel_rfl⟩
def cparts_Where : ACode :=
 (.seq
 (.region false [oo 2 (.box (.tmp 0)),
 oo 4 (.mv (.const (.slice none 0 0))),
 oo 5 (.mv (kI 0))] [])
 (.seq
 (.region false [oo 6 (.loadN 4 (.tmp 2)),
 oo 7 (.mv (.tmp 1)),
 oo 8 (.call (.func 14) [(.tmp 6), (.tmp 7), (.func 15)]),
 oo 9 (.ext (.tmp 8) 0),
 oo 10 (.ext (.tmp 8) 1),
 oo 4 (.mv (.tmp 9)),
 oo 5 (.mv (.tmp 10))] [6,7,8,9,10])
 .ret))
set_option maxRecDepth 100000 in
theorem kparts_Where : IsCode Tryd.prog 7 11 cparts_Where [.tmp 4, .tmp 5] :=
 ⟨Tryd.f7, _, [0,2,1,4,5], Tryd.func7, rfl, by decide, rfl, by kernel_rfl, by kernel_rfl⟩
def cparts_Where_S1 : ACode :=
 (.seq
 (.region false [oo 2 (.mem [(.val (.int .i64 0)), (.val (.int .i64 0))])] [])
 (.seq
 (.region false [oo 3 (.mv (.tmp 0)),
 oo 4 (.nilc (.tmp 3)),
 oo 5 (.fad 4 (.tmp 4)),
 oo 6 (.loadN 2 (.tmp 5)),
 on (.store 2 (.tmp 2) (.tmp 6))] [3,4,5,6])
 .ret))
set_option maxRecDepth 100000 in
theorem kparts_Where_S1 : IsCode Tryd.prog 15 7 cparts_Where_S1 [.cellN 2 2] :=
 ⟨Tryd.f15, _, [0,2], Tryd.func15, rfl, by decide, rfl, by kernel_rfl, by kernel_rfl⟩
end Go.Proofs.YtgibbaadjbohdaaDoor
/- parts: fly, in numbers; its inner loop. No conditions. -/
namespace Go.Proofs.YtgibbaadjbohdaaDoor
open Go Go.RowKit Lift

def snc (S : Hg) (h : Int) (p : Prt) : Nat → List Int
  | 0 => p.since
  | j + 1 => if (S.iss[j]?.getD false) = true then (snc S h p j).set j (w64 ((snc S h p j)[j]?.getD 0 + h)) else snc S h p j
theorem snc_len (S : Hg) (h : Int) (p : Prt) : ∀ j, (snc S h p j).length = p.since.length
  | 0 => rfl
  | j + 1 => by
    unfold snc
    split
    · rw [List.length_set]; exact snc_len S h p j
    · exact snc_len S h p j
def flP (S : Hg) (h c : Int) (p : Prt) : Prt := { p with h := w64 (p.h + h), c := w64 (p.c + c), since := snc S h p S.iss.length }
def flN (S : Hg) (m h c : Int) : Nat → Hg
  | 0 => S
  | i + 1 => if ((prtAt S i).m != m) = true then flN S m h c i else (flN S m h c i).setP i (flP S h c (prtAt S i))
structure Like (S T : Hg) : Prop where
  rg : T.rg = S.rg
  is : T.iss = S.iss
  fl : T.fl = S.fl
  wk : T.works = S.works
  pv : T.pv = S.pv
  n : T.pts.length = S.pts.length
theorem flN_like (S : Hg) (m h c : Int) : ∀ i, Like S (flN S m h c i)
  | 0 => ⟨rfl, rfl, rfl, rfl, rfl, rfl⟩
  | i + 1 => by
    have ih := flN_like S m h c i
    unfold flN
    split
    · exact ih
    · exact ⟨ih.rg, ih.is, ih.fl, ih.wk, ih.pv, by simp [Hg.setP, ih.n]⟩
theorem flN_at (S : Hg) (m h c : Int) : ∀ i j, i ≤ j → (flN S m h c i).pts[j]? = S.pts[j]?
  | 0, _, _ => rfl
  | i + 1, j, hj => by
    have ih := flN_at S m h c i j (by omega)
    unfold flN
    split
    · exact ih
    · show ((flN S m h c i).pts.set i _)[j]? = _
      rw [List.getElem?_set_ne (by omega)]; exact ih
theorem flN_ok {S : Hg} {top : Nat} (hS : HgrOk S) (hN : HgN S top) (m h c : Int) : ∀ i, i ≤ S.pts.length → HgrOk (flN S m h c i) ∧ HgN (flN S m h c i) top
  | 0, _ => ⟨hS, hN⟩
  | i + 1, hi => by
    obtain ⟨h1, h2⟩ := flN_ok hS hN m h c i (by omega)
    obtain ⟨p, hp⟩ := nthI (show i < S.pts.length by omega)
    have e : prtAt S i = p := by unfold prtAt; rw [hp]; rfl
    have hp' : (flN S m h c i).pts[i]? = some p := (flN_at S m h c i i (Nat.le_refl _)).trans hp
    unfold flN
    split
    · exact ⟨h1, h2⟩
    · rw [e]
      exact ⟨setP_ok h1 hp' rfl (snc_len _ _ _ _) rfl, setP_N h2 hp' rfl⟩
def PH (S : Hg) (i : Nat) (p : Prt) (a b : Int) (sn : List Int) : Hg := S.setP i { p with h := a, c := b, since := sn }
section
variable {S : Hg} {top i : Nat} {p : Prt} (hN : HgN S top) (hi : S.pts[i]? = some p) (tl : Hp) (a b : Int) (sn : List Int) (hl : sn.length = p.since.length)
include hN hi hl
theorem PH_N : HgN (PH S i p a b sn) top := have _ := hl; setP_N hN hi rfl
theorem PH_pN : hget (HF (PH S i p a b sn) tl) (pN i) = some [dI p.kd, dI a, dI b, dB p.kn, dI p.m, dI p.pl, .vec (sN i) p.since.length 1, .vec (cN i) p.chk.length 1] := by
  rw [get_pN (PH_N hN hi a b sn hl) tl (p := { p with h := a, c := b, since := sn }) (setP_at hi)]
  unfold ptC
  simp only [hl]
theorem PH_put (a' b' : Int) : hput (HF (PH S i p a b sn) tl) (pN i) [dI p.kd, dI a', dI b', dB p.kn, dI p.m, dI p.pl, .vec (sN i) p.since.length 1, .vec (cN i) p.chk.length 1] = HF (PH S i p a' b' sn) tl := by
  have := put_pN (PH_N hN hi a b sn hl) tl (p' := { p with h := a', c := b', since := sn }) (setP_at hi) rfl rfl rfl rfl
  unfold ptC at this
  simp only [hl] at this
  rw [this]
  unfold PH
  rw [setP_setP]
theorem PH_sN : hget (HF (PH S i p a b sn) tl) (sN i) = some (icells sn) := get_sN (PH_N hN hi a b sn hl) tl (p := { p with h := a, c := b, since := sn }) (setP_at hi)
theorem PH_sput (sn' : List Int) (hl' : sn'.length = p.since.length) : hput (HF (PH S i p a b sn) tl) (sN i) (icells sn') = HF (PH S i p a b sn') tl := by
  rw [put_sN (PH_N hN hi a b sn hl) tl (setP_at hi) (by rw [hl']; exact hl.symm)]
  unfold PH
  rw [setP_setP]
end
theorem PH_self {S : Hg} {i : Nat} {p : Prt} (h : S.pts[i]? = some p) : PH S i p p.h p.c p.since = S := setP_self h
theorem hg_cells (S : Hg) (tl : Hp) : hget (HF S tl) 1104 = some [.list (kds S.rg.ks), .list (p0s S.rg.ps), dI S.rg.ms, .list (ods S.rg.os), .vec S.pv S.pts.length 1, .vec 1032 S.iss.length 1, .vec 1056 S.fl.length 2, dI S.works, .vec 1088 S.pts.length 1] := rfl
end Go.Proofs.YtgibbaadjbohdaaDoor
/- parts: fly (views last). No conditions. -/
namespace Go.Proofs.YtgibbaadjbohdaaDoor
open Go Go.RowKit Lift

def flyB (S : Hg) (m h c : Int) : Bool := (machB S m && wI h 0 100) && (wI c 0 100 && !decide (h > lgI S m c))
def flyF (S : Hg) (m h c : Int) : List (Int × Int) :=
  let a := S.fl[m.toNat]?.getD (0, 0)
  (S.fl.set m.toNat (w64 (a.1 + h), a.2)).set m.toNat (w64 (a.1 + h), w64 (a.2 + c))
def Hg.setF (S : Hg) (l : List (Int × Int)) : Hg := { S with fl := l }
theorem setF_put (S : Hg) (tl : Hp) (l : List (Int × Int)) (h : l.length = S.fl.length) : hput (HF S tl) 1056 (scells l) = HF (S.setF l) tl := put_fl S tl l h
def flyS (S : Hg) (m h c : Int) : Hg := if flyB S m h c = true then (flN S m h c S.pts.length).setF (flyF S m h c) else S
theorem sc_get0 : ∀ (l : List (Int × Int)) (k : Nat), k < l.length → (scells l)[k * 2]? = some (.val (.int .i64 (l[k]?.getD (0, 0)).1))
  | [], k, h => by simp at h
  | x :: l, 0, _ => rfl
  | x :: l, k + 1, h => by
    have ih := sc_get0 l k (by simpa using h)
    rw [show (k + 1) * 2 = k * 2 + 1 + 1 by omega]
    show (scells l)[k * 2]? = _
    rw [ih]; simp
theorem sc_get1 : ∀ (l : List (Int × Int)) (k : Nat), k < l.length → (scells l)[k * 2 + 1]? = some (.val (.int .i64 (l[k]?.getD (0, 0)).2))
  | [], k, h => by simp at h
  | x :: l, 0, _ => rfl
  | x :: l, k + 1, h => by
    have ih := sc_get1 l k (by simpa using h)
    rw [show (k + 1) * 2 + 1 = k * 2 + 1 + 1 + 1 by omega]
    show (scells l)[k * 2 + 1]? = _
    rw [ih]; simp
theorem sc_put0 (v : Int) : ∀ (l : List (Int × Int)) (k : Nat), k < l.length → (scells l).take (k * 2) ++ .val (.int .i64 v) :: (scells l).drop (k * 2 + 1) = scells (l.set k (v, (l[k]?.getD (0, 0)).2))
  | [], k, h => by simp at h
  | x :: l, 0, _ => rfl
  | x :: l, k + 1, h => by
    have ih := sc_put0 v l k (by simpa using h)
    rw [show (k + 1) * 2 = k * 2 + 1 + 1 by omega]
    have e : (x :: l).set (k + 1) (v, ((x :: l)[k + 1]?.getD (0, 0)).2) = x :: l.set k (v, (l[k]?.getD (0, 0)).2) := by simp
    rw [e]
    show _ :: _ :: ((scells l).take (k * 2) ++ _ :: (scells l).drop (k * 2 + 1)) = _ :: _ :: scells (l.set k _)
    rw [ih]
theorem sc_put1 (v : Int) : ∀ (l : List (Int × Int)) (k : Nat), k < l.length → (scells l).take (k * 2 + 1) ++ .val (.int .i64 v) :: (scells l).drop (k * 2 + 1 + 1) = scells (l.set k ((l[k]?.getD (0, 0)).1, v))
  | [], k, h => by simp at h
  | x :: l, 0, _ => rfl
  | x :: l, k + 1, h => by
    have ih := sc_put1 v l k (by simpa using h)
    rw [show (k + 1) * 2 + 1 = k * 2 + 1 + 1 + 1 by omega]
    have e : (x :: l).set (k + 1) (((x :: l)[k + 1]?.getD (0, 0)).1, v) = x :: l.set k ((l[k]?.getD (0, 0)).1, v) := by simp
    rw [e]
    show _ :: _ :: ((scells l).take (k * 2 + 1) ++ _ :: (scells l).drop (k * 2 + 1 + 1)) = _ :: _ :: scells (l.set k _)
    rw [ih]
theorem sc_put0a (v : Int) (l : List (Int × Int)) (k : Nat) (h : k < l.length) : (scells l).take (k * 2) ++ [.val (.int .i64 v)] ++ (scells l).drop (k * 2 + 1) = scells (l.set k (v, (l[k]?.getD (0, 0)).2)) := by
  rw [List.append_assoc]; exact sc_put0 v l k h
theorem sc_put1a (v : Int) (l : List (Int × Int)) (k : Nat) (h : k < l.length) : (scells l).take (k * 2 + 1) ++ [.val (.int .i64 v)] ++ (scells l).drop (k * 2 + 1 + 1) = scells (l.set k ((l[k]?.getD (0, 0)).1, v)) := by
  rw [List.append_assoc]; exact sc_put1 v l k h
set_option maxRecDepth 100000 in
set_option maxHeartbeats 8000000 in
theorem fly_in {pin : List Nat} (S : Hg) (top N : Nat) (hS : HgrOk S) (hN : HgN S top) (hT : top ≤ N) (m h c : Int) (hm : machB S m = true → 0 ≤ m ∧ m.toNat < S.fl.length) :
    AWb false Tryd.prog 121 pin cpparts_hangar_fly (fun e s' => (e = .norm ∨ e = .ret) ∧ Wk pin s' ⟨[(8, dB (flyB S m h c))], HF (flyS S m h c) [], N + 600000⟩)
      ⟨envOf 0 [.ptr 1104 0, dI m, dI h, dI c], HF S [], N⟩ := by
  unfold cpparts_hangar_fly flyS
  have c1 := mach_ac S m
  have c2 := pwithin_ac h 0 100
  have c3 := pwithin_ac c 0 100
  have c4 := longest_ac S hS m c
  by_cases hb : flyB S m h c = true
  case neg =>
    rw [if_neg hb]
    have hb' : flyB S m h c = false := by simpa using hb
    rw [hb']
    unfold flyB at hb'
    generalize machB S m = b1 at *
    generalize wI h 0 100 = b2 at *
    generalize wI c 0 100 = b3 at *
    cases q4 : decide (h > lgI S m c) <;> rw [q4] at hb' <;> cases b1 <;> cases b2 <;> cases b3
    all_goals first | (exfalso; simp at hb'; done) | skip
    all_goals
      generalize lgI S m c = G at *
      (repeat' (first | (with_reducible first | refine thenQ_n ?_ | refine blockQ_n ?_ | refine thenQ_e ?_ | refine blockQ_t ?_ | refine blockQ_f (by decide) ?_) | apply aw_seq | apply aw_skip | apply aw_exit | apply aw_ret | apply aw_block | apply aw_condT rfl | apply aw_condF rfl | ((first | refine aw_hide fun K hK => aw_region ?_ | refine acallS hN c1 (.val _) rfl (by kernel_rfl) ?_ | refine acall0 (c2) ?_ | refine acall0 (c3) ?_ | refine acallS hN c4 (.val _) rfl (by kernel_rfl) ?_ | refine ago_if (by omega) ?_ | skip); simp (disch := first | exact okY | omega) only [ZU, Nat.reduceMul, dI, Nat.reduceAdd, AOpRun, aexec, Nat.reduceBEq, ↓eget_h, dB, ARun_some, AG_tf, ↓reduceIte, reduceCtorEq, or_true, true_and, AG_ff, isSh, abin, q4]) | subst hK))
    all_goals ((first | refine ⟨.inr rfl, ?_⟩ | refine ⟨.inl rfl, ?_⟩ | skip) <;> exact wk_env (by repeat' (first | exact trivial | exact rfl | refine And.intro ?_ ?_)) (by first | exact fun _ _ h => h | exact fun _ _ h => HF_tl h) (by simp only; omega))
  rw [if_pos hb]
  rw [hb]
  unfold flyB at hb
  simp only [Bool.and_eq_true, Bool.not_eq_true'] at hb
  obtain ⟨⟨b1, b2⟩, b3, q4⟩ := hb
  obtain ⟨m0, m1⟩ := hm b1
  rw [b1] at c1
  rw [b2] at c2
  rw [b3] at c3
  have gc := hg_cells S []
  generalize hG : lgI S m c = G at *
  (repeat' (first | (with_reducible first | refine thenQ_n ?_ | refine blockQ_n ?_ | refine thenQ_e ?_ | refine blockQ_t ?_ | refine blockQ_f (by decide) ?_) | apply aw_seq | apply aw_skip | apply aw_exit | apply aw_ret | apply aw_block | apply aw_condT rfl | apply aw_condF rfl | ((first | refine aw_hide fun K hK => aw_region ?_ | refine acallS hN c1 (.val _) rfl (by kernel_rfl) ?_ | refine acall0 (c2) ?_ | refine acall0 (c3) ?_ | refine acallS hN c4 (.val _) rfl (by kernel_rfl) ?_ | refine ago_if (by omega) ?_ | skip); simp (disch := first | exact okY | omega) only [ZU, Nat.reduceMul, dI, Nat.reduceAdd, AOpRun, aexec, Nat.reduceBEq, ↓eget_h, dB, ARun_some, AG_ff, ↓reduceIte, isSh, abin, q4, run1, gc]) | subst hK))
  clear c1 c2 c3 c4 gc
  refine aw_loop (fun i : Nat => ⟨[(0, .ptr 1104 0), (1, dI m), (2, dI h), (3, dI c), (37, .vec S.pv S.pts.length 1), (38, dI S.pts.length), (39, dI i)], HF (flN S m h c i) [], N + 1000 + 20000 * i⟩) (fun i => i ≤ S.pts.length) (fun i => S.pts.length - i) ⟨0, by omega, ?_⟩ ?_
  · ((first | refine ⟨.inr rfl, ?_⟩ | refine ⟨.inl rfl, ?_⟩ | skip) <;> exact wk_env (by repeat' (first | exact trivial | exact rfl | refine And.intro ?_ ?_)) (by first | exact fun _ _ h => h | exact fun _ _ h => HF_tl h) (by simp only; omega))
  intro i hi1
  obtain ⟨hSi, hNi⟩ := flN_ok hS hN m h c i hi1
  have hLi := flN_like S m h c i
  by_cases hi2 : i < S.pts.length
  case neg =>
    obtain rfl : i = S.pts.length := by omega
    have hnp := hS.np
    generalize flN S m h c S.pts.length = T at *
    have gc := hg_cells T
    have gf := get_fl T
    rw [hLi.fl] at gf
    simp only [hLi.fl, hLi.n, hLi.pv] at gc
    have eF : flyF S m h c = (S.fl.set m.toNat (IntKind.i64.wrap ((S.fl[m.toNat]?.getD (0, 0)).1 + h), (S.fl[m.toNat]?.getD (0, 0)).2)).set m.toNat (IntKind.i64.wrap ((S.fl[m.toNat]?.getD (0, 0)).1 + h), IntKind.i64.wrap ((S.fl[m.toNat]?.getD (0, 0)).2 + c)) := rfl
    rw [eF]
    generalize hk : m.toNat = k at *
    have s0 := sc_get0 S.fl k m1
    have p0 := fun v => sc_put0a v S.fl k m1
    obtain ⟨a, ha⟩ : ∃ a, S.fl[k]?.getD (0, 0) = a := ⟨_, rfl⟩
    rw [ha] at s0 p0 ⊢
    have ml : ∀ x : Int × Int, (S.fl.set k x).length = S.fl.length := fun x => List.length_set
    have s1 := fun x => sc_get1 (S.fl.set k x) k (by rw [ml]; exact m1)
    have p1 := fun x v => sc_put1a v (S.fl.set k x) k (by rw [ml]; exact m1)
    have e1 : ∀ x : Int × Int, ((S.fl.set k x)[k]?.getD (0, 0)) = x := fun x => by simp [m1]
    simp only [e1] at s1 p1
    have w0 := fun x => setF_put T [] (S.fl.set k x) (by rw [ml, hLi.fl])
    have w1 := fun x y => setF_put (T.setF (S.fl.set k x)) [] ((S.fl.set k x).set k y) (by rw [List.length_set]; rfl)
    have e2 : ∀ x y, (T.setF (S.fl.set k x)).setF ((S.fl.set k x).set k y) = T.setF ((S.fl.set k x).set k y) := fun _ _ => rfl
    simp only [e2] at w1
    have gc1 := fun l => hg_cells (T.setF l)
    have gf1 := fun l => get_fl (T.setF l)
    have ml1 : ∀ l, (T.setF l).fl = l := fun _ => rfl
    have ml2 : ∀ l, (T.setF l).pts.length = S.pts.length := fun _ => hLi.n
    simp only [ml1, ml2] at gc1 gf1
    have h1 : k * 2 + 1 ≤ (scells S.fl).length := by rw [scells_len]; omega
    have h2 : ∀ x, k * 2 + 1 + 1 ≤ (scells (S.fl.set k x)).length := fun x => by rw [scells_len, ml]; omega
    clear ha eF
    (repeat' (first | (with_reducible first | refine thenQ_n ?_ | refine blockQ_n ?_ | refine thenQ_e ?_ | refine blockQ_t ?_ | refine blockQ_f (by decide) ?_) | apply aw_seq | apply aw_skip | apply aw_exit | apply aw_ret | apply aw_block | apply aw_condT rfl | apply aw_condF rfl | ((first | refine aw_hide fun K hK => aw_region ?_ | refine ago_if (by omega) ?_ | skip); simp (disch := first | exact okY | omega) only [ZU, Nat.reduceMul, dI, AOpRun, aexec, Nat.reduceBEq, ↓eget_h, isSh, ↓reduceIte, abin, Int.lt_irrefl, decide_false, Nat.reduceAdd, run1, gc, Nat.add_zero, m0, and_true, true_and, hk, Int.le_refl, cast_lit, Int.reduceLT, Int.toNat_zero, gf, s0, D.isBot, D.cells, h1, List.all, D.leaf, splice, p0, w0, gc1, ml, Int.reduceLE, Int.reduceToNat, gf1, s1, h2, p1, w1, reduceCtorEq, or_true]) | subst hK))
    all_goals ((first | refine ⟨.inr rfl, ?_⟩ | refine ⟨.inl rfl, ?_⟩ | skip) <;> exact wk_env (by repeat' (first | exact trivial | exact rfl | refine And.intro ?_ ?_)) (by first | exact fun _ _ h => h | exact fun _ _ h => HF_tl h) (by simp only; omega))
  obtain ⟨p, hp⟩ := nthI hi2
  have hTi := (flN_at S m h c i i (Nat.le_refl _)).trans hp
  have hne : flN S m h c (i + 1) = if (p.m != m) = true then flN S m h c i else (flN S m h c i).setP i (flP S h c p) := by
    show (if ((prtAt S i).m != m) = true then _ else _) = _
    rw [show prtAt S i = p by unfold prtAt; rw [hp]; rfl]
  have hpo := hS.at hp
  have hil := hS.is
  have fin : i + 1 ≤ S.pts.length := hi2
  have fin2 : S.pts.length - (i + 1) < S.pts.length - i := by omega
  generalize flN S m h c i = T at *
  have sl := fun j => snc_len S h p j
  have gp := fun a b j => PH_pN hNi hTi [] a b (snc S h p j) (sl j)
  have pp := fun a b j => PH_put hNi hTi [] a b (snc S h p j) (sl j)
  have gs := fun a b j => PH_sN hNi hTi [] a b (snc S h p j) (sl j)
  have gc : ∀ a b j, hget (HF (PH T i p a b (snc S h p j)) []) 1104 = _ := fun a b j => hg_cells (PH T i p a b (snc S h p j)) []
  have gi : ∀ a b j, hget (HF (PH T i p a b (snc S h p j)) []) 1032 = some (bcl S.iss) := fun a b j => by rw [get_is]; show some (bcl T.iss) = _; rw [hLi.is]
  have e1 : ∀ a b j, (PH T i p a b (snc S h p j)).pts.length = S.pts.length := fun a b j => by simp [PH, Hg.setP, hLi.n]
  have e2 : ∀ a b j, (PH T i p a b (snc S h p j)).pv = S.pv := fun a b j => hLi.pv
  have e3 : ∀ a b j, (PH T i p a b (snc S h p j)).iss = S.iss := fun a b j => hLi.is
  have gv : ∀ a b j, hget (HF (PH T i p a b (snc S h p j)) []) S.pv = some (pvC S.pts.length) := fun a b j => by
    have := get_pv (PH_N hNi hTi a b (snc S h p j) (sl j)) []
    rw [e1, e2] at this; exact this
  simp only [e1, e2, e3] at gc
  have gn := pvC_nth hi2
  have il : ((i : Nat) : Int) < (S.pts.length : Int) := by omega
  have hnp := hS.np
  unfold dI dB at pp gp
  unfold dI at gc
  have eT : PH T i p p.h p.c (snc S h p 0) = T := PH_self hTi
  rw [show HF T [] = HF (PH T i p p.h p.c (snc S h p 0)) [] by rw [eT]]
  cases q1 : (p.m != m)
  case true =>
    rw [q1, if_pos rfl] at hne
    (repeat' (first | (with_reducible first | refine thenQ_n ?_ | refine blockQ_n ?_ | refine thenQ_e ?_ | refine blockQ_t ?_ | refine blockQ_f (by decide) ?_) | apply aw_seq | apply aw_skip | apply aw_exit | apply aw_ret | apply aw_block | apply aw_condT rfl | apply aw_condF rfl | ((first | refine aw_hide fun K hK => aw_region ?_ | refine ago_if (by omega) ?_ | skip); simp (disch := first | exact okY | omega) only [ZU, Nat.mul_one, dI, AOpRun, aexec, Nat.reduceBEq, ↓eget_h, isSh, ↓reduceIte, abin, il, Nat.reduceAdd, Nat.reduceMul, run1, gv, Nat.add_zero, gn, Int.le_refl, cast_lit, Int.reduceLT, Int.toNat_zero, gp, q1, fits]) | subst hK))
    refine ⟨i + 1, fin, fin2, ?_⟩
    rw [hne, eT]
    ((first | refine ⟨.inr rfl, ?_⟩ | refine ⟨.inl rfl, ?_⟩ | skip) <;> exact wk_env (by repeat' (first | exact trivial | exact rfl | refine And.intro ?_ ?_)) (by first | exact fun _ _ h => h | exact fun _ _ h => HF_tl h) (by simp only; omega))
  rw [q1, if_neg (by simp)] at hne
  (repeat' (first | (with_reducible first | refine thenQ_n ?_ | refine blockQ_n ?_ | refine thenQ_e ?_ | refine blockQ_t ?_ | refine blockQ_f (by decide) ?_) | apply aw_seq | apply aw_skip | apply aw_exit | apply aw_ret | apply aw_block | apply aw_condT rfl | apply aw_condF rfl | ((first | refine aw_hide fun K hK => aw_region ?_ | refine ago_if (by omega) ?_ | skip); simp (disch := first | exact okY | omega) only [ZU, Nat.mul_one, dI, AOpRun, aexec, Nat.reduceBEq, ↓eget_h, isSh, ↓reduceIte, abin, il, Nat.reduceAdd, Nat.reduceMul, run1, gv, Nat.add_zero, gn, Int.le_refl, cast_lit, Int.reduceLT, Int.toNat_zero, gp, q1, D.isBot, D.cells, Nat.reduceLeDiff, List.all, D.leaf, splice, List.take, List.drop, pp, gc]) | subst hK))
  refine aw_loop (fun j : Nat => ⟨[(0, .ptr 1104 0), (1, dI m), (2, dI h), (3, dI c), (37, .vec S.pv S.pts.length 1), (38, dI S.pts.length), (39, dI i), (10, .ptr (pN i) 0), (74, dI S.iss.length), (75, dI j)], HF (PH T i p (IntKind.i64.wrap (p.h + h)) (IntKind.i64.wrap (p.c + c)) (snc S h p j)) [], N + 1000 + 20000 * i + 2000 + 2000 * j⟩) (fun j => j ≤ S.iss.length) (fun j => S.iss.length - j) ⟨0, by omega, ?_⟩ ?_
  · ((first | refine ⟨.inr rfl, ?_⟩ | refine ⟨.inl rfl, ?_⟩ | skip) <;> exact wk_env (by repeat' (first | exact trivial | exact rfl | refine And.intro ?_ ?_)) (by first | exact fun _ _ h => h | exact fun _ _ h => HF_tl h) (by simp only; omega))
  intro j hj
  have hos := hS.os
  have hsl := hpo.sl
  by_cases hj2 : j < S.iss.length
  case neg =>
    obtain rfl : j = S.iss.length := by omega
    have his := hS.os
    have e : (flP S h c p) = { p with h := IntKind.i64.wrap (p.h + h), c := IntKind.i64.wrap (p.c + c), since := snc S h p S.iss.length } := rfl
    (repeat' (first | (with_reducible first | refine thenQ_n ?_ | refine blockQ_n ?_ | refine thenQ_e ?_ | refine blockQ_t ?_ | refine blockQ_f (by decide) ?_) | apply aw_seq | apply aw_skip | apply aw_exit | apply aw_ret | apply aw_block | apply aw_condT rfl | apply aw_condF rfl | ((first | refine aw_hide fun K hK => aw_region ?_ | refine ago_if (by omega) ?_ | skip); simp (disch := first | exact okY | omega) only [ZU, Nat.reduceMul, dI, AOpRun, aexec, Nat.reduceBEq, ↓eget_h, isSh, ↓reduceIte, abin, Int.lt_irrefl, decide_false, Nat.reduceAdd, fits]) | subst hK))
    refine ⟨i + 1, fin, fin2, ?_⟩
    rw [hne, e]
    ((first | refine ⟨.inr rfl, ?_⟩ | refine ⟨.inl rfl, ?_⟩ | skip) <;> exact wk_env (by repeat' (first | exact trivial | exact rfl | refine And.intro ?_ ?_)) (by first | exact fun _ _ h => h | exact fun _ _ h => HF_tl h) (by simp only; omega))
  have g3 := bc_gd S.iss j hj2
  have g4 := ic_gd (snc S h p j) j (by rw [sl]; omega)
  have jl : ((j : Nat) : Int) < (S.iss.length : Int) := by omega
  have jl2 : ((j : Nat) : Int) < (p.since.length : Int) := by omega
  have es : snc S h p (j + 1) = if (S.iss[j]?.getD false) = true then (snc S h p j).set j (w64 ((snc S h p j)[j]?.getD 0 + h)) else snc S h p j := rfl
  have fj : j + 1 ≤ S.iss.length := hj2
  have fj2 : S.iss.length - (j + 1) < S.iss.length - j := by omega
  have t4 := fun v => ic_t (snc S h p j) j v (by rw [sl]; omega)
  have h4 : j + 1 ≤ (icells (snc S h p j)).length := by rw [icells_len, sl]; omega
  have ps := fun a b => PH_sput hNi hTi [] a b (snc S h p j) (sl j) (snc S h p (j + 1)) (sl (j + 1))
  generalize S.iss[j]?.getD false = bb at *
  cases bb
  case false =>
    rw [if_neg (by simp)] at es
    (repeat' (first | (with_reducible first | refine thenQ_n ?_ | refine blockQ_n ?_ | refine thenQ_e ?_ | refine blockQ_t ?_ | refine blockQ_f (by decide) ?_) | apply aw_seq | apply aw_skip | apply aw_exit | apply aw_ret | apply aw_block | apply aw_condT rfl | apply aw_condF rfl | ((first | refine aw_hide fun K hK => aw_region ?_ | refine ago_if (by omega) ?_ | skip); simp (disch := first | exact okY | omega) only [ZU, Nat.mul_one, dI, AOpRun, aexec, Nat.reduceBEq, ↓eget_h, isSh, ↓reduceIte, abin, jl, Nat.reduceAdd, Nat.reduceMul, run1, gc, Nat.add_zero, gi, g3, fits]) | subst hK))
    refine ⟨j + 1, fj, fj2, ?_⟩
    rw [es]
    ((first | refine ⟨.inr rfl, ?_⟩ | refine ⟨.inl rfl, ?_⟩ | skip) <;> exact wk_env (by repeat' (first | exact trivial | exact rfl | refine And.intro ?_ ?_)) (by first | exact fun _ _ h => h | exact fun _ _ h => HF_tl h) (by simp only; omega))
  rw [if_pos rfl] at es
  unfold w64 at es
  (repeat' (first | (with_reducible first | refine thenQ_n ?_ | refine blockQ_n ?_ | refine thenQ_e ?_ | refine blockQ_t ?_ | refine blockQ_f (by decide) ?_) | apply aw_seq | apply aw_skip | apply aw_exit | apply aw_ret | apply aw_block | apply aw_condT rfl | apply aw_condF rfl | ((first | refine aw_hide fun K hK => aw_region ?_ | refine ago_if (by omega) ?_ | skip); simp (disch := first | exact okY | omega) only [ZU, Nat.mul_one, dI, AOpRun, aexec, Nat.reduceBEq, ↓eget_h, isSh, ↓reduceIte, abin, jl, Nat.reduceAdd, Nat.reduceMul, run1, gc, Nat.add_zero, gi, g3, gp, jl2, gs, g4, D.isBot, D.cells, h4, List.all, D.leaf, splice, t4, ← es, ps, fits]) | subst hK))
  refine ⟨j + 1, fj, fj2, ?_⟩
  ((first | refine ⟨.inr rfl, ?_⟩ | refine ⟨.inl rfl, ?_⟩ | skip) <;> exact wk_env (by repeat' (first | exact trivial | exact rfl | refine And.intro ?_ ?_)) (by first | exact fun _ _ h => h | exact fun _ _ h => HF_tl h) (by simp only; omega))
end Go.Proofs.YtgibbaadjbohdaaDoor
/- parts: check (views last). No conditions. -/
namespace Go.Proofs.YtgibbaadjbohdaaDoor
open Go Go.RowKit Lift

theorem w64_in {x : Int} (h1 : -1000000 ≤ x) (h2 : x ≤ 1000000) : w64 x = x := wrap_in (by omega) (by omega)
theorem partB_t {S : Hg} (h : S.pts.length ≤ 24) {n : Int} (hb : partB S n = true) : 0 ≤ n ∧ n.toNat < S.pts.length := by
  unfold partB at hb
  have := wI_t hb
  rw [w64_in (by omega) (by omega)] at this
  omega
theorem ordB_t {S : Hg} (h : S.rg.os.length ≤ 6) {n : Int} (hb : ordB S n = true) : 0 ≤ n ∧ n.toNat < S.rg.os.length := by
  unfold ordB at hb
  have := wI_t hb
  rw [w64_in (by omega) (by omega)] at this
  omega
def chB (S : Hg) (n o : Int) : Bool := (partB S n && ordB S o) && ((S.iss[o.toNat]?.getD false) && (!((prtAt S n.toNat).kd != (ordOf S o.toNat).1) && !((prtAt S n.toNat).chk[o.toNat]?.getD false)))
def chS (S : Hg) (n o : Int) : Hg := if chB S n o = true then S.setP n.toNat { prtAt S n.toNat with chk := (prtAt S n.toNat).chk.set o.toNat true } else S
theorem part_cells {S : Hg} {top i : Nat} {p : Prt} (hN : HgN S top) (hi : S.pts[i]? = some p) (tl : Hp) : hget (HF S tl) (pN i) = some [dI p.kd, dI p.h, dI p.c, dB p.kn, dI p.m, dI p.pl, .vec (sN i) p.since.length 1, .vec (cN i) p.chk.length 1] := get_pN hN tl hi
set_option maxRecDepth 100000 in
set_option maxHeartbeats 8000000 in
theorem check_in {pin : List Nat} (S : Hg) (top N : Nat) (hS : HgrOk S) (hN : HgN S top) (hT : top ≤ N) (n o : Int) :
    AWb false Tryd.prog 65 pin cpparts_hangar_check (fun e s' => (e = .norm ∨ e = .ret) ∧ Wk pin s' ⟨[(6, dB (chB S n o))], HF (chS S n o) [], N + 600000⟩)
      ⟨envOf 0 [.ptr 1104 0, dI n, dI o], HF S [], N⟩ := by
  unfold cpparts_hangar_check chS
  have c1 := part_ac S n
  have c2 := ord_ac S o
  have gc := hg_cells S []
  have gi := get_is S []
  unfold dI at gc
  cases b1 : partB S n
  case false =>
    rw [b1] at c1
    have hb : chB S n o = false := by unfold chB; rw [b1]; rfl
    rw [hb, if_neg (by simp)]
    (repeat' (first | (with_reducible first | refine thenQ_n ?_ | refine blockQ_n ?_ | refine thenQ_e ?_ | refine blockQ_t ?_ | refine blockQ_f (by decide) ?_) | apply aw_seq | apply aw_skip | apply aw_exit | apply aw_ret | apply aw_block | apply aw_condT rfl | apply aw_condF rfl | ((first | refine aw_hide fun K hK => aw_region ?_ | refine acallS hN c1 (.val _) rfl (by kernel_rfl) ?_ | refine ago_if (by omega) ?_ | skip); simp (disch := first | exact okY | omega) only [ZU, Nat.reduceMul, dI, Nat.reduceAdd, AOpRun, aexec, Nat.reduceBEq, ↓eget_h, dB, ARun_some, AG_tf, ↓reduceIte, reduceCtorEq, or_true, true_and]) | subst hK))
    all_goals ((first | refine ⟨.inr rfl, ?_⟩ | refine ⟨.inl rfl, ?_⟩ | skip) <;> exact wk_env (by repeat' (first | exact trivial | exact rfl | refine And.intro ?_ ?_)) (by first | exact fun _ _ h => h | exact fun _ _ h => HF_tl h) (by simp only; omega))
  cases b2 : ordB S o
  case false =>
    rw [b1] at c1
    rw [b2] at c2
    have hb : chB S n o = false := by unfold chB; rw [b1, b2]; rfl
    rw [hb, if_neg (by simp)]
    (repeat' (first | (with_reducible first | refine thenQ_n ?_ | refine blockQ_n ?_ | refine thenQ_e ?_ | refine blockQ_t ?_ | refine blockQ_f (by decide) ?_) | apply aw_seq | apply aw_skip | apply aw_exit | apply aw_ret | apply aw_block | apply aw_condT rfl | apply aw_condF rfl | ((first | refine aw_hide fun K hK => aw_region ?_ | refine acallS hN c1 (.val _) rfl (by kernel_rfl) ?_ | refine acallS hN c2 (.val _) rfl (by kernel_rfl) ?_ | refine ago_if (by omega) ?_ | skip); simp (disch := first | exact okY | omega) only [ZU, Nat.reduceMul, dI, Nat.reduceAdd, AOpRun, aexec, Nat.reduceBEq, ↓eget_h, dB, ARun_some, AG_ff, ↓reduceIte, AG_tf, reduceCtorEq, or_true, true_and]) | subst hK))
    all_goals ((first | refine ⟨.inr rfl, ?_⟩ | refine ⟨.inl rfl, ?_⟩ | skip) <;> exact wk_env (by repeat' (first | exact trivial | exact rfl | refine And.intro ?_ ?_)) (by first | exact fun _ _ h => h | exact fun _ _ h => HF_tl h) (by simp only; omega))
  obtain ⟨n0, n1⟩ := partB_t hS.np b1
  obtain ⟨o0, o1⟩ := ordB_t hS.os b2
  rw [b1] at c1
  rw [b2] at c2
  have g1 := bc_gd S.iss o.toNat (by rw [hS.is]; exact o1)
  have hil := hS.is
  have hol : o < (S.iss.length : Int) := by omega
  have eb : chB S n o = ((S.iss[o.toNat]?.getD false) && (!((prtAt S n.toNat).kd != (ordOf S o.toNat).1) && !((prtAt S n.toNat).chk[o.toNat]?.getD false))) := by unfold chB; rw [b1, b2]; rfl
  generalize S.iss[o.toNat]?.getD false = a1 at *
  cases a1
  case false =>
    rw [eb, Bool.false_and, if_neg (by simp)]
    (repeat' (first | (with_reducible first | refine thenQ_n ?_ | refine blockQ_n ?_ | refine thenQ_e ?_ | refine blockQ_t ?_ | refine blockQ_f (by decide) ?_) | apply aw_seq | apply aw_skip | apply aw_exit | apply aw_ret | apply aw_block | apply aw_condT rfl | apply aw_condF rfl | ((first | refine aw_hide fun K hK => aw_region ?_ | refine acallS hN c1 (.val _) rfl (by kernel_rfl) ?_ | refine acallS hN c2 (.val _) rfl (by kernel_rfl) ?_ | refine ago_if (by omega) ?_ | skip); simp (disch := first | exact okY | omega) only [ZU, Nat.mul_one, dI, Nat.reduceAdd, AOpRun, aexec, Nat.reduceBEq, Nat.reduceMul, ↓eget_h, dB, ARun_some, AG_ff, ↓reduceIte, run1, gc, Nat.add_zero, o0, hol, gi, g1, reduceCtorEq, or_true, true_and]) | subst hK))
    all_goals ((first | refine ⟨.inr rfl, ?_⟩ | refine ⟨.inl rfl, ?_⟩ | skip) <;> exact wk_env (by repeat' (first | exact trivial | exact rfl | refine And.intro ?_ ?_)) (by first | exact fun _ _ h => h | exact fun _ _ h => HF_tl h) (by simp only; omega))
  obtain ⟨p, hp⟩ := nthI n1
  obtain ⟨x, hx⟩ := nthI o1
  have ep : prtAt S n.toNat = p := by unfold prtAt; rw [hp]; rfl
  have eo : ordOf S o.toNat = x := by unfold ordOf; rw [hx]; rfl
  have hpo := hS.at hp
  have hcl := hpo.cl
  rw [ep, eo, Bool.true_and] at eb
  rw [eb, ep]
  have nl : n < (S.pts.length : Int) := by omega
  have gv := get_pv hN []
  have gn := pvC_nth n1
  have gp := part_cells hN hp []
  unfold dI dB at gp
  have gk := get_cN hN [] hp
  have g2 := ods_nth S.rg.os _ x hx
  have ga := ods_all S.rg.os
  unfold odC dI at g2
  have g3 := bc_gd p.chk o.toNat (by rw [hcl]; exact o1)
  have ol2 : o < (p.chk.length : Int) := by omega
  have t3 := fun v => bc_t p.chk o.toNat v (by rw [hcl]; exact o1)
  have h3 : o.toNat + 1 ≤ (bcl p.chk).length := by rw [bcl_len, hcl]; omega
  have pk := put_cN hN [] (l := p.chk.set o.toNat true) hp (by simp)
  generalize p.chk[o.toNat]?.getD false = a3 at *
  cases q1 : (p.kd != x.1) <;> cases a3
  case false.false =>
    rw [show (!false && !false) = true from rfl, if_pos rfl]
    (repeat' (first | (with_reducible first | refine thenQ_n ?_ | refine blockQ_n ?_ | refine thenQ_e ?_ | refine blockQ_t ?_ | refine blockQ_f (by decide) ?_) | apply aw_seq | apply aw_skip | apply aw_exit | apply aw_ret | apply aw_block | apply aw_condT rfl | apply aw_condF rfl | ((first | refine aw_hide fun K hK => aw_region ?_ | refine acallS hN c1 (.val _) rfl (by kernel_rfl) ?_ | refine acallS hN c2 (.val _) rfl (by kernel_rfl) ?_ | refine ago_if (by omega) ?_ | skip); simp (disch := first | exact okY | omega) only [ZU, Nat.mul_one, dI, Nat.reduceAdd, AOpRun, aexec, Nat.reduceBEq, Nat.reduceMul, ↓eget_h, dB, ARun_some, AG_ff, ↓reduceIte, run1, gc, Nat.add_zero, o0, hol, gi, g1, n0, nl, gv, gn, gp, ga, opt1, g2, List.drop, isSh, abin, q1, ol2, gk, g3, D.isBot, D.cells, h3, List.all, D.leaf, splice, t3, pk, reduceCtorEq, or_true, true_and]) | subst hK))
    all_goals ((first | refine ⟨.inr rfl, ?_⟩ | refine ⟨.inl rfl, ?_⟩ | skip) <;> exact wk_env (by repeat' (first | exact trivial | exact rfl | refine And.intro ?_ ?_)) (by first | exact fun _ _ h => h | exact fun _ _ h => HF_tl h) (by simp only; omega))
  all_goals
    simp only [Bool.not_true, Bool.not_false, Bool.and_false, Bool.false_and, Bool.false_eq_true, if_false]
    (repeat' (first | (with_reducible first | refine thenQ_n ?_ | refine blockQ_n ?_ | refine thenQ_e ?_ | refine blockQ_t ?_ | refine blockQ_f (by decide) ?_) | apply aw_seq | apply aw_skip | apply aw_exit | apply aw_ret | apply aw_block | apply aw_condT rfl | apply aw_condF rfl | ((first | refine aw_hide fun K hK => aw_region ?_ | refine acallS hN c1 (.val _) rfl (by kernel_rfl) ?_ | refine acallS hN c2 (.val _) rfl (by kernel_rfl) ?_ | refine ago_if (by omega) ?_ | skip); simp (disch := first | exact okY | omega) only [ZU, Nat.mul_one, dI, Nat.reduceAdd, AOpRun, aexec, Nat.reduceBEq, Nat.reduceMul, ↓eget_h, dB, ARun_some, AG_ff, ↓reduceIte, run1, gc, Nat.add_zero, o0, hol, gi, g1, n0, nl, gv, gn, gp, ga, opt1, g2, List.drop, isSh, abin, q1, ol2, gk, g3, reduceCtorEq, or_true, true_and, AG_tf]) | subst hK))
    all_goals ((first | refine ⟨.inr rfl, ?_⟩ | refine ⟨.inl rfl, ?_⟩ | skip) <;> exact wk_env (by repeat' (first | exact trivial | exact rfl | refine And.intro ?_ ?_)) (by first | exact fun _ _ h => h | exact fun _ _ h => HF_tl h) (by simp only; omega))
end Go.Proofs.YtgibbaadjbohdaaDoor
