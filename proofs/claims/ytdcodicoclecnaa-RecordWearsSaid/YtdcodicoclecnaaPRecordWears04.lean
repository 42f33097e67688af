/- Texts of the law RecordWears, part 4. No conditions. -/
import Derived.Test.YtdcodicoclecnaaPRecordWears03
import Derived.Test.YtdcodicoclecnaaRows
set_option linter.unusedSimpArgs false
set_option linter.unusedVariables false
/- Conditions and events over frames, in numbers. No conditions. -/
namespace Go.Proofs.Ytdcodicoclecnaa
open Go.RowKit Lift

structure Cd where
  field : Int
  lim : Int
  above : Bool
def cndV (c : Cd) (f : Fl) (v : Int) : Bool := if c.above = true then decide (v ≥ c.lim * f.den) else decide (v ≤ c.lim * f.den)

section
variable (l : Lay) (frs : List (List Int)) (c : Cd) (f : Fl)
def hAt : Nat → Nat → Bool
  | 0, _ => false
  | k + 1, j => match smp l f (frm frs k) with
    | some v => if k ≤ j ∧ (j : Int) < k + f.every then cndV c f v else hAt k j
    | none => hAt k j
variable {l frs c f}
variable (l frs c f)
variable {l frs c f}
variable (l frs c f)
def hL (n k : Nat) : List Bool := (List.range n).map fun j => hAt l frs c f k j
end
def bools (l : List Bool) : List (List D) := l.map fun b => [dB b]
def bcl (l : List Bool) : List D := l.map dB
theorem bools_len (l : List Bool) : (bools l).length = l.length := by simp [bools]
theorem bools_all (l : List Bool) : (bools l).all (fun x => x.length == 1) = true := by simp [bools]
theorem bools_one (l : List Bool) : ∀ e ∈ bools l, e.length = 1 := by
  intro e he; obtain ⟨b, _, rfl⟩ := List.mem_map.1 he; rfl
theorem bools_gd (l : List Bool) (k : Nat) (h : k < l.length) : (bools l)[k]? = some [dB (l[k]?.getD false)] := by simp [bools, h]
theorem bools_flat (l : List Bool) : (bools l).flatten = bcl l := by
  induction l with
  | nil => rfl
  | cons x l ih => simp [bools, bcl] at ih ⊢; exact ih
theorem bcl_len (l : List Bool) : (bcl l).length = l.length := by simp [bcl]
theorem bcl_leaf (l : List Bool) : (bcl l).all D.leaf = true := by simp [bcl, D.leaf, dB]
theorem bcl_in (l : List Bool) : ∀ d ∈ bcl l, In (fun _ => False) d := by
  intro d hd; obtain ⟨x, _, rfl⟩ := List.mem_map.1 hd; exact .val _
/-! ### events -/
section
variable (is : Nat → Bool) (H : Int)
/-! ### what is found -/
end
end Go.Proofs.Ytdcodicoclecnaa
/- Lists of numbers and truth values in memory. No conditions. -/
namespace Go.Proofs.Ytdcodicoclecnaa
open Go.RowKit Lift

theorem ic_gd (l : List Int) (k : Nat) (h : k < l.length) : (icells l)[k]? = some (.val (.int .i64 (l[k]?.getD 0))) := by simp [icells, h]
theorem ic_t (l : List Int) (k : Nat) (v : Int) (h : k < l.length) : (icells l).take k ++ [.val (.int .i64 v)] ++ (icells l).drop (k + 1) = icells (l.set k v) := by
  unfold icells
  rw [List.map_set, ← List.map_take, ← List.map_drop, List.set_eq_take_append_cons_drop, if_pos (by simpa using h)]
  simp
theorem bc_t (l : List Bool) (k : Nat) (v : Bool) (h : k < l.length) : (bcl l).take k ++ [.val (.bool v)] ++ (bcl l).drop (k + 1) = bcl (l.set k v) := by
  unfold bcl
  rw [List.map_set, ← List.map_take, ← List.map_drop, List.set_eq_take_append_cons_drop, if_pos (by simpa using h)]
  simp [dB]
theorem bc_gd (l : List Bool) (k : Nat) (h : k < l.length) : (bcl l)[k]? = some (.val (.bool (l[k]?.getD false))) := by simp [bcl, dB, h]
theorem rep_ic (n : Nat) : (List.replicate n [D.val (.int .i64 0)]).flatten = icells (List.replicate n 0) := by
  induction n with
  | zero => rfl
  | succ n ih => simp only [List.replicate_succ, List.flatten_cons, ih]; rfl
theorem rep_bc (n : Nat) : (List.replicate n [D.val (.bool false)]).flatten = bcl (List.replicate n false) := by
  induction n with
  | zero => rfl
  | succ n ih => simp only [List.replicate_succ, List.flatten_cons, ih]; rfl
theorem ic_take (l : List Int) (n : Nat) (h : l.length = n) : (icells l).take n = icells l := List.take_of_length_le (by rw [icells_len]; omega)
theorem bc_take (l : List Bool) (n : Nat) (h : l.length = n) : (bcl l).take n = bcl l := List.take_of_length_le (by rw [bcl_len]; omega)
theorem ic_app (l : List Int) (v : Int) : icells l ++ [.val (.int .i64 v)] = icells (l ++ [v]) := by simp [icells]
theorem bc_app (l : List Bool) (v : Bool) : bcl l ++ [.val (.bool v)] = bcl (l ++ [v]) := by simp [bcl, dB]
theorem ic_noY (n : Nat) (l : List Int) : (icells l).all (noY n) = true := by
  cases n <;> simp [icells, noY]
theorem layC_in (l : Lay) : ∀ d ∈ layC l, In (fun _ => False) d := by
  intro d hd; simp [layC] at hd; rcases hd with rfl | rfl | rfl | rfl | rfl | rfl <;> first | exact .val _ | exact .list _
theorem in_layD (S : Nat → Prop) (l : Lay) : In S (layD l) := .agg _ (by intro d hd; simp [layC] at hd; rcases hd with rfl | rfl | rfl | rfl | rfl | rfl <;> first | exact .val _ | exact .list _)
theorem own_ints {H : Heap} {V : List Nat} {g off n : Nat} {c : List D} (L : List Int) (hg : g ∈ V) (hH : H g = some c) (hl : L.length = n) (hoff : off + n ≤ c.length) (hc : (c.drop off).take n = icells L) (hin : ∀ d ∈ c, In (fun _ => False) d) : Vw H V (.own g off n 1) (.list (ints L)) :=
  .own g off n 1 c (ints L) hg hH (by omega) (ints_one L) (by rw [ints_len, hl]) (by rw [Nat.mul_one, hc, ints_flat]) hin
theorem vec_ints {H : Heap} {V : List Nat} {g n : Nat} (L : List Int) (hg : g ∈ V) (hH : H g = some (icells L)) (hl : L.length = n) : Vw H V (.vec g n 1) (.list (ints L)) :=
  .vec g n 1 (icells L) (ints L) hg hH (by rw [icells_len]; omega) (ints_one L) (by rw [ints_len, hl]) (by rw [Nat.mul_one, ic_take L n hl, ints_flat]) (icells_in L)
theorem vec_bools {H : Heap} {V : List Nat} {g n : Nat} (L : List Bool) (hg : g ∈ V) (hH : H g = some (bcl L)) (hl : L.length = n) : Vw H V (.vec g n 1) (.list (bools L)) :=
  .vec g n 1 (bcl L) (bools L) hg hH (by rw [bcl_len]; omega) (bools_one L) (by rw [bools_len, hl]) (by rw [Nat.mul_one, bc_take L n hl, bools_flat]) (bcl_in L)
end Go.Proofs.Ytdcodicoclecnaa
/- Calls that change objects, checked by computing. No conditions. -/
namespace Go.Proofs.Ytdcodicoclecnaa.Lift
open Go Go.RowKit

theorem aw_condT {rd : Rd} {P : Program} {n : Nat} {pre : List Nat} {Q : AExit → St → Prop} {s : St} {c : Operand} {x y : ACode} (hb : s.F.ev c = .val (.bool true)) (h : AWb rd P n pre x Q s) : AWb rd P n pre (.cond c x y) Q s := aw_cond hb (fun _ => h) (fun h => nomatch h)
theorem aw_condF {rd : Rd} {P : Program} {n : Nat} {pre : List Nat} {Q : AExit → St → Prop} {s : St} {c : Operand} {x y : ACode} (hb : s.F.ev c = .val (.bool false)) (h : AWb rd P n pre y Q s) : AWb rd P n pre (.cond c x y) Q s := aw_cond hb (fun h => nomatch h) (fun _ => h)
def HasAll (hp : Hp) : Hp → Prop
  | [] => True
  | x :: l => hget hp x.1 = some x.2 ∧ HasAll hp l
theorem HasAll.get {hp : Hp} : ∀ {h : Hp}, HasAll hp h → ∀ x ∈ h, hget hp x.1 = some x.2
  | [], _, x, hx => by simp at hx
  | y :: l, h, x, hx => by
    rcases List.mem_cons.1 hx with rfl | hx
    · exact h.1
    · exact HasAll.get h.2 x hx
def newOk (hp h : Hp) (up : Ups) : Bool := up.all fun x => (h.map (·.1)).contains x.1 || (hget hp x.1).isNone
theorem newOk_get {hp h : Hp} {up : Ups} (hk : newOk hp h up = true) : ∀ g ∈ up.map (·.1), g ∉ h.map (·.1) → hget hp g = none := fun g hg hn => by
  obtain ⟨x, hx, rfl⟩ := List.mem_map.1 hg
  have := List.all_eq_true.1 hk x hx
  simp only [Bool.or_eq_true, List.contains_iff_mem, Option.isNone_iff_eq_none] at this
  exact this.resolve_left hn
section
variable {P : Program} {dr : Bool} {b : Nat} {Q : St → Prop} {dst : Option Nat} {anc : List Nat} {l : List AOper} {k : Nat} {s : St} {log : Lg}
theorem acallB {f : FuncId} {first caps args : List D} {d : D} {h : Hp} {up : Ups} (hA : AC P f (first ++ args ++ caps) h up d) (hh : HasAll s.hp h) (hf : newOk s.hp h up = true) (hn : okNew s.hp (b + 8 * k) (up.map (·.1)) = true)
    (hl : okLog dr log anc (h.map (·.1) ++ []) (up.map (·.1)) = true) (hK : ARun P dr b Q l (k + 1) (s.app dst d up) ((k, h.map (·.1) ++ [], up.map (·.1)) :: log)) : ACallK P dr b Q (.fn f first caps) args dst anc l k s log :=
  acallH hA [] (VwL.refl _) (.inl rfl) (by simp) (by simp) hh.get (newOk_get hf) hn hl hK
end
end Go.Proofs.Ytdcodicoclecnaa.Lift
/- What comes behind a region, hidden while the region is walked. No conditions. -/
namespace Go.Proofs.Ytdcodicoclecnaa.Lift
open Go Go.RowKit

theorem aw_hide {rd : Rd} {P : Program} {n : Nat} {pre : List Nat} {Q : AExit → St → Prop} {s : St} {x : ACode} (h : ∀ K : AExit → St → Prop, K = Q → AWb rd P n pre x K s) : AWb rd P n pre x Q s := h Q rfl
section
variable {K : St → Prop} {Q : AExit → St → Prop} {s : St}
theorem thenQ_n (h : K s) : thenQ K Q .norm s := h
theorem thenQ_e {i : Nat} (h : Q (.ex i) s) : thenQ K Q (.ex i) s := h
theorem blockQ_n {id : Nat} (h : Q .norm s) : blockQ id Q .norm s := h
theorem blockQ_t {id : Nat} (h : Q .norm s) : blockQ id Q (.ex id) s := by simp only [blockQ, if_true]; exact h
theorem blockQ_f {id i : Nat} (hn : i ≠ id) (h : Q (.ex i) s) : blockQ id Q (.ex i) s := by simp only [blockQ]; rw [if_neg hn]; exact h
end
end Go.Proofs.Ytdcodicoclecnaa.Lift
/- Within. No conditions. -/
namespace Go.Proofs.Ytdcodicoclecnaa
open Go.RowKit Lift

def wI (n a b : Int) : Bool := decide (a ≤ n) && decide (n ≤ b)
theorem wI_t {n a b : Int} (h : wI n a b = true) : a ≤ n ∧ n ≤ b := by simpa [wI] using h
theorem wI_f {n a b : Int} (h : wI n a b = false) : n < a ∨ b < n := by simp [wI] at h; omega
end Go.Proofs.Ytdcodicoclecnaa
/- parts and the document: amounts, a series' errors, its turning points. No conditions. -/
namespace Go.Proofs.Ytdcodicoclecnaa
open Go.RowKit Lift

set_option maxRecDepth 100000 in
set_option maxHeartbeats 1000000 in
theorem amount_ac (a b : Int) (ha : -1000000 ≤ a ∧ a ≤ 1000000) (hb : -1000000 ≤ b ∧ b ≤ 1000000) : AC Try.prog 138 [dI a, dI b] [] [] (dI (wdst a b)) := by
  refine kparts_amount.ac (n0 := 0) (by simp) ⟨.val _, .val _, trivial⟩ trivial rfl ?_
  unfold cparts_amount wdst dI
  (repeat' (first | apply aw_seq | ((first | apply aw_skip | apply aw_exit); try simp only [thenQ, blockQ, if_true, if_false, Nat.reduceEqDiff, reduceCtorEq]) | apply aw_ret | apply aw_block | apply aw_condT rfl | apply aw_condF rfl | ((first | refine aw_region ?_ | refine ago_if (by omega) ?_ | skip); simp (disch := first | exact okY | omega) only [ZU, gt_iff_lt, Nat.reduceMul, AOpRun, aexec, Nat.reduceBEq, Nat.reduceAdd, ↓eget_h, isSh, ↓reduceIte, abin, fits, foldI, mx2])))
  all_goals (refine end_q [] [] ?_ ?_ <;> repeat' (first | exact trivial | exact vr_val _))
set_option maxRecDepth 100000 in
set_option maxHeartbeats 1000000 in
theorem distance_ac (a b : Int) (ha : -1000000 ≤ a ∧ a ≤ 1000000) (hb : -1000000 ≤ b ∧ b ≤ 1000000) : AC Try.prog 155 [dI a, dI b] [] [] (dI (wdst a b)) := by
  refine kref09_distance.ac (n0 := 0) (by simp) ⟨.val _, .val _, trivial⟩ trivial rfl ?_
  unfold cref09_distance wdst dI
  (repeat' (first | apply aw_seq | ((first | apply aw_skip | apply aw_exit); try simp only [thenQ, blockQ, if_true, if_false, Nat.reduceEqDiff, reduceCtorEq]) | apply aw_ret | apply aw_block | apply aw_condT rfl | apply aw_condF rfl | ((first | refine aw_region ?_ | refine ago_if (by omega) ?_ | skip); simp (disch := first | exact okY | omega) only [ZU, gt_iff_lt, Nat.reduceMul, AOpRun, aexec, Nat.reduceBEq, Nat.reduceAdd, ↓eget_h, isSh, ↓reduceIte, abin, fits, foldI, mx2])))
  all_goals (refine end_q [] [] ?_ ?_ <;> repeat' (first | exact trivial | exact vr_val _))
set_option maxRecDepth 100000 in
set_option maxHeartbeats 1000000 in
theorem wpwi_ac (n a b : Int) : AC Try.prog 102 [dI n, dI a, dI b] [] [] (dB (wI n a b)) := by
  refine kparts_within.ac (n0 := 0) (by simp) ⟨.val _, .val _, .val _, trivial⟩ trivial rfl ?_
  unfold cparts_within dI dB wI
  (have hg : (987654321 : Nat) - 987654321 = 0 := rfl; have hr := hg; repeat' (first | apply aw_seq | ((first | apply aw_skip | apply aw_exit); try simp only [thenQ, blockQ, if_true, if_false, Nat.reduceEqDiff, reduceCtorEq]) | apply aw_ret | apply aw_block | apply aw_condT rfl | apply aw_condF rfl | (refine ag_bool (fun hg => ?_) (fun hg => ?_) <;> (try (have hq := hg; simp only [Bool.not_eq_true', Bool.not_eq_false', Bool.and_eq_true, Bool.and_eq_false_iff, Bool.or_eq_true, Bool.or_eq_false_iff, decide_eq_true_eq, decide_eq_false_iff_not, bne_iff_ne, beq_iff_eq, beq_eq_false_iff_ne, bne_eq_false_iff_eq, ne_eq, Int.not_lt, Int.not_le, Decidable.not_not] at hq)) <;> (try (have hr := hg; simp only [decide_eq_true_eq, decide_eq_false_iff_not] at hr)) <;> (try (exfalso; omega)) <;> simp (disch := first | exact okY | omega) only [ZU, hr, Bool.true_and, AG_tt, AOpRun, aexec, ↓eget_h, Nat.reduceAdd, Nat.reduceBEq, ARun_some, isSh, ↓reduceIte, abin, decide_false, Bool.false_and, AG_ft]) | ((first | refine aw_region ?_ | refine ago_if (by omega) ?_ | skip); simp (disch := first | exact okY | omega) only [ZU, Nat.reduceMul, Nat.reduceAdd, AOpRun, aexec, Nat.reduceBEq, ↓eget_h, isSh, ↓reduceIte, abin, ge_iff_le, ARun_some])))
  all_goals (refine end_q [] [] ?_ ?_ <;> repeat' (first | exact trivial | exact vr_val _))
set_option maxRecDepth 100000 in
set_option maxHeartbeats 1000000 in
theorem wqwi_ac (n a b : Int) : AC Try.prog 134 [dI n, dI a, dI b] [] [] (dB (wI n a b)) := by
  refine kref09_within.ac (n0 := 0) (by simp) ⟨.val _, .val _, .val _, trivial⟩ trivial rfl ?_
  unfold cref09_within dI dB wI
  (have hg : (987654321 : Nat) - 987654321 = 0 := rfl; have hr := hg; repeat' (first | apply aw_seq | ((first | apply aw_skip | apply aw_exit); try simp only [thenQ, blockQ, if_true, if_false, Nat.reduceEqDiff, reduceCtorEq]) | apply aw_ret | apply aw_block | apply aw_condT rfl | apply aw_condF rfl | (refine ag_bool (fun hg => ?_) (fun hg => ?_) <;> (try (have hq := hg; simp only [Bool.not_eq_true', Bool.not_eq_false', Bool.and_eq_true, Bool.and_eq_false_iff, Bool.or_eq_true, Bool.or_eq_false_iff, decide_eq_true_eq, decide_eq_false_iff_not, bne_iff_ne, beq_iff_eq, beq_eq_false_iff_ne, bne_eq_false_iff_eq, ne_eq, Int.not_lt, Int.not_le, Decidable.not_not] at hq)) <;> (try (have hr := hg; simp only [decide_eq_true_eq, decide_eq_false_iff_not] at hr)) <;> (try (exfalso; omega)) <;> simp (disch := first | exact okY | omega) only [ZU, hr, Bool.true_and, AG_tt, AOpRun, aexec, ↓eget_h, Nat.reduceAdd, Nat.reduceBEq, ARun_some, isSh, ↓reduceIte, abin, decide_false, Bool.false_and, AG_ft]) | ((first | refine aw_region ?_ | refine ago_if (by omega) ?_ | skip); simp (disch := first | exact okY | omega) only [ZU, Nat.reduceMul, Nat.reduceAdd, AOpRun, aexec, Nat.reduceBEq, ↓eget_h, isSh, ↓reduceIte, abin, ge_iff_le, ARun_some])))
  all_goals (refine end_q [] [] ?_ ?_ <;> repeat' (first | exact trivial | exact vr_val _))
set_option maxRecDepth 100000 in
set_option maxHeartbeats 1000000 in
theorem notIn_ac (n : Int) : AC Try.prog 135 [dI n] [] [] (dB (!wI n (-1000000) 1000000)) := by
  refine kparts_checkSeries_S1.ac (n0 := 0) (by simp) ⟨.val _, trivial⟩ trivial rfl ?_
  unfold cparts_checkSeries_S1
  (repeat' (first | apply aw_seq | ((first | apply aw_skip | apply aw_exit); try simp only [thenQ, blockQ, if_true, if_false, Nat.reduceEqDiff, reduceCtorEq]) | apply aw_ret | apply aw_block | apply aw_condT rfl | apply aw_condF rfl | ((first | refine aw_region ?_ | refine acall0 (wpwi_ac _ _ _) ?_ | refine ago_if (by omega) ?_ | skip); simp (disch := first | exact okY | omega) only [ZU, Int.reduceNeg, dB, Nat.reduceMul, dI, AOpRun, aexec, Nat.reduceBEq, Nat.reduceAdd, ↓eget_h])))
  all_goals (refine end_q [] [] ?_ ?_ <;> repeat' (first | exact trivial | exact vr_val _))
def wmB (l : List Int) : Bool := l.all fun x => wI x (-1000000) 1000000
theorem wmB_t {l : List Int} (h : wmB l = true) : WSm l := fun x hx => wI_t (List.all_eq_true.1 h x hx)
set_option maxRecDepth 100000 in
set_option maxHeartbeats 2000000 in
theorem wmI_ac (l : List Int) (hl : l.length ≤ 1000000) : AC Try.prog 144 [.list (ints l), .fn 135 [] []] [] [] (dI (match l.findIdx? (fun x => !wI x (-1000000) 1000000) with
    | some k => (k : Int)
    | none => -1)) := by
  refine kslices_IndexFunc_L_L_Jint_Kint_J.ac (n0 := 0) (by simp) ⟨.list _, .fn _ _ _ (by simp) (by simp), trivial⟩ trivial rfl ?_
  unfold cslices_IndexFunc_L_L_Jint_Kint_J
  (repeat' (first | apply aw_seq | ((first | apply aw_skip | apply aw_exit); try simp only [thenQ, blockQ, if_true, if_false, Nat.reduceEqDiff, reduceCtorEq]) | apply aw_ret | apply aw_block | apply aw_condT rfl | apply aw_condF rfl | ((first | refine aw_region ?_ | refine ago_if (by omega) ?_ | skip); simp (disch := first | exact okY | omega) only [ZU, Int.reduceNeg, dI, Nat.reduceMul, AOpRun, aexec, Nat.reduceBEq, Nat.reduceAdd, ↓eget_h, ints_len])))
  refine aw_loop (fun k : Nat => ⟨[(0, .list (ints l)), (1, .fn 135 [] []), (7, dI l.length), (8, dI k)], [], 400⟩) (fun k => k ≤ l.length ∧ ∀ j, j < k → wI (l[j]?.getD 0) (-1000000) 1000000 = true) (fun k => l.length - k) ⟨0, ⟨by omega, fun j hj => by omega⟩, ?_⟩ ?_
  · refine wk_q [] [] ?_ ?_ <;> repeat' (first | exact trivial | exact vr_val _ | exact vr_list _ | apply vr_fn | apply And.intro)
  rintro k ⟨hk, hin⟩
  by_cases hk2 : k < l.length
  · have g1 := ints_gd l k hk2
    cases he : wI (l[k]?.getD 0) (-1000000) 1000000 with
    | false =>
      have q : l.findIdx? (fun x => !wI x (-1000000) 1000000) = some k := by
        rw [List.findIdx?_eq_some_iff_getElem]
        refine ⟨hk2, by have := he; simp [hk2] at this; simp [this], fun j hj => ?_⟩
        have := hin j hj
        simpa [show j < l.length by omega] using this
      rw [q]
      (have hg : (987654321 : Nat) - 987654321 = 0 := rfl; have hr := hg; repeat' (first | apply aw_seq | ((first | apply aw_skip | apply aw_exit); try simp only [thenQ, blockQ, if_true, if_false, Nat.reduceEqDiff, reduceCtorEq]) | apply aw_ret | apply aw_block | apply aw_condT rfl | apply aw_condF rfl | (refine aw_cond rfl (fun hg => ?_) (fun hg => ?_) <;> (try (have hq := hg; simp only [Bool.not_eq_true', Bool.not_eq_false', Bool.and_eq_true, Bool.and_eq_false_iff, Bool.or_eq_true, Bool.or_eq_false_iff, decide_eq_true_eq, decide_eq_false_iff_not, bne_iff_ne, beq_iff_eq, beq_eq_false_iff_ne, bne_eq_false_iff_eq, ne_eq, Int.not_lt, Int.not_le, Decidable.not_not] at hq)) <;> (try (have hr := hg; simp only [decide_eq_true_eq, decide_eq_false_iff_not] at hr)) <;> (try (exfalso; omega))) | ((first | refine aw_region ?_ | refine acall0 (notIn_ac _) ?_ | refine ago_if (by omega) ?_ | skip); simp (disch := first | exact okY | omega) only [ZU, Int.reduceNeg, dI, Nat.reduceMul, Nat.reduceAdd, AOpRun, aexec, Nat.reduceBEq, ↓eget_h, isSh, ↓reduceIte, abin, hr, ints_all, opt1, g1, run1, dB, he, blockQ])))
      all_goals (refine end_q [] [] ?_ ?_ <;> repeat' (first | exact trivial | exact vr_val _))
    | true =>
      (have hg : (987654321 : Nat) - 987654321 = 0 := rfl; have hr := hg; repeat' (first | apply aw_seq | ((first | apply aw_skip | apply aw_exit); try simp only [thenQ, blockQ, if_true, if_false, Nat.reduceEqDiff, reduceCtorEq]) | apply aw_ret | apply aw_block | apply aw_condT rfl | apply aw_condF rfl | (refine aw_cond rfl (fun hg => ?_) (fun hg => ?_) <;> (try (have hq := hg; simp only [Bool.not_eq_true', Bool.not_eq_false', Bool.and_eq_true, Bool.and_eq_false_iff, Bool.or_eq_true, Bool.or_eq_false_iff, decide_eq_true_eq, decide_eq_false_iff_not, bne_iff_ne, beq_iff_eq, beq_eq_false_iff_ne, bne_eq_false_iff_eq, ne_eq, Int.not_lt, Int.not_le, Decidable.not_not] at hq)) <;> (try (have hr := hg; simp only [decide_eq_true_eq, decide_eq_false_iff_not] at hr)) <;> (try (exfalso; omega))) | ((first | refine aw_region ?_ | refine acall0 (notIn_ac _) ?_ | refine ago_if (by omega) ?_ | skip); simp (disch := first | exact okY | omega) only [ZU, Int.reduceNeg, dI, Nat.reduceMul, Nat.reduceAdd, AOpRun, aexec, Nat.reduceBEq, ↓eget_h, isSh, ↓reduceIte, abin, hr, ints_all, opt1, g1, run1, dB, he, fits])))
      refine ⟨k + 1, ⟨by omega, fun j hj => ?_⟩, by omega, by refine wk_q [] [] ?_ ?_ <;> repeat' (first | exact trivial | exact vr_val _ | exact vr_list _ | apply vr_fn | apply And.intro)⟩
      rcases (by omega : j < k ∨ j = k) with h | rfl
      · exact hin j h
      · exact he
  · obtain rfl : k = l.length := by omega
    have q : l.findIdx? (fun x => !wI x (-1000000) 1000000) = none := by
      rw [List.findIdx?_eq_none_iff]
      intro y hy
      obtain ⟨j, hj, rfl⟩ := List.getElem_of_mem hy
      have := hin j hj
      simp [hj] at this
      simp [this]
    rw [q]
    (have hg : (987654321 : Nat) - 987654321 = 0 := rfl; have hr := hg; repeat' (first | apply aw_seq | ((first | apply aw_skip | apply aw_exit); try simp only [thenQ, blockQ, if_true, if_false, Nat.reduceEqDiff, reduceCtorEq]) | apply aw_ret | apply aw_block | apply aw_condT rfl | apply aw_condF rfl | (refine aw_cond rfl (fun hg => ?_) (fun hg => ?_) <;> (try (have hq := hg; simp only [Bool.not_eq_true', Bool.not_eq_false', Bool.and_eq_true, Bool.and_eq_false_iff, Bool.or_eq_true, Bool.or_eq_false_iff, decide_eq_true_eq, decide_eq_false_iff_not, bne_iff_ne, beq_iff_eq, beq_eq_false_iff_ne, bne_eq_false_iff_eq, ne_eq, Int.not_lt, Int.not_le, Decidable.not_not] at hq)) <;> (try (have hr := hg; simp only [decide_eq_true_eq, decide_eq_false_iff_not] at hr)) <;> (try (exfalso; omega))) | ((first | refine aw_region ?_ | refine ago_if (by omega) ?_ | skip); simp (disch := first | exact okY | omega) only [ZU, Int.reduceNeg, dI, Nat.reduceMul, Nat.reduceAdd, AOpRun, aexec, Nat.reduceBEq, ↓eget_h, isSh, ↓reduceIte, abin, hr, decide_false])))
    all_goals (refine end_q [] [] ?_ ?_ <;> repeat' (first | exact trivial | exact vr_val _))
set_option maxRecDepth 100000 in
set_option maxHeartbeats 2000000 in
theorem wmC_ac (l : List Int) (hl : l.length ≤ 1000000) : AC Try.prog 110 [.list (ints l), .fn 135 [] []] [] [] (dB (!wmB l)) := by
  refine kslices_ContainsFunc_L_L_Jint_Kint_J.ac (n0 := 0) (by simp) ⟨.list _, .fn _ _ _ (by simp) (by simp), trivial⟩ trivial rfl ?_
  unfold cslices_ContainsFunc_L_L_Jint_Kint_J
  have hf := wmI_ac l hl
  cases h : l.findIdx? (fun x => !wI x (-1000000) 1000000) with
  | none =>
    have ha : wmB l = true := by
      rw [List.findIdx?_eq_none_iff] at h
      refine List.all_eq_true.2 fun x hx => ?_
      have := h x hx
      simpa using this
    rw [h] at hf
    rw [ha]
    (repeat' (first | apply aw_seq | ((first | apply aw_skip | apply aw_exit); try simp only [thenQ, blockQ, if_true, if_false, Nat.reduceEqDiff, reduceCtorEq]) | apply aw_ret | apply aw_block | apply aw_condT rfl | apply aw_condF rfl | ((first | refine aw_region ?_ | refine acall0 (hf) ?_ | refine ago_if (by omega) ?_ | skip); simp (disch := first | exact okY | omega) only [ZU, dB, Nat.reduceMul, AOpRun, aexec, Nat.reduceBEq, Nat.reduceAdd, ↓eget_h, dI, Int.reduceNeg, isSh, ↓reduceIte, abin])))
    all_goals (refine end_q [] [] ?_ ?_ <;> repeat' (first | exact trivial | exact vr_val _))
  | some k =>
    have ha : wmB l = false := by
      rw [List.findIdx?_eq_some_iff_getElem] at h
      obtain ⟨hk, he, _⟩ := h
      refine List.all_eq_false.2 ⟨l[k], List.getElem_mem hk, by simpa using he⟩
    rw [h] at hf
    rw [ha]
    have q : decide ((k : Int) ≥ 0) = true := decide_eq_true (by omega)
    (repeat' (first | apply aw_seq | ((first | apply aw_skip | apply aw_exit); try simp only [thenQ, blockQ, if_true, if_false, Nat.reduceEqDiff, reduceCtorEq]) | apply aw_ret | apply aw_block | apply aw_condT rfl | apply aw_condF rfl | ((first | refine aw_region ?_ | refine acall0 (hf) ?_ | refine ago_if (by omega) ?_ | skip); simp (disch := first | exact okY | omega) only [ZU, dB, Nat.reduceMul, AOpRun, aexec, Nat.reduceBEq, Nat.reduceAdd, ↓eget_h, dI, isSh, ↓reduceIte, abin])))
    all_goals (refine end_q [] [] ?_ ?_ <;> repeat' (first | exact trivial | exact vr_val _))
def csE (l : List Int) : Int := if l.length > 300 then 2 else if wmB l = true then 0 else 1
theorem csE_ok {l : List Int} (h : csE l = 0) : l.length ≤ 300 ∧ WSm l := by
  unfold csE at h
  by_cases h1 : l.length > 300
  · rw [if_pos h1] at h; omega
  · rw [if_neg h1] at h
    by_cases h2 : wmB l = true
    · exact ⟨by omega, wmB_t h2⟩
    · rw [if_neg h2] at h; omega
set_option maxRecDepth 100000 in
set_option maxHeartbeats 2000000 in
theorem checkS_ac (l : List Int) (hl : l.length ≤ 1000000) : AC Try.prog 101 [.list (ints l)] [] [] (dI (csE l)) := by
  refine kparts_checkSeries.ac (n0 := 0) (by simp) ⟨.list _, trivial⟩ trivial rfl ?_
  unfold cparts_checkSeries csE
  have c1 := wmC_ac l hl
  by_cases h1 : l.length > 300
  · have q : decide ((l.length : Int) > 300) = true := decide_eq_true (by omega)
    rw [if_pos h1]
    (repeat' (first | apply aw_seq | ((first | apply aw_skip | apply aw_exit); try simp only [thenQ, blockQ, if_true, if_false, Nat.reduceEqDiff, reduceCtorEq]) | apply aw_ret | apply aw_block | apply aw_condT rfl | apply aw_condF rfl | ((first | refine aw_region ?_ | refine ago_if (by omega) ?_ | skip); simp (disch := first | exact okY | omega) only [ZU, dI, Nat.reduceMul, AOpRun, aexec, Nat.reduceBEq, Nat.reduceAdd, ↓eget_h, ints_len, isSh, ↓reduceIte, abin, q])))
    all_goals (refine end_q [] [] ?_ ?_ <;> repeat' (first | exact trivial | exact vr_val _))
  · have q : decide ((l.length : Int) > 300) = false := decide_eq_false (by omega)
    rw [if_neg h1]
    cases h2 : wmB l with
    | true =>
      rw [h2] at c1
      rw [if_pos rfl]
      (repeat' (first | apply aw_seq | ((first | apply aw_skip | apply aw_exit); try simp only [thenQ, blockQ, if_true, if_false, Nat.reduceEqDiff, reduceCtorEq]) | apply aw_ret | apply aw_block | apply aw_condT rfl | apply aw_condF rfl | ((first | refine aw_region ?_ | refine acall0 (c1) ?_ | refine ago_if (by omega) ?_ | skip); simp (disch := first | exact okY | omega) only [ZU, dI, Nat.reduceMul, AOpRun, aexec, Nat.reduceBEq, Nat.reduceAdd, ↓eget_h, ints_len, isSh, ↓reduceIte, abin, q, dB])))
      all_goals (refine end_q [] [] ?_ ?_ <;> repeat' (first | exact trivial | exact vr_val _))
    | false =>
      rw [h2] at c1
      rw [if_neg (by simp)]
      (repeat' (first | apply aw_seq | ((first | apply aw_skip | apply aw_exit); try simp only [thenQ, blockQ, if_true, if_false, Nat.reduceEqDiff, reduceCtorEq]) | apply aw_ret | apply aw_block | apply aw_condT rfl | apply aw_condF rfl | ((first | refine aw_region ?_ | refine acall0 (c1) ?_ | refine ago_if (by omega) ?_ | skip); simp (disch := first | exact okY | omega) only [ZU, dI, Nat.reduceMul, AOpRun, aexec, Nat.reduceBEq, Nat.reduceAdd, ↓eget_h, ints_len, isSh, ↓reduceIte, abin, q, dB])))
      all_goals (refine end_q [] [] ?_ ?_ <;> repeat' (first | exact trivial | exact vr_val _))
set_option maxRecDepth 100000 in
set_option maxHeartbeats 2000000 in
theorem rcheckS_ac (l : List Int) (hl : l.length ≤ 1000000) : AC Try.prog 153 [.list (ints l)] [] [] (dI (csE l)) := by
  refine kref09_checkSeries.ac (n0 := 0) (by simp) ⟨.list _, trivial⟩ trivial rfl ?_
  unfold cref09_checkSeries csE
  by_cases h1 : l.length > 300
  · have q : decide ((l.length : Int) > 300) = true := decide_eq_true (by omega)
    rw [if_pos h1]
    (repeat' (first | apply aw_seq | ((first | apply aw_skip | apply aw_exit); try simp only [thenQ, blockQ, if_true, if_false, Nat.reduceEqDiff, reduceCtorEq]) | apply aw_ret | apply aw_block | apply aw_condT rfl | apply aw_condF rfl | ((first | refine aw_region ?_ | refine ago_if (by omega) ?_ | skip); simp (disch := first | exact okY | omega) only [ZU, Int.reduceNeg, dI, Nat.reduceMul, AOpRun, aexec, Nat.reduceBEq, Nat.reduceAdd, ↓eget_h, ints_len, isSh, ↓reduceIte, abin, q])))
    all_goals (refine end_q [] [] ?_ ?_ <;> repeat' (first | exact trivial | exact vr_val _))
  have q : decide ((l.length : Int) > 300) = false := decide_eq_false (by omega)
  rw [if_neg h1]
  (repeat' (first | apply aw_seq | ((first | apply aw_skip | apply aw_exit); try simp only [thenQ, blockQ, if_true, if_false, Nat.reduceEqDiff, reduceCtorEq]) | apply aw_ret | apply aw_block | apply aw_condT rfl | apply aw_condF rfl | ((first | refine aw_region ?_ | refine ago_if (by omega) ?_ | skip); simp (disch := first | exact okY | omega) only [ZU, Int.reduceNeg, dI, Nat.reduceMul, AOpRun, aexec, Nat.reduceBEq, Nat.reduceAdd, ↓eget_h, ints_len, isSh, ↓reduceIte, abin, q])))
  refine aw_loop (fun k : Nat => ⟨[(0, .list (ints l)), (3, dI k)], [], 400⟩) (fun k => k ≤ l.length ∧ ∀ j, j < k → wI (l[j]?.getD 0) (-1000000) 1000000 = true) (fun k => l.length - k) ⟨0, ⟨by omega, fun j hj => by omega⟩, ?_⟩ ?_
  · refine wk_q [] [] ?_ ?_ <;> repeat' (first | exact trivial | exact vr_val _ | exact vr_list _ | apply And.intro)
  rintro k ⟨hk, hin⟩
  by_cases hk2 : k < l.length
  · have g1 := ints_gd l k hk2
    cases he : wI (l[k]?.getD 0) (-1000000) 1000000 with
    | false =>
      have ha : ¬ wmB l = true := by
        intro h
        have := List.all_eq_true.1 h l[k] (List.getElem_mem hk2)
        rw [show l[k]?.getD 0 = l[k] by simp [hk2]] at he
        rw [he] at this; cases this
      rw [if_neg ha]
      (have hg : (987654321 : Nat) - 987654321 = 0 := rfl; have hr := hg; repeat' (first | apply aw_seq | ((first | apply aw_skip | apply aw_exit); try simp only [thenQ, blockQ, if_true, if_false, Nat.reduceEqDiff, reduceCtorEq]) | apply aw_ret | apply aw_block | apply aw_condT rfl | apply aw_condF rfl | (refine aw_cond rfl (fun hg => ?_) (fun hg => ?_) <;> (try (have hq := hg; simp only [Bool.not_eq_true', Bool.not_eq_false', Bool.and_eq_true, Bool.and_eq_false_iff, Bool.or_eq_true, Bool.or_eq_false_iff, decide_eq_true_eq, decide_eq_false_iff_not, bne_iff_ne, beq_iff_eq, beq_eq_false_iff_ne, bne_eq_false_iff_eq, ne_eq, Int.not_lt, Int.not_le, Decidable.not_not] at hq)) <;> (try (have hr := hg; simp only [decide_eq_true_eq, decide_eq_false_iff_not] at hr)) <;> (try (exfalso; omega))) | ((first | refine aw_region ?_ | refine acall0 (wqwi_ac _ _ _) ?_ | refine ago_if (by omega) ?_ | skip); simp (disch := first | exact okY | omega) only [ZU, Int.reduceNeg, dI, Nat.reduceAdd, Nat.reduceMul, AOpRun, aexec, Nat.reduceBEq, ↓eget_h, ints_len, isSh, ↓reduceIte, abin, hr, ints_all, opt1, g1, run1, dB, he, blockQ])))
      all_goals (refine end_q [] [] ?_ ?_ <;> repeat' (first | exact trivial | exact vr_val _))
    | true =>
      (have hg : (987654321 : Nat) - 987654321 = 0 := rfl; have hr := hg; repeat' (first | apply aw_seq | ((first | apply aw_skip | apply aw_exit); try simp only [thenQ, blockQ, if_true, if_false, Nat.reduceEqDiff, reduceCtorEq]) | apply aw_ret | apply aw_block | apply aw_condT rfl | apply aw_condF rfl | (refine aw_cond rfl (fun hg => ?_) (fun hg => ?_) <;> (try (have hq := hg; simp only [Bool.not_eq_true', Bool.not_eq_false', Bool.and_eq_true, Bool.and_eq_false_iff, Bool.or_eq_true, Bool.or_eq_false_iff, decide_eq_true_eq, decide_eq_false_iff_not, bne_iff_ne, beq_iff_eq, beq_eq_false_iff_ne, bne_eq_false_iff_eq, ne_eq, Int.not_lt, Int.not_le, Decidable.not_not] at hq)) <;> (try (have hr := hg; simp only [decide_eq_true_eq, decide_eq_false_iff_not] at hr)) <;> (try (exfalso; omega))) | ((first | refine aw_region ?_ | refine acall0 (wqwi_ac _ _ _) ?_ | refine ago_if (by omega) ?_ | skip); simp (disch := first | exact okY | omega) only [ZU, Int.reduceNeg, dI, Nat.reduceAdd, Nat.reduceMul, AOpRun, aexec, Nat.reduceBEq, ↓eget_h, ints_len, isSh, ↓reduceIte, abin, hr, ints_all, opt1, g1, run1, dB, he, fits])))
      refine ⟨k + 1, ⟨by omega, fun j hj => ?_⟩, by omega, by refine wk_q [] [] ?_ ?_ <;> repeat' (first | exact trivial | exact vr_val _ | exact vr_list _ | apply And.intro)⟩
      rcases (by omega : j < k ∨ j = k) with h | rfl
      · exact hin j h
      · exact he
  · obtain rfl : k = l.length := by omega
    have ha : wmB l = true := by
      refine List.all_eq_true.2 fun y hy => ?_
      obtain ⟨j, hj, rfl⟩ := List.getElem_of_mem hy
      have := hin j hj
      simpa [hj] using this
    rw [if_pos ha]
    (have hg : (987654321 : Nat) - 987654321 = 0 := rfl; have hr := hg; repeat' (first | apply aw_seq | ((first | apply aw_skip | apply aw_exit); try simp only [thenQ, blockQ, if_true, if_false, Nat.reduceEqDiff, reduceCtorEq]) | apply aw_ret | apply aw_block | apply aw_condT rfl | apply aw_condF rfl | (refine aw_cond rfl (fun hg => ?_) (fun hg => ?_) <;> (try (have hq := hg; simp only [Bool.not_eq_true', Bool.not_eq_false', Bool.and_eq_true, Bool.and_eq_false_iff, Bool.or_eq_true, Bool.or_eq_false_iff, decide_eq_true_eq, decide_eq_false_iff_not, bne_iff_ne, beq_iff_eq, beq_eq_false_iff_ne, bne_eq_false_iff_eq, ne_eq, Int.not_lt, Int.not_le, Decidable.not_not] at hq)) <;> (try (have hr := hg; simp only [decide_eq_true_eq, decide_eq_false_iff_not] at hr)) <;> (try (exfalso; omega))) | ((first | refine aw_region ?_ | refine ago_if (by omega) ?_ | skip); simp (disch := first | exact okY | omega) only [ZU, Int.reduceNeg, dI, Nat.reduceAdd, Nat.reduceMul, AOpRun, aexec, Nat.reduceBEq, ↓eget_h, ints_len, isSh, ↓reduceIte, abin, hr, decide_false])))
    all_goals (refine end_q [] [] ?_ ?_ <;> repeat' (first | exact trivial | exact vr_val _))
end Go.Proofs.Ytdcodicoclecnaa
/- Boxes as abstract values; what is left of a box without another one. No conditions. -/
namespace Go.Proofs.Ytdcodicoclecnaa
open Go.RowKit Lift

abbrev Bx := List (Int × Int)
def sps (b : Bx) : List (List D) := b.map fun x => [.val (.int .i64 x.1), .val (.int .i64 x.2)]
def scells : Bx → List D
  | [] => []
  | x :: b => .val (.int .i64 x.1) :: .val (.int .i64 x.2) :: scells b
def bcells (l : List Bx) : List D := l.map fun b => .list (sps b)
def lo (b : Bx) (k : Nat) : Int := (b[k]?.getD (0, 0)).1
def hi (b : Bx) (k : Nat) : Int := (b[k]?.getD (0, 0)).2
theorem sps_len (b : Bx) : (sps b).length = b.length := by simp [sps]
theorem sps_all (b : Bx) : (sps b).all (fun x => x.length == 2) = true := by simp [sps]
theorem sps_two (b : Bx) : ∀ e ∈ sps b, e.length = 2 := by intro e he; obtain ⟨x, _, rfl⟩ := List.mem_map.1 he; rfl
theorem sps_flat (b : Bx) : (sps b).flatten = scells b := by
  induction b with
  | nil => rfl
  | cons x b ih => simp [sps, scells] at ih ⊢; exact ih
theorem scells_len (b : Bx) : (scells b).length = b.length * 2 := by
  induction b with
  | nil => rfl
  | cons x b ih => simp [scells, ih]; omega
theorem scells_mem {b : Bx} : ∀ {d : D}, d ∈ scells b → ∃ n, d = .val (.int .i64 n) := by
  induction b with
  | nil => intro d h; simp [scells] at h
  | cons x b ih =>
    intro d h
    simp only [scells, List.mem_cons] at h
    rcases h with rfl | rfl | h
    · exact ⟨_, rfl⟩
    · exact ⟨_, rfl⟩
    · exact ih h
theorem scells_in (b : Bx) : ∀ d ∈ scells b, In (fun _ => False) d := fun d hd => by obtain ⟨n, rfl⟩ := scells_mem hd; exact .val _
theorem bcells_in (l : List Bx) : ∀ d ∈ bcells l, In (fun _ => False) d := by
  intro d hd; obtain ⟨x, _, rfl⟩ := List.mem_map.1 hd; exact .list _
theorem scells_leaf (b : Bx) : (scells b).all D.leaf = true := List.all_eq_true.2 fun d hd => by obtain ⟨n, rfl⟩ := scells_mem hd; rfl
theorem scells_noY (b : Bx) : (scells b).all (noY 9) = true := List.all_eq_true.2 fun d hd => by obtain ⟨n, rfl⟩ := scells_mem hd; rfl
theorem sps_gd (b : Bx) (k : Nat) (h : k < b.length) : (sps b)[k]? = some [.val (.int .i64 (lo b k)), .val (.int .i64 (hi b k))] := by simp [sps, lo, hi, h]
/-! ### what the functions compute -/
structure OkB (b : Bx) : Prop where
  pos : 1 ≤ b.length
  len : b.length ≤ 3
  low : ∀ k, k < b.length → -1000000 ≤ lo b k
  le : ∀ k, k < b.length → lo b k ≤ hi b k
  high : ∀ k, k < b.length → hi b k ≤ 1000000
end Go.Proofs.Ytdcodicoclecnaa
/- Damage in numbers: bounds, errors of the steps. No conditions. -/
namespace Go.Proofs.Ytdcodicoclecnaa
open Go.RowKit Lift

def HOk (l : List (Int × Int)) : Prop := ∀ x ∈ l, x.2 = 1 ∨ x.2 = 2
theorem HOk.nil : HOk [] := fun x hx => by cases hx
theorem HOk.cons {x : Int × Int} {l : List (Int × Int)} (h : x.2 = 1 ∨ x.2 = 2) (hl : HOk l) : HOk (x :: l) := fun y hy => by
  rcases List.mem_cons.1 hy with rfl | hy
  · exact h
  · exact hl y hy
theorem HOk.app {a b : List (Int × Int)} (h : HOk a) (k : HOk b) : HOk (a ++ b) := fun y hy => (List.mem_append.1 hy).elim (h y) (k y)
theorem redL_h : ∀ (f : Nat) (p : List Int), HOk (redL f p).1
  | 0, p => .nil
  | f + 1, p => by
    rw [redL_succ]
    split
    · exact .nil
    · split
      · exact .nil
      · split
        · exact .cons (.inl rfl) (redL_h f _)
        · exact .cons (.inr rfl) (redL_h f _)
theorem cyP_h (t : List Int) : ∀ i, HOk (cyP t i).1
  | 0 => .nil
  | i + 1 => (cyP_h t i).app (redL_h _ _)
theorem rsN_h (p : List Int) : ∀ i, HOk (rsN p i)
  | 0 => .nil
  | 1 => .nil
  | i + 2 => (rsN_h p (i + 1)).app (.cons (.inl rfl) .nil)
theorem cyc_h (t : List Int) : HOk (cyc t) := (cyP_h t _).app (rsN_h _ _)
theorem cyc_len (t : List Int) : (cyc t).length ≤ t.length := by
  have h1 := cyP_len t t.length
  have h2 := rsN_len (cyP t t.length).2 (cyP t t.length).2.length
  unfold cyc
  rw [List.length_append]; omega
theorem dsum_bd {st c : List (Int × Int)} (hs : StOk st) (hc : HOk c) : 0 ≤ dsum st c ∧ dsum st c ≤ 2000000 * (c.length : Int) := by
  induction c with
  | nil => simp [dsum]
  | cons x c ih =>
    have h1 := ih fun y hy => hc y (List.mem_cons_of_mem _ hy)
    have h2 := dmg_bd hs x.1 st.length (Nat.le_refl _)
    have h3 := hc x (List.mem_cons_self ..)
    have e : dsum st (x :: c) = x.2 * dmg st x.1 st.length + dsum st c := by simp [dsum]
    rw [e, List.length_cons]
    rcases h3 with h3 | h3 <;> rw [h3] <;> omega
theorem dsum_take (st c : List (Int × Int)) (i : Nat) (h : i < c.length) : dsum st (c.take (i + 1)) = dsum st (c.take i) + hi c i * dmg st (lo c i) st.length := by
  rw [List.take_add_one, List.getElem?_eq_getElem h, Option.toList_some, dsum_app]
  have e : c[i] = (lo c i, hi c i) := by simp [lo, hi, h]
  rw [e, dsum_one]
theorem HOk.take {c : List (Int × Int)} (h : HOk c) (i : Nat) : HOk (c.take i) := fun x hx => h x (List.mem_of_mem_take hx)
theorem HOk.get {c : List (Int × Int)} (h : HOk c) {i : Nat} (hi2 : i < c.length) : hi c i = 1 ∨ hi c i = 2 := by
  have := h c[i] (List.getElem_mem hi2)
  simpa [hi, hi2] using this
theorem dmg_succ (st : List (Int × Int)) (size : Int) (k : Nat) : dmg st size (k + 1) = if lo st k ≤ size then hi st k else dmg st size k := rfl
def stG (st : List (Int × Int)) (j : Nat) : Bool := wI (lo st j) 0 1000000 && wI (hi st j) 0 1000000 && (decide (j = 0) || !decide (lo st j ≤ lo st (j - 1)))
def stE (st : List (Int × Int)) : Int := if st.length > 8 then 1 else if (List.range st.length).all (stG st) = true then 0 else 1
theorem stE_ok {st : List (Int × Int)} (h : stE st = 0) : st.length ≤ 8 ∧ StOk st := by
  unfold stE at h
  by_cases h1 : st.length > 8
  · rw [if_pos h1] at h; omega
  · rw [if_neg h1] at h
    by_cases h2 : (List.range st.length).all (stG st) = true
    · refine ⟨by omega, fun k hk => ?_⟩
      have h3 := List.all_eq_true.1 h2 k (List.mem_range.2 hk)
      unfold stG at h3
      simp only [Bool.and_eq_true] at h3
      exact wI_t h3.1.2
    · rw [if_neg h2] at h; omega
theorem stE_long {st : List (Int × Int)} (h : st.length > 8) : stE st = 1 := if_pos h
theorem stE_yes {st : List (Int × Int)} (h : ¬ st.length > 8) (h2 : ∀ j, j < st.length → stG st j = true) : stE st = 0 := by
  unfold stE
  rw [if_neg h, if_pos (List.all_eq_true.2 fun j hj => h2 j (List.mem_range.1 hj))]
theorem stE_no {st : List (Int × Int)} (h : ¬ st.length > 8) {j : Nat} (hj : j < st.length) (h2 : stG st j = false) : stE st = 1 := by
  unfold stE
  rw [if_neg h, if_neg]
  intro h3
  have := List.all_eq_true.1 h3 j (List.mem_range.2 hj)
  rw [h2] at this; cases this
def cycL (s : List Int) : List (Int × Int) := if csE s = 0 then cyc (wturn s) else []
def dmE (s : List Int) (st : List (Int × Int)) : Int := if csE s = 0 then stE st else csE s
def dmV (s : List Int) (st : List (Int × Int)) : Int := if csE s = 0 then (if stE st = 0 then dsum st (cycL s) else 0) else 0
theorem cycL_h (s : List Int) : HOk (cycL s) := by
  unfold cycL; split
  · exact cyc_h _
  · exact .nil
theorem cycL_len (s : List Int) : (cycL s).length ≤ s.length := by
  unfold cycL; split
  · have := cyc_len (wturn s); have := wturn_len s; omega
  · simp
end Go.Proofs.Ytdcodicoclecnaa
/- Operations with several outcomes: append to a slice behind an offset, a cut of such a slice; a yield in a region that draws its order, in a loop whose assignments are code of their own. No conditions. -/
namespace Go.Proofs.Ytdcodicoclecnaa.Lift
open Go Go.RowKit

def DoesF (P : Program) (o : Oper) (ρ : Operand → D) (H : Heap) (F : List D → Eff) : Prop :=
  ∀ (w : World) (ev : Operand → Value) (β : Bet) (Z : Blk), (∀ x ∈ o.op.operands, Rep w β Z (ev x) (ρ x)) → (∀ i, PreOp w β Z H (F i)) →
    NextPost P ((execOp ev o).run P w) fun v w' => ∃ i, Post w β Z H (F i) v w'
theorem RelS.wpF {P : Program} {C : Ctx} {β : Bet} {Z : Blk} {s : FSt} {a : Act} {w : World} {F : List D → Eff} {o : Oper} {K : Act → World → Prop} {Q : Exit → Act → World → Prop} (h : RelS C β Z s a w)
    (hd : ∀ d, o.dst = some d → d < C.n) (hpl : ∀ c, o.op ≠ .defer c) (hdo : DoesF P o s.ev s.H F) (hf : ∀ i g, g ∈ (F i).ids → s.H g = none → β g = none)
    (hK : ∀ i β' Z' v w', PostAt w β Z s.H (F i) v w' β' → RelS C β' Z' (s.app o.dst (F i)) (a.put o.dst v) w' → K (a.put o.dst v) w') : o.wpIn (Fw C.r) 0 P a w K Q := by
  have h1 := hdo w a.eval β Z (fun x _ => h.ev x) fun i => ⟨fun g c _ hc => h.objs g c hc, fun g g' c c' B _ _ => h.inj g g' c c' B, hf i, h.zlt⟩
  refine ⟨fun _ _ => trivial, ?_⟩
  rw [Oper.semAt_eq _ _ _ hpl]
  generalize (execOp a.eval o).run P w = r at h1
  unfold NextPost at h1
  split at h1
  · obtain ⟨i, β', p⟩ := h1
    exact hK i β' _ _ _ p (h.step hd p)
  · obtain ⟨i, β', p⟩ := h1
    exact hK i β' _ _ _ p (h.step hd p)
  · refine ⟨fun hh => (by cases hh), (calls_fw C.r (0 - 1) h1).mono ?_⟩
    rintro e w'' ⟨v, rfl, i, β', p⟩
    exact hK i β' _ _ _ p (h.step hd p)
  · refine ⟨fun hh => (by cases hh), (round_fw C.r (0 - 1) 0 h1).mono ?_⟩
    rintro e w'' ⟨v, rfl, i, β', p⟩
    exact hK i β' _ _ _ p (h.step hd p)
  · exact h1.elim
def SpQ (P : Program) (ao : AOp) (dst : Option Nat) (len1 nx : Nat) (ops2 : List AOper) (drop : List Nat) (Q : AExit → St → Prop) (s1 : St) : Prop :=
  ∃ F : List D → Eff, (∀ o : Oper, compOp P o.op = some ao → DoesF P o s1.F.ev (hget s1.hp) F) ∧ (∀ i g, g ∈ (F i).ids → hget s1.hp g = none → nx + 8 * len1 ≤ g ∧ g < nx + 8 * len1 + 8) ∧
    ∀ i, ARun P false nx (fun s2 => Q .norm ⟨dropE s2.env drop, s2.hp, nx + 8 * (len1 + 1 + ops2.length)⟩) ops2 (len1 + 1) (s1.app dst (F i).d (F i).up) []
theorem aw_region_sp {rd : Rd} {P : Program} {n : Nat} {pre : List Nat} {Q : AExit → St → Prop} {s : St} (ops1 ops2 : List AOper) {ao : AOp} {dst : Option Nat} {anc : List Nat} {drop : List Nat}
    (h : ARun P false s.nx (SpQ P ao dst ops1.length s.nx ops2 drop Q) ops1 0 s []) :
    AWb rd P n pre (.region false (ops1 ++ ⟨dst, ao, none, anc⟩ :: ops2) drop) Q s := fun code keep hc C a w hn hp hd hr => by
  cases code with
  | region id oa draw =>
    simp only [compCode] at hc
    split at hc
    · rename_i al hal
      split at hc
      · rename_i hcond
        cases hc
        obtain ⟨β, Z, hR, hβ⟩ := hr
        obtain ⟨hd', hlen⟩ := compOps_dst _ _ _ hal
        have hpl := compOps_plain _ _ _ hal
        obtain ⟨l1, l2', hl, e1, e2, e3, e4⟩ := compOps_app _ _ _ _ hal
        rw [Nat.zero_add] at e4
        obtain ⟨oy, l2, rfl, hoy, e5⟩ : ∃ oy l2, l2' = oy :: l2 ∧ compOper P n oa [] oy = some ⟨dst, ao, none, anc⟩ ∧ compOps P n oa [] l2 (ops1.length + 1) = some ops2 := by
          cases l2' with
          | nil => simp at e2
          | cons oy l2 =>
            simp only [compOps] at e4
            split at e4
            · rename_i x y hx hy
              cases e4
              exact ⟨oy, l2, rfl, by simpa using hx, by simpa using hy⟩
            · cases e4
        have hans : ∀ i j, j ∈ (([] : List (List Nat))[i]?).getD [] → Anc .any oa i j := by simp
        have hdo : ∀ o ∈ oa, ∀ d, o.dst = some d → d < C.n := fun o ho d hdd => hn ▸ hd' o (by simpa using ho) d hdd
        have hplo : ∀ o ∈ oa, ∀ c, o.op ≠ .defer c := fun o ho => hpl o (by simpa using ho)
        have hsz : oa.size = l1.length + (l2.length + 1) := by have := congrArg List.length hl; simpa using this
        have hl2 : l2.length = ops2.length := by simpa using e2
        refine wpIn_region ?_
        have hrange : List.range oa.size = List.range' 0 l1.length ++ List.range' l1.length (l2.length + 1) := by
          rw [List.range_eq_range', hsz]
          have := List.range'_append (s := 0) (m := l1.length) (n := l2.length + 1) (step := 1)
          simpa using this.symm
        rw [hrange]
        have hget : ∀ j, oa[j]? = (l1 ++ oy :: l2)[j]? := fun j => by rw [← hl, Array.getElem?_toList]
        have hoyat : oa[l1.length]? = some oy := by rw [hget, List.getElem?_append_right (by omega)]; simp
        refine wpOps_pre (base := s.nx) (K := l1.length) hdo hplo ?_ l1 0 _ (fun _ _ => False) a w β Z (fun j hj => by rw [Nat.zero_add, hget, List.getElem?_append_left hj]) (by simp) hR (fun g hg hn => absurd (hβ g hg) hn)
          (arun_lex hans l1 ops1 0 s [] _ e3 (fun j ef hf => hf.elim) h)
        rintro fs a1 w1 β1 Z1 hR1 hF ⟨s1, rfl, _, F, hdoF, hids, hcont⟩
        unfold compOper at hoy
        split at hoy
        · rename_i ao' hao
          split at hoy
          · rename_i hdst
            simp only [Option.some.injEq, AOper.mk.injEq] at hoy
            obtain ⟨rfl, rfl, hgd, _⟩ := hoy
            have hg0 : oy.guard = none := by simpa using hgd
            rw [List.range'_succ, wpOpsIn_cons]
            unfold wpOpIn
            simp only [hoyat]
            have hw : Region.wanted oy (yielded oa a1.tmps) = true := by simp [Region.wanted, hg0]
            rw [hw]
            simp only [if_true]
            refine hR1.wpF (hdo oy (Array.mem_of_getElem? hoyat)) (hplo oy (Array.mem_of_getElem? hoyat)) (hdoF oy hao) (fun i g hg hn => ?_) fun i β2 Z2 v w2 p hR2 => ?_
            · obtain ⟨h1, h2⟩ := hids i g hg hn
              cases hb : β1 g with
              | none => rfl
              | some B =>
                obtain ⟨j, hj, h3, h4⟩ := hF g (by omega) (by rw [hb]; simp)
                omega
            · have hF2 : FreeB s.nx (fun j => j < l1.length + 1) β2 := fun g hb hg => by
                rcases p.dom g hg with h1 | h1
                · obtain ⟨j, hj, h3⟩ := hF g hb h1
                  exact ⟨j, by omega, h3⟩
                · have := hids i g h1.1 h1.2
                  exact ⟨l1.length, by omega, by omega, by omega⟩
              rw [← St.app_F] at hR2
              have hr2 := wpOps_pre (P := P) (ops := oa) (base := s.nx) (K := l1.length + 1 + l2.length) (C := C) (Q' := PostQ C Q) (rest := []) hdo hplo
                (Q := fun fs => ∃ s3 : St, fs = s3.F ∧ s3.nx = (s1.app oy.dst (F i).d (F i).up).nx ∧ Q .norm ⟨dropE s3.env _, s3.hp, s.nx + 8 * (ops1.length + 1 + ops2.length)⟩) ?_ l2 (l1.length + 1) _ (fun _ _ => False) _ _ β2 Z2 (fun j hj => by rw [hget, List.getElem?_append_right (by omega)]; simp [show l1.length + 1 + j - l1.length = j + 1 by omega]) rfl hR2 hF2
                (arun_lex hans l2 ops2 (l1.length + 1) (s1.app oy.dst (F i).d (F i).up) [] _ (by rw [e1]; exact e5) (fun j ef hf => hf.elim) (by rw [e1]; exact hcont i))
              · simpa using hr2
              · rintro fs a4 w5 β4 Z4 hR5 hF5 ⟨s3, rfl, _, hQ⟩
                refine ⟨_, hQ, β4, Z4, ⟨hR5.size, hR5.defers, fun t => ?_, hR5.objs, hR5.inj, hR5.fr, hR5.z0, hR5.old, hR5.orig, hR5.ext, hR5.zlt⟩, fun g' hg' => ?_⟩
                · show Rep w5 β4 Z4 _ (eget (dropE s3.env _) t)
                  rcases get_drop s3.env _ t with h1 | h1
                  · rw [h1]; exact hR5.env t
                  · rw [h1]; exact .bot _
                · cases hb : β4 g' with
                  | none => rfl
                  | some B =>
                    simp only at hg'
                    obtain ⟨j, hj, h1, h2⟩ := hF5 g' (by omega) (by rw [hb]; simp)
                    omega
          · cases hoy
        · cases hoy
      · cases hc
    · cases hc
  | seq a b => simp only [compCode] at hc; split at hc <;> cases hc
  | cond c a b => simp only [compCode] at hc; split at hc <;> cases hc
  | block id a => simp [compCode] at hc
  | loop a => simp [compCode] at hc
  | rangeFunc x1 x2 x3 x4 => simp only [compCode] at hc; repeat' (first | (cases hc; done) | split at hc)
  | _ => cases hc

section
variable {P : Program} {o : Oper} {ρ : Operand → D} {H : Heap} {id : Nat}
theorem comp_appI {ao : AOp} {sz bytes : Nat} {x y : Operand} (h : compOp P o.op = some ao) (ha : ao = .app sz bytes x y) :
    ∃ t tx e e2 ti z, o.op = .call ⟨.builtin .append, #[x, y], #[t, tx]⟩ ∧ P.underlying t = some (.slice e) ∧ P.underlying tx = some (.slice e2) ∧ P.info? e = some ti ∧ ti.zero = some z ∧ z.cells.size = P.cellsOf e ∧ sz = P.cellsOf e ∧ bytes = ti.bytes := by
  subst ha
  cases ho : o.op with
  | call c =>
    rw [ho] at h
    simp only [compOp, cCall] at h
    have mk : ∀ (b : Builtin) (ay : List Operand) (ts : List TypeId), c.callee = .builtin b → c.args.toList = ay → c.argTypes.toList = ts → (Op.call c) = .call ⟨.builtin b, ay.toArray, ts.toArray⟩ := by
      intro b ay ts h1 h2 h3
      cases c
      simp only at h1 h2 h3
      subst h1; subst h2; subst h3
      simp
    split at h
    · split at h
      · simp only [cLen] at h; split at h <;> cases h
      · cases h
    · rename_i hcal
      split at h
      · rename_i x' y' t tx h1 h2
        simp only [cApp] at h
        split at h
        · rename_i e e2 hu hu2
          split at h
          · rename_i j hj
            split at h
            · rename_i z hz
              split at h
              · rename_i h0
                cases h
                exact ⟨t, tx, e, e2, j, z, mk _ _ _ hcal h1 h2, hu, hu2, hj, hz, h0, rfl, rfl⟩
              · cases h
            · cases h
          · cases h
        · cases h
      · cases h
    · cases h
    · cases h
    · cases h
    · cases h
  | _ => rw [ho] at h; simp only [compOp, cAlloc, cBuild, cBuildSl, cLoad, cStore, cBin, cConv, cSlice, cFad, cField, cIad, cIdx, cMake, cEqA] at h; repeat' (first | (cases h; done) | (simp [cEq] at h; done) | (simp only [cEq] at h) | contradiction | split at h)
theorem comp_slI {sz : Nat} {x : Operand} {lo hi : Option Operand} (h : compOp P o.op = some (.slS sz x lo hi)) :
    ∃ t e ti, o.op = .slice t x lo hi none ∧ P.underlying t = some (.slice e) ∧ P.info? e = some ti ∧ sz = P.cellsOf e := by
  cases ho : o.op with
  | slice t x' lo' hi' m =>
    rw [ho] at h
    cases m with
    | none =>
      simp only [compOp, cSlice] at h
      split at h
      · rename_i e hu
        split at h
        · rename_i ti hti
          cases h
          exact ⟨t, e, ti, rfl, hu, hti, rfl⟩
        · cases h
      · split at h
        · split at h <;> cases h
        · cases h
      · cases h
    | some m => cases h
  | _ => rw [ho] at h; simp only [compOp, cAlloc, cBuild, cBuildSl, cLoad, cStore, cBin, cConv, cFad, cField, cIad, cIdx, cMake, cEqA, cCall, cLen, cApp] at h; repeat' (first | (cases h; done) | (simp [cEq] at h; done) | (simp only [cEq] at h) | contradiction | split at h)
theorem doesF_sl {sz g off n : Nat} {x lo : Operand} {a : Nat} {k : IntKind} (h : compOp P o.op = some (.slS sz x (some lo) none)) (hx : ρ x = .own g off n sz) (hlo : ρ lo = .val (.int k a)) (ha : a < n) :
    DoesF P o ρ H fun _ => ⟨.own g (off + a * sz) (n - a) sz, [], []⟩ := by
  obtain ⟨t, e, ti, ho, ht, hi', rfl⟩ := comp_slI h
  intro w ev β Z hev hp
  have hxr := hev x (by simp [ho, Op.operands])
  have hlr : ∀ y, some lo = some y → Rep w β Z (ev y) (ρ y) := fun y hy => hev y (by cases hy; simp [ho, Op.operands])
  have hhr : ∀ y, (none : Option Operand) = some y → Rep w β Z (ev y) (ρ y) := fun y hy => by cases hy
  rw [hx] at hxr
  generalize hv : ev x = v at hxr
  cases hxr with
  | own _ _ _ _ B cap e' m hB hlt hlen hs hm =>
    have hla : asI ((some lo).map ρ) 0 = some (a : Int) := by simp [asI, hlo]
    have hlb : asI ((none : Option Operand).map ρ) n = some (n : Int) := rfl
    have key : (execOp ev o).run P w = .ok (.value (.slice (if cap = a then (some ⟨B, off, none⟩ : Option Addr) else (some ⟨B, off, none⟩ : Option Addr).map (·.add (a * P.cellsOf e))) (n - a) (cap - a))) w := by
      have hb := run_bounds (P := P) (w := w) (ρ := ρ) true n cap (a : Int) (n : Int) hlr hhr hla hlb (by omega) (by omega) (by omega) hlen
      simp only [Option.map_none] at hb
      simp only [execOp, ho, Instr.sliceAt, Sem.run_bind, run_underlying ht, Result.andThen_ok, hv, Instr.slice, Option.map_none, hb, run_sizeOf w hi', Sem.run_pure, Int.toNat_natCast]
    rw [key, if_neg (by omega), Option.map_some, add_none]
    refine ⟨[], post_same (.own g _ _ _ B (cap - a) e' m hB hlt (by omega) hs ?_)⟩
    rw [Nat.add_assoc, ← Nat.add_mul, show a + (cap - a) = cap by omega]
    exact hm
def cho (cg : List D) (off : Nat) (l : List D) : List D := if l.isEmpty = true then [] else cg.take off
theorem cho_same (cg : List D) (off : Nat) : cho cg off (cg.take off) = cg.take off := by
  unfold cho
  cases h : cg.take off with
  | nil => rfl
  | cons a b => rfl
theorem cho_or (cg : List D) (off : Nat) (l : List D) : cho cg off l = [] ∨ cho cg off l = cg.take off := by
  unfold cho; split
  · exact .inl rfl
  · exact .inr rfl
theorem doesF_app {sz bytes g off n m id : Nat} {x y : Operand} {cg c' : List D} {rd : List Nat} (h : compOp P o.op = some (.app sz bytes x y)) (hx : ρ x = .own g off n sz) (hg : H g = some cg) (hle : off + n * sz ≤ cg.length) (hel : elems H sz (ρ y) = some (m, c', rd))
    (hm : 0 < m) (hfit : (n + m) * 2 * bytes ≤ 2 ^ 48) (h62 : n + m < 2 ^ 62) (hid : (H id).isSome = false) (hleaf : c'.all D.leaf = true) :
    DoesF P o ρ H fun l => ⟨.own id (cho cg off l).length (n + m) sz, rd, ups [g] id (cho cg off l ++ ((cg.drop off).take (n * sz) ++ c'))⟩ := by
  obtain ⟨t, tx, e, e2, ti, z, hop, ht, hk, hi, hz, hzc, rfl, rfl⟩ := comp_appI h rfl
  intro w ev β Z hev hp
  have hp : ∀ c0, (c0 = [] ∨ c0 = cg.take off) → PreOp w β Z H ⟨.own id c0.length (n + m) (P.cellsOf e), rd, ups [g] id (c0 ++ ((cg.drop off).take (n * P.cellsOf e) ++ c'))⟩ := fun c0 h0 => by
    rcases h0 with rfl | rfl
    · exact hp []
    · have := hp (cg.take off); simp only [cho_same] at this; exact this
  have out : ∀ c0 v w', (c0 = [] ∨ c0 = cg.take off) → Post w β Z H ⟨.own id c0.length (n + m) (P.cellsOf e), rd, ups [g] id (c0 ++ ((cg.drop off).take (n * P.cellsOf e) ++ c'))⟩ v w' →
      ∃ l, Post w β Z H ⟨.own id (cho cg off l).length (n + m) (P.cellsOf e), rd, ups [g] id (cho cg off l ++ ((cg.drop off).take (n * P.cellsOf e) ++ c'))⟩ v w' := fun c0 v w' h0 hpo => by
    rcases h0 with rfl | rfl
    · exact ⟨[], hpo⟩
    · exact ⟨cg.take off, by rw [cho_same]; exact hpo⟩
  generalize hc : (cg.drop off).take (n * P.cellsOf e) = c at *
  have hcl : c.length = n * P.cellsOf e := by rw [← hc]; simp; omega
  have hidg : id ≠ g := by rintro rfl; rw [hg] at hid; cases hid
  have hmem : ∀ c0, id ∈ (⟨.own id c0.length (n + m) (P.cellsOf e), rd, ups [g] id (c0 ++ (c ++ c'))⟩ : Eff).ids := fun c0 => by unfold Eff.ids; rw [ups_ids]; simp
  have hgm : ∀ c0, g ∈ (⟨.own id c0.length (n + m) (P.cellsOf e), rd, ups [g] id (c0 ++ (c ++ c'))⟩ : Eff).ids := fun c0 => by unfold Eff.ids; rw [ups_ids]; simp
  obtain ⟨hn, hβ⟩ := freshOf (hp [] (.inl rfl)) (hmem []) hid
  have hxr := hev x (by simp [hop, Op.operands, Call.operands])
  have hyr := hev y (by simp [hop, Op.operands, Call.operands])
  obtain ⟨xa, xc, news, hyv, hnr, hnl, hnw⟩ := elems_sound hyr hel (fun g c hg hc => (hp [] (.inl rfl)).objs g c (.inl hg) hc)
  have hidk : id ∉ [g] := by simpa using hidg
  rw [hx] at hxr
  generalize hv : ev x = v at hxr
  cases hxr with
  | own _ _ _ _ B cap e' mm hB hlt hlen hs hmm =>
    obtain ⟨cs, e'', hO⟩ := ((hp [] (.inl rfl)).objs g cg (.inr (hgm [])) hg).real hB
    have hee : e' = e'' ∧ mm = cs.size := by simp [World.shape?, hO.block] at hs; exact ⟨hs.1.symm, hs.2.symm⟩
    obtain ⟨rfl, rfl⟩ := hee
    have hkz : ∀ g' ∈ [g], ∀ b, β g' = some b → Z b := fun g' hg' b hb' => by
      rw [List.mem_singleton.1 hg', hB] at hb'; cases hb'; exact hO.ours
    have run : ∀ v w', (Builtin.append_ #[t, tx] o.type #[.slice (some ⟨B, off, none⟩) n cap, .slice xa m xc]).run P w = .ok v w' → (execOp ev o).run P w = .ok (.value v) w' := by
      intro v w' hr
      simp only [execOp, hop, resolve, invoke, builtin, Sem.run_bind, Sem.run_pure, Result.andThen_ok]
      rw [show (#[x, y].map ev) = #[ev x, ev y] by simp, hv, hyv, hr]
      rfl
    have hfits := hO.fits
    by_cases hroom : n + m ≤ cap
    · -- in place
      have hnsz := hnr.1
      have hlv : ∀ u ∈ news.toList, (∀ a, u ≠ .agg a) ∧ (∀ a, u ≠ .tuple a) := by
        intro u hu
        obtain ⟨i, hi', rfl⟩ := List.getElem_of_mem hu
        have hi2 : i < news.size := by simpa using hi'
        have hi3 : i < c'.length := by omega
        have := hnr.2 i hi3
        have hl := List.all_eq_true.1 hleaf _ (List.getElem_mem hi3)
        rw [show news.getD i undef = news[i] by simp [hi2]] at this
        simpa using this.leaf hl
      have hmm' : off + (n + m) * P.cellsOf e ≤ cs.size := by
        have := Nat.mul_le_mul_right (P.cellsOf e) hroom
        omega
      rw [Nat.add_mul] at hmm'
      obtain ⟨w', cs', hr, hf, hb', hsz, hgt⟩ := run_stores (P := P) B e' (off + n * P.cellsOf e) news.toList 0 w cs hO.block (by simp; omega) hlv
      have hra := run_app_room (ty := o.type) (w' := w') ht hk hi (some ⟨B, off, none⟩) n cap m xa xc news (hyv ▸ hnw w rfl) hroom (fun a ha => by cases ha; rw [add_none]; exact hr) (fun h => by cases h)
      rw [run _ _ hra]
      obtain ⟨c0, hc0⟩ : ∃ c0, cg.take off = c0 := ⟨_, rfl⟩
      have hc0l : c0.length = off := by rw [← hc0]; simp; omega
      refine out c0 _ _ (.inr hc0.symm) ?_
      have hwr : Wr H ⟨.own id c0.length (n + m) (P.cellsOf e), rd, ups [g] id (c0 ++ (c ++ c'))⟩ β B := ⟨g, cg, hgm c0, hg, hO.at_⟩
      have hX : ∀ b, b < w.heap.size → b = B → Z b := fun b _ h => h ▸ hO.ours
      have hZ : ∀ b, b < w.heap.size → Zof Z (setB β id (some B)) ⟨.own id c0.length (n + m) (P.cellsOf e), rd, ups [g] id (c0 ++ (c ++ c'))⟩ b → Z b := by
        rintro b _ (h | ⟨g', hg', hb2⟩)
        · exact h
        · by_cases h3 : g' = id
          · subst h3; rw [setB_id] at hb2; cases hb2; exact hO.ours
          · have : g' ∈ [g] := by unfold Eff.ids at hg'; rw [ups_ids] at hg'; simpa [h3] using hg'
            exact hkz g' this b (by simpa [setB, h3] using hb2)
      refine post_one (Bo := some B) hidk hn hβ hkz (hf.mono fun b _ h => h ▸ hwr) (fun B' h => by cases h; exact .inr ⟨hwr, hO.ours⟩) ?_ ?_
      · have h1 := Rep.own (w := w') (β := setB β id (some B)) (Z := Zof Z (setB β id (some B)) ⟨.own id c0.length (n + m) (P.cellsOf e), rd, ups [g] id (c0 ++ (c ++ c'))⟩) id c0.length (n + m) (P.cellsOf e) B cap e' cs.size setB_id (Nat.lt_of_lt_of_le hO.lt hf.size) hroom (by rw [hf.shp B hO.lt]; exact hs) (by rw [hc0l]; exact hmm)
        rw [hc0l] at h1 ⊢
        exact h1
      · refine .inr ⟨B, cs', e', setB_id, .inr ⟨id, hmem c0, setB_id⟩, hb', ?_, fun i hi' => ?_⟩
        · rw [hsz]; simp only [List.length_append, hcl, hnl, hc0l]; omega
        · rw [hgt]
          by_cases h1 : i < off + c.length
          · rw [if_neg (by omega)]
            have h2 : i < cg.length := by omega
            have h3 := (hO.rep i h2).mono hf hX (setB_ext (B := some B) hβ) hZ
            have e5 : (c0 ++ (c ++ c'))[i] = cg[i] := by
              by_cases h4 : i < off
              · rw [List.getElem_append_left (by omega)]; subst hc0; simp
              · rw [List.getElem_append_right (by omega), List.getElem_append_left (by omega)]
                subst hc
                simp only [List.getElem_take, List.getElem_drop]
                congr 1; omega
            rw [e5]; exact h3
          · rw [if_pos (by simp at hi' ⊢; omega), List.getElem_append_right (by omega), List.getElem_append_right (by omega)]
            have h2 : i - c0.length - c.length < c'.length := by simp at hi'; omega
            have := (hnr.2 (i - c0.length - c.length) h2).mono hf hX (setB_ext (B := some B) hβ) hZ
            have e4 : news.toList.getD (i - (off + n * P.cellsOf e + 0)) undef = news.getD (i - c0.length - c.length) undef := by rw [hcl, hc0l, Nat.sub_sub]; simp
            rw [e4]
            exact this
    · -- grown
      obtain ⟨olds, hor, how⟩ : ∃ olds, RepL w β Z olds c ∧ ∀ w2 : World, w2.heap = w.heap → (Builtin.firstCells (P.cellsOf e) n (.slice (some ⟨B, off, none⟩) n cap)).run P w2 = .ok olds w2 := by
        refine ⟨((List.range (n * P.cellsOf e)).map fun j => cs.getD (off + j) undef).toArray, rep_range _ _ _ hcl fun i hi' => ?_, fun w2 h2 => ?_⟩
        · have h2 : off + i < cg.length := by omega
          have := hO.rep (off + i) h2
          subst hc
          simpa using this
        · have := run_loads (P := P) w2 B off (n * P.cellsOf e) (fun j => cs.getD (off + j) undef) (fun j hj => by
            have := hO.cell (off + j) (by omega)
            simp only [World.cell?, h2] at this ⊢
            exact this)
          simpa [Builtin.firstCells] using this
      obtain ⟨q, hq, hr⟩ := run_app_grow (ty := o.type) ht hk hi hz (some ⟨B, off, none⟩) n cap m xa xc olds news how (hyv ▸ hnw) (by omega) hfit h62
      rw [run _ _ hr]
      have happ := repL_app hor hnr
      refine out [] _ _ (.inl rfl) ?_
      have hsz : (olds ++ news ++ Builtin.zeroCells z.cells (q - (n + m))).size = q * P.cellsOf e := by
        have hos := hor.1
        have hns := hnr.1
        simp only [Array.size_append, Builtin.zeroCells, Array.size_map, Array.size_range, hzc, hos, hns, hcl, hnl]
        rw [← Nat.add_mul, ← Nat.add_mul]
        congr 1
        omega
      refine post_new hidk hn hβ hkz ?_ (fun i hi' => ?_) _ (fun w' β' Z' hb' hs hsh => .own id 0 (n + m) _ _ q e _ hb' (by omega) hq hsh (by rw [hsz, Nat.zero_add]; exact Nat.le_refl _))
      · have := happ.1; rw [Array.size_append, this]; simp
      · rw [List.nil_append] at hi'
        rw [getD_append_left _ _ _ (by rw [happ.1]; exact hi')]
        exact happ.2 i hi'
end
theorem spApp {P : Program} {sz bytes g off n m len1 nx : Nat} {x y : Operand} {cg c' : List D} {rd : List Nat} {dst : Option Nat} {ops2 : List AOper} {drop : List Nat} {Q : AExit → St → Prop} {s1 : St} (hx : s1.F.ev x = .own g off n sz) (hg : hget s1.hp g = some cg) (hle : off + n * sz ≤ cg.length)
    (hel : elems (hget s1.hp) sz (s1.F.ev y) = some (m, c', rd)) (hm : 0 < m) (hfit : (n + m) * 2 * bytes ≤ 2 ^ 48) (h62 : n + m < 2 ^ 62) (hid : (hget s1.hp (nx + 8 * len1)).isSome = false) (hleaf : c'.all D.leaf = true)
    (hK : ∀ c0 : List D, (c0 = [] ∨ c0 = cg.take off) → ARun P false nx (fun s2 => Q .norm ⟨dropE s2.env drop, s2.hp, nx + 8 * (len1 + 1 + ops2.length)⟩) ops2 (len1 + 1) (s1.app dst (.own (nx + 8 * len1) c0.length (n + m) sz) (ups [g] (nx + 8 * len1) (c0 ++ ((cg.drop off).take (n * sz) ++ c')))) []) :
    SpQ P (.app sz bytes x y) dst len1 nx ops2 drop Q s1 :=
  ⟨fun l => ⟨.own (nx + 8 * len1) (cho cg off l).length (n + m) sz, rd, ups [g] (nx + 8 * len1) (cho cg off l ++ ((cg.drop off).take (n * sz) ++ c'))⟩, fun _ h => doesF_app h hx hg hle hel hm hfit h62 hid hleaf, fun c0 g' hg' hn => by
    unfold Eff.ids at hg'
    rw [ups_ids] at hg'
    simp only [List.mem_append, List.mem_singleton] at hg'
    rcases hg' with rfl | rfl
    · rw [hg] at hn; cases hn
    · omega, fun l => hK _ (cho_or cg off l)⟩
theorem spSl {P : Program} {sz g off n len1 nx : Nat} {x lo : Operand} {a : Nat} {k : IntKind} {dst : Option Nat} {ops2 : List AOper} {drop : List Nat} {Q : AExit → St → Prop} {s1 : St} (hx : s1.F.ev x = .own g off n sz) (hlo : s1.F.ev lo = .val (.int k a)) (ha : a < n)
    (hK : ARun P false nx (fun s2 => Q .norm ⟨dropE s2.env drop, s2.hp, nx + 8 * (len1 + 1 + ops2.length)⟩) ops2 (len1 + 1) (s1.app dst (.own g (off + a * sz) (n - a) sz) []) []) :
    SpQ P (.slS sz x (some lo) none) dst len1 nx ops2 drop Q s1 :=
  ⟨fun _ => ⟨.own g (off + a * sz) (n - a) sz, [], []⟩, fun _ h => doesF_sl h hx hlo ha, fun _ g' hg' => by simp [Eff.ids] at hg', fun _ => hK⟩

def YieldKDA (P : Program) (nb : Nat) (pre ps : List Nat) (ca cb : ACode) (f : Operand) (args : List Operand) (dst : Option Nat) (guard : Option (Option Nat × Bool)) (len1 : Nat) (ops2 : List AOper) (drop : List Nat) (Q : AExit → St → Prop) (nx1 : Nat) (s1 : St) : Prop :=
  ∃ g r k pin env' args', YOf s1 f g r k ∧ gOK s1.env guard ∧ args' = args.map s1.F.ev ∧ LoopIsA P nb ps ca cb r ∧ args'.length = ps.length ∧ hpY s1.hp = true ∧ (∀ g ∈ pre, g ∈ pin) ∧ EK s1.env pin env' ∧
      AWb true P nb pin ca (AsgQ P nb pin cb (YieldQD P len1 ops2 drop Q env' dst)) ⟨parE (envOf 0 k) ps args', s1.hp, nx1⟩
theorem yieldKDA {P : Program} {nb : Nat} {pre ps : List Nat} {ca cb : ACode} {f : Operand} {args : List Operand} {dst : Option Nat} {guard : Option (Option Nat × Bool)} {len1 : Nat} {ops2 : List AOper} {drop : List Nat} {Q : AExit → St → Prop} {nx1 : Nat} {s1 : St} {g : Nat} {r : Loop} {k : List D} (pin : List Nat) (env' : Env) (args' : List D)
    (h1 : YOf s1 f g r k) (hg : gOK s1.env guard) (h0 : args' = args.map s1.F.ev) (hr : LoopIsA P nb ps ca cb r) (h2 : args'.length = ps.length) (h5 : hpY s1.hp = true) (h6 : ∀ g ∈ pre, g ∈ pin) (h7 : EK s1.env pin env')
    (hw : AWb true P nb pin ca (AsgQ P nb pin cb (YieldQD P len1 ops2 drop Q env' dst)) ⟨parE (envOf 0 k) ps args', s1.hp, nx1⟩) : YieldKDA P nb pre ps ca cb f args dst guard len1 ops2 drop Q nx1 s1 := ⟨g, r, k, pin, env', args', h1, hg, h0, hr, h2, h5, h6, h7, hw⟩
theorem aw_region_yieldDA {P : Program} {n nb : Nat} {pre : List Nat} {Q : AExit → St → Prop} {s : St} {ps : List Nat} {ca cb : ACode} {r0 : Loop} (_ : LoopIsA P nb ps ca cb r0) (ops1 ops2 : List AOper) {f : Operand} {args : List Operand} {dst : Option Nat} {guard : Option (Option Nat × Bool)} {anc : List Nat} {drop : List Nat} {rd : Rd}
    (hg1 : (List.range ops1.length).all (fun i => anc.contains i) = true) (hg2 : ops2.all (fun o => o.anc.contains ops1.length) = true)
    (h : ARun P true s.nx (YieldKDA P nb pre ps ca cb f args dst guard ops1.length ops2 drop Q (s.nx + 8 * ops1.length)) ops1 0 s []) :
    AWb rd P n pre (.region true (ops1 ++ ⟨dst, .call f args, guard, anc⟩ :: ops2) drop) Q s := fun code keep hc C a w hn hp hd hr => by
  cases code with
  | region id oa draw =>
    simp only [compCode] at hc
    split at hc
    · rename_i al hal
      split at hc
      · rename_i hcond
        cases hc
        obtain ⟨β, Z, hR0, hβ⟩ := hr
        simp only [if_true] at hal
        obtain ⟨hm1, hlexB⟩ := hcond.resolve_left (by simp)
        obtain ⟨ans, hans0⟩ : ∃ ans, ancGo oa.toList [] = ans := ⟨_, rfl⟩
        have hans : ∀ i j, j ∈ (ans[i]?).getD [] → Anc .any oa i j := hans0 ▸ ancGo_sound oa.toList [] (by simp) (by simp)
        rw [hans0] at hal
        obtain ⟨hd', hlen⟩ := compOps_dst _ _ _ hal
        have hpl := compOps_plain _ _ _ hal
        obtain ⟨l1, l2', hl, e1, e2, e3, e4⟩ := compOps_app _ _ _ _ hal
        rw [Nat.zero_add] at e4
        obtain ⟨oy, l2, rfl, hoy, e5⟩ : ∃ oy l2, l2' = oy :: l2 ∧ compOper P n oa ((ans[ops1.length]?).getD []) oy = some ⟨dst, .call f args, guard, anc⟩ ∧ compOps P n oa ans l2 (ops1.length + 1) = some ops2 := by
          cases l2' with
          | nil => simp at e2
          | cons oy l2 =>
            simp only [compOps] at e4
            split at e4
            · rename_i x y hx hy
              cases e4
              exact ⟨oy, l2, rfl, hx, hy⟩
            · cases e4
        have hdo : ∀ o ∈ oa, ∀ d, o.dst = some d → d < C.n := fun o ho d hdd => hn ▸ hd' o (by simpa using ho) d hdd
        have hplo : ∀ o ∈ oa, ∀ c, o.op ≠ .defer c := fun o ho => hpl o (by simpa using ho)
        have hsz : oa.size = l1.length + (l2.length + 1) := by have := congrArg List.length hl; simpa using this
        have hl2 : l2.length = ops2.length := by simpa using e2
        have hget : ∀ j, oa[j]? = (l1 ++ oy :: l2)[j]? := fun j => by rw [← hl, Array.getElem?_toList]
        have hoyat : oa[l1.length]? = some oy := by rw [hget, List.getElem?_append_right (by omega)]; simp
        have hKlt : l1.length < oa.size := by omega
        have hancK : anc = (ans[ops1.length]?).getD [] := by
          have := compOps_anc _ _ _ hal ops1.length (by simp)
          simpa using this
        have hanc : ∀ i, i < l1.length → Anc .any oa l1.length i := fun i hi => by
          refine hans _ _ ?_
          rw [e1, ← hancK]
          have := List.all_eq_true.1 hg1 i (by simp; omega)
          simpa using this
        have hdesc : ∀ j, l1.length < j → j < oa.size → Anc .any oa j l1.length := fun j hj hjs => by
          obtain ⟨m, rfl⟩ : ∃ m, j = l1.length + (m + 1) := ⟨j - l1.length - 1, by omega⟩
          have hm : m < ops2.length := by omega
          have h1 := compOps_anc _ _ _ hal (ops1.length + (m + 1)) (by simp; omega)
          rw [List.getElem_append_right (by omega)] at h1
          simp only [Nat.add_sub_cancel_left, List.getElem_cons_succ, Nat.zero_add] at h1
          refine hans _ _ ?_
          rw [e1, ← h1]
          have := List.all_eq_true.1 hg2 _ (List.getElem_mem hm)
          simpa using this
        have hlex : Region.lexFrom .any oa oa.size 0 (firstL oa.size 0) = true := by
          simp only [Region.lexB, Bool.and_eq_true] at hlexB
          rw [firstL_zero]; simpa using hlexB.2
        have hR : RelS C β Z s.F a { w with drawn := w.drawn + 1 } := by
          have h := hR0
          have f : Fr (fun _ => False) w { w with drawn := w.drawn + 1 } := Fr.drawn _ _ _
          exact ⟨h.size, ⟨h.defers.1, fun d hd => (h.defers.2 d hd).mono f (fun _ _ h => h.elim) (fun _ _ h => h)⟩, fun t => (h.env t).mono f (fun _ _ h => h.elim) (Ext.refl β) (fun _ _ h => h), fun g c hc => (h.objs g c hc).mono f (fun _ _ h => h.elim) (fun _ _ h => h) (Ext.refl β) (fun h => h) (fun _ _ => Iff.rfl), h.inj,
            h.fr.trans f (fun _ _ h => h.elim), h.z0, h.old, h.orig, h.ext, h.zlt⟩
        refine wpIn_region_any hm1 ?_
        have hup := wpAny_upTo (P := P) (ops := oa) (base := s.nx) (C := C) (K := l1.length) (fuel2 := l2.length) (L0 := firstL oa.size l1.length) (Q' := PostQ C Q) hdo hplo ?_ l1.length (firstL oa.size 0) s.F (fun _ _ => False) a { w with drawn := w.drawn + 1 } β Z (firstL_size _ _) hR (fun g hg hn => absurd (hβ g hg) hn)
          (aUpTo_lex hanc hdesc hKlt l1 0 s.F _ (by simp) (lex_at hlex 0 (by omega)).1 (fun j hj => by rw [Nat.zero_add, hget, List.getElem?_append_left hj]) (by simpa using hlex) (arun_lex hans l1 ops1 0 s [] _ e3 (fun j ef hf => hf.elim) h))
        · rw [firstL_zero, ← hsz] at hup; exact hup
        rintro fs a1 w1 β1 Z1 hR1 hF ⟨s1, rfl, _, g, r, k, pin, env', args', hfy, hgok, rfl, hLoop, hal1, hyh, hsub, hE, hbody⟩
        have hβ1 : ∀ g, s.nx + 8 * ops1.length ≤ g → β1 g = none := fun g hg => by
          cases hb : β1 g with
          | none => rfl
          | some B =>
            obtain ⟨j, hj, h1, h2⟩ := hF g (by omega) (by rw [hb]; simp)
            rw [firstL_get] at hj
            split at hj
            · have := of_decide_eq_true hj; omega
            · cases hj
        -- the call
        unfold compOper at hoy
        split at hoy
        · rename_i ao hao
          split at hoy
          · rename_i hdst
            simp only [Option.some.injEq, AOper.mk.injEq] at hoy
            obtain ⟨rfl, rfl, hgd, _⟩ := hoy
            obtain ⟨c, ho, hcal, hargs⟩ := comp_call hao
            subst hargs
            have hev := hfy.rep hR1
            unfold wpOpIn
            simp only [hoyat]
            have hw : Region.wanted oy (yielded oa a1.tmps) = true := by
              refine hR1.wanted ?_
              unfold wantedA
              cases hgu : oy.guard with
              | none => rfl
              | some x =>
                obtain ⟨j, want⟩ := x
                rw [hgu] at hgd
                simp only [Option.map_some] at hgd
                rw [← hgd] at hgok
                simp only
                cases hbd : (oa[j]?).bind (·.dst) with
                | none => rw [hbd] at hgok; exact hgok.elim
                | some t =>
                  rw [hbd] at hgok
                  have : s1.F.env t = .val (.bool want) := hgok
                  simp [this]
            rw [hw]
            simp only [if_true]
            refine ⟨fun _ _ => trivial, ?_⟩
            rw [Oper.semAt_eq _ _ _ (hplo oy (Array.mem_of_getElem? hoyat))]
            generalize hvf : a1.eval f = vf at hev
            cases hev with
            | yld _ l _ _ y1 y2 y3 y4 y5 y6 =>
              have hps : (c.args.map a1.eval).size = r.params.size := by
                have h1 := congrArg List.length hLoop.pars
                simp at h1 hal1 ⊢; omega
              have hrun : (execOp a1.eval oy).run P w1 = .ok (.round l r.fn ((r.params.zip (c.args.map a1.eval)).foldl (fun t (p, v) => t.setIfInBounds p v) r.tmps) r.assign r.body) w1 := by
                simp only [execOp, ho, resolve, hcal, hvf, Deferred.ofValue, Sem.run_bind, Sem.run_pure, Result.andThen_ok, invoke, Array.append_empty, Array.empty_append]
                exact run_yield y4 hps
              rw [hrun]
              refine ⟨fun hh => (by cases hh), round_fw C.r (0 - 1) 0 ?_⟩
              refine round_coreA (C := C) (nx1 := s.nx + 8 * ops1.length) hR1 hβ1 hd y1 y2 y3 y4 y5 hLoop (by simp) (fun i hi => ?_) hyh (fun g' hg' => hsub g' (hp ▸ hg')) hE hbody (fun e s2 hq => ⟨hq.2.1, .inl hq.1⟩) ?_
              · have hj : i < c.args.size := by simpa using hi
                have q1 : (c.args.map a1.eval).getD i undef = a1.eval c.args[i] := by simp [hj]
                have q2 : (c.args.toList.map s1.F.ev)[i] = s1.F.ev c.args[i] := by simp
                rw [q1, q2]
                exact hR1.ev _
              rintro e s2 β2 Z2 w4 ⟨rfl, _, hge, hrun2⟩ hback hβ2
              -- the rest of the region
              have hdn : ∀ d, oy.dst = some d → d < C.n := hdo oy (Array.mem_of_getElem? hoyat)
              have hR4 : RelS C β2 Z2 (⟨putO env' oy.dst (.val (.bool true)), s2.hp, s2.nx⟩ : St).F (a1.put oy.dst (.bool true)) w4 := by
                refine ⟨by cases hx : oy.dst <;> simp [Act.put, hback.size], ?_, fun t => ?_, hback.objs, hback.inj, hback.fr, hback.z0, hback.old, hback.orig, hback.ext, hback.zlt⟩
                · have : (a1.put oy.dst (.bool true)).defers = a1.defers := by cases oy.dst <;> rfl
                  rw [this]; exact hback.defers
                · rw [getD_put]
                  show Rep _ _ _ _ (eget (putO env' oy.dst _) t)
                  rw [get_putO]
                  by_cases ht : oy.dst = some t
                  · rw [if_pos ⟨ht, by rw [hback.size]; exact hdn t ht⟩, if_pos ht]; exact .val _
                  · rw [if_neg (fun hh => ht hh.1), if_neg ht]; exact hback.env t
              rw [firstL_set]
              refine wpAny_of_aAny (P := P) (ops := oa) (dr := true) (base := s2.nx - 8 * (ops1.length + 1)) (C := C) (Q' := PostQ C Q) hdo hplo
                (Q := fun fs => ∃ s3 : St, fs = s3.F ∧ s3.nx = s2.nx ∧ Q .norm ⟨dropE s3.env _, s3.hp, s2.nx + 8 * ops2.length⟩) ?_ l2.length (firstL oa.size (l1.length + 1)) _ (fun _ _ => False) _ _ β2 Z2 (firstL_size _ _) hR4 (fun g' hg' hn0 => by
                  by_cases hgn : s2.nx ≤ g'
                  · exact absurd (hβ2 g' hgn) hn0
                  · refine ⟨(g' - (s2.nx - 8 * (ops1.length + 1))) / 8, ?_, ?_, ?_⟩
                    · show (firstL _ _).getD _ _ = true; rw [firstL_get, if_pos (by omega)]; exact decide_eq_true (by omega)
                    · omega
                    · omega)
                (aAny_lex rfl l2 (l1.length + 1) _ _ _ (lex_at hlex (l1.length + 1) (by omega)).1 (fun j => by rw [hget, List.getElem?_append_right (by omega)]; simp [show l1.length + 1 + j - l1.length = j + 1 by omega])
                  (by have := (lex_at hlex (l1.length + 1) (by omega)).2; rwa [show oa.size - (l1.length + 1) = l2.length by omega] at this)
                  (arun_lex hans l2 ops2 (l1.length + 1) ⟨putO env' oy.dst (.val (.bool true)), s2.hp, s2.nx⟩ [] _ (by rw [e1]; exact e5) (fun j ef hf => hf.elim) (by rw [e1]; exact hrun2)))
              · rintro fs a4 w5 β4 Z4 hR5 hF5 ⟨s3, rfl, _, hQ⟩
                refine ⟨_, hQ, β4, Z4, ⟨hR5.size, hR5.defers, fun t => ?_, hR5.objs, hR5.inj, hR5.fr, hR5.z0, hR5.old, hR5.orig, hR5.ext, hR5.zlt⟩, fun g' hg' => ?_⟩
                · show Rep w5 β4 Z4 _ (eget (dropE s3.env _) t)
                  rcases get_drop s3.env _ t with h1 | h1
                  · rw [h1]; exact hR5.env t
                  · rw [h1]; exact .bot _
                · cases hb : β4 g' with
                  | none => rfl
                  | some B =>
                    simp only at hg'
                    obtain ⟨j, hj, h1, h2⟩ := hF5 g' (by omega) (by rw [hb]; simp)
                    omega
          · cases hoy
        · cases hoy
      · cases hc
    · cases hc
  | seq a b => simp only [compCode] at hc; split at hc <;> cases hc
  | cond c a b => simp only [compCode] at hc; split at hc <;> cases hc
  | block id a => simp [compCode] at hc
  | loop a => simp [compCode] at hc
  | rangeFunc x1 x2 x3 x4 => simp only [compCode] at hc; repeat' (first | (cases hc; done) | split at hc)
  | _ => cases hc
end Go.Proofs.Ytdcodicoclecnaa.Lift
/- The functions' bodies, translated. Written by a program; no conditions. -/
namespace Go.Proofs.Ytdcodicoclecnaa
open Go.RowKit Lift

def crecord_within : ACode :=
 (.seq
 (.region false [⟨some 6, .mv (.const (.bool false)), none, []⟩] [])
 (.seq
 (.region false [⟨some 7, .mv (.tmp 0), none, []⟩,
 ⟨some 8, .mv (.tmp 1), none, []⟩,
 ⟨some 9, .bin .geq (.tmp 7) (.tmp 8), none, []⟩,
 ⟨some 10, .mv (.tmp 9), none, []⟩,
 ⟨some 11, .mv (.tmp 0), (some (some 10, true)), []⟩,
 ⟨some 12, .mv (.tmp 2), (some (some 10, true)), []⟩,
 ⟨some 13, .bin .leq (.tmp 11) (.tmp 12), (some (some 10, true)), []⟩,
 ⟨some 14, .pick (.tmp 10) (.tmp 13) (.const (.bool false)), none, []⟩,
 ⟨some 6, .mv (.tmp 14), none, []⟩] [7, 8, 9, 10, 11, 12, 13, 14])
 .ret))
set_option maxRecDepth 100000 in
theorem krecord_within : IsCode Try.prog 74 15 crecord_within [.tmp 6] :=
 ⟨Try.f74, _, [0, 1, 2, 6], Try.func74, rfl, by decide, rfl, by kernel_rfl, by kernel_rfl⟩
def cref12_from : ACode :=
 (.seq
 (.region false [⟨some 6, .mv (.const (.bool false)), none, []⟩] [])
 (.seq
 (.region false [⟨some 7, .mv (.tmp 0), none, []⟩,
 ⟨some 8, .mv (.tmp 1), none, []⟩,
 ⟨some 9, .bin .geq (.tmp 7) (.tmp 8), none, []⟩,
 ⟨some 10, .mv (.tmp 9), none, []⟩,
 ⟨some 11, .mv (.tmp 0), (some (some 10, true)), []⟩,
 ⟨some 12, .mv (.tmp 2), (some (some 10, true)), []⟩,
 ⟨some 13, .bin .leq (.tmp 11) (.tmp 12), (some (some 10, true)), []⟩,
 ⟨some 14, .pick (.tmp 10) (.tmp 13) (.const (.bool false)), none, []⟩,
 ⟨some 6, .mv (.tmp 14), none, []⟩] [7, 8, 9, 10, 11, 12, 13, 14])
 .ret))
set_option maxRecDepth 100000 in
theorem kref12_from : IsCode Try.prog 79 15 cref12_from [.tmp 6] :=
 ⟨Try.f79, _, [0, 1, 2, 6], Try.func79, rfl, by decide, rfl, by kernel_rfl, by kernel_rfl⟩
def crecord_bits_in : ACode :=
 (.seq
 (.region false [⟨some 2, .box (.tmp 0), none, []⟩,
 ⟨some 4, .mv (.const (.bool false)), none, []⟩] [])
 (.seq
 (.region true [⟨some 5, .mv (.tmp 1), none, []⟩,
 ⟨some 6, .fad 0 (.tmp 2), none, []⟩,
 ⟨some 7, .fad 7 (.tmp 6), none, [1]⟩,
 ⟨some 8, .load1 (.tmp 7), none, [2, 1]⟩,
 ⟨some 9, .bin .rem (.tmp 5) (.tmp 8), none, [0, 3, 2, 1]⟩,
 ⟨some 10, .fad 0 (.tmp 2), none, []⟩,
 ⟨some 11, .fad 8 (.tmp 10), none, [5]⟩,
 ⟨some 12, .load1 (.tmp 11), none, [6, 5]⟩,
 ⟨some 13, .bin .eql (.tmp 9) (.tmp 12), none, [4, 0, 3, 2, 1, 7, 6, 5]⟩,
 ⟨some 4, .mv (.tmp 13), none, [8, 4, 0, 3, 2, 1, 7, 6, 5]⟩] [5, 6, 7, 8, 9, 10, 11, 12, 13])
 .ret))
set_option maxRecDepth 100000 in
theorem krecord_bits_in : IsCode Try.prog 77 14 crecord_bits_in [.tmp 4] :=
 ⟨Try.f77, _, [0, 1, 2, 4], Try.func77, rfl, by decide, rfl, by kernel_rfl, by kernel_rfl⟩
def crecord_bits_mask : ACode :=
 (.seq
 (.region false [⟨some 1, .box (.tmp 0), none, []⟩,
 ⟨some 2, .mv (.const (.int .i64 0)), none, []⟩] [])
 (.seq
 (.region true [⟨some 3, .fad 0 (.tmp 1), none, []⟩,
 ⟨some 4, .fad 2 (.tmp 3), none, [0]⟩,
 ⟨some 5, .load1 (.tmp 4), none, [1, 0]⟩,
 ⟨some 6, .bin .shl (.const (.int .i64 1)) (.tmp 5), none, [2, 1, 0]⟩,
 ⟨some 7, .bin .sub (.tmp 6) (.const (.int .i64 1)), none, [3, 2, 1, 0]⟩,
 ⟨some 8, .fad 0 (.tmp 1), none, []⟩,
 ⟨some 9, .fad 1 (.tmp 8), none, [5]⟩,
 ⟨some 10, .load1 (.tmp 9), none, [6, 5]⟩,
 ⟨some 11, .bin .shl (.tmp 7) (.tmp 10), none, [4, 3, 2, 1, 0, 7, 6, 5]⟩,
 ⟨some 2, .mv (.tmp 11), none, [8, 4, 3, 2, 1, 0, 7, 6, 5]⟩] [3, 4, 5, 6, 7, 8, 9, 10, 11])
 .ret))
set_option maxRecDepth 100000 in
theorem krecord_bits_mask : IsCode Try.prog 78 12 crecord_bits_mask [.tmp 2] :=
 ⟨Try.f78, _, [0, 1, 2], Try.func78, rfl, by decide, rfl, by kernel_rfl, by kernel_rfl⟩
def crecord_bits_raw : ACode :=
 (.seq
 (.region false [⟨some 2, .box (.tmp 0), none, []⟩,
 ⟨some 4, .mv (.const (.int .i64 0)), none, []⟩] [])
 (.seq
 (.region true [⟨some 6, .mv (.tmp 1), none, []⟩,
 ⟨some 7, .loadN 9 (.tmp 2), none, []⟩,
 ⟨some 8, .call (.func 78) [(.tmp 7)], none, [1]⟩,
 ⟨some 9, .bin .and (.tmp 6) (.tmp 8), none, [0, 2, 1]⟩,
 ⟨some 10, .fad 0 (.tmp 2), none, []⟩,
 ⟨some 11, .fad 1 (.tmp 10), none, [4]⟩,
 ⟨some 12, .load1 (.tmp 11), none, [5, 4]⟩,
 ⟨some 13, .bin .shr (.tmp 9) (.tmp 12), none, [3, 0, 2, 1, 6, 5, 4]⟩,
 ⟨some 5, .mv (.tmp 13), none, [7, 3, 0, 2, 1, 6, 5, 4]⟩] [6, 7, 8, 9, 10, 11, 12, 13])
 (.seq
 (.seq
 (.region false [⟨some 14, .fad 0 (.tmp 2), none, []⟩,
 ⟨some 15, .fad 3 (.tmp 14), none, []⟩,
 ⟨some 16, .load1 (.tmp 15), none, []⟩,
 ⟨some 17, .mv (.tmp 16), none, []⟩,
 ⟨some 18, .mv (.tmp 5), (some (some 17, true)), []⟩,
 ⟨some 19, .fad 0 (.tmp 2), (some (some 17, true)), []⟩,
 ⟨some 20, .fad 2 (.tmp 19), (some (some 17, true)), []⟩,
 ⟨some 21, .load1 (.tmp 20), (some (some 17, true)), []⟩,
 ⟨some 22, .bin .sub (.tmp 21) (.const (.int .i64 1)), (some (some 17, true)), []⟩,
 ⟨some 23, .bin .shr (.tmp 18) (.tmp 22), (some (some 17, true)), []⟩,
 ⟨some 24, .bin .eql (.tmp 23) (.const (.int .i64 1)), (some (some 17, true)), []⟩,
 ⟨some 25, .pick (.tmp 17) (.tmp 24) (.const (.bool false)), none, []⟩] [14, 15, 16, 17, 18, 19, 20, 21, 22, 23, 24])
 (.cond (.tmp 25)
 (.region false [⟨some 26, .mv (.tmp 5), none, []⟩,
 ⟨some 27, .fad 0 (.tmp 2), none, []⟩,
 ⟨some 28, .fad 2 (.tmp 27), none, []⟩,
 ⟨some 29, .load1 (.tmp 28), none, []⟩,
 ⟨some 30, .bin .shl (.const (.int .i64 1)) (.tmp 29), none, []⟩,
 ⟨some 31, .bin .sub (.tmp 26) (.tmp 30), none, []⟩,
 ⟨some 5, .mv (.tmp 31), none, []⟩] [26, 27, 28, 29, 30, 31])
 .skip))
 (.seq
 (.region false [⟨some 32, .mv (.tmp 5), none, []⟩,
 ⟨some 4, .mv (.tmp 32), none, []⟩] [32])
 .ret))))
set_option maxRecDepth 100000 in
theorem krecord_bits_raw : IsCode Try.prog 115 33 crecord_bits_raw [.tmp 4] :=
 ⟨Try.f115, _, [25, 0, 1, 2, 5, 4], Try.func115, rfl, by decide, rfl, by kernel_rfl, by kernel_rfl⟩
def crecord_bits_value : ACode :=
 (.seq
 (.region false [⟨some 2, .box (.tmp 0), none, []⟩,
 ⟨some 4, .mv (.const (.int .i64 0)), none, []⟩] [])
 (.seq
 (.region false [⟨some 5, .fad 0 (.tmp 2), none, []⟩,
 ⟨some 6, .fad 6 (.tmp 5), none, []⟩,
 ⟨some 7, .load1 (.tmp 6), none, []⟩,
 ⟨some 8, .fad 0 (.tmp 2), none, []⟩,
 ⟨some 9, .fad 5 (.tmp 8), none, []⟩,
 ⟨some 10, .load1 (.tmp 9), none, []⟩,
 ⟨some 11, .bin .mul (.tmp 7) (.tmp 10), none, []⟩,
 ⟨some 12, .mv (.tmp 1), none, []⟩,
 ⟨some 13, .fad 0 (.tmp 2), none, []⟩,
 ⟨some 14, .fad 4 (.tmp 13), none, []⟩,
 ⟨some 15, .load1 (.tmp 14), none, []⟩,
 ⟨some 16, .bin .mul (.tmp 12) (.tmp 15), none, []⟩,
 ⟨some 17, .bin .add (.tmp 11) (.tmp 16), none, []⟩,
 ⟨some 4, .mv (.tmp 17), none, []⟩] [5, 6, 7, 8, 9, 10, 11, 12, 13, 14, 15, 16, 17])
 .ret))
set_option maxRecDepth 100000 in
theorem krecord_bits_value : IsCode Try.prog 114 18 crecord_bits_value [.tmp 4] :=
 ⟨Try.f114, _, [0, 2, 1, 4], Try.func114, rfl, by decide, rfl, by kernel_rfl, by kernel_rfl⟩
def crecord_bits_valid : ACode :=
 (.seq
 (.region false [⟨some 2, .box (.tmp 0), none, []⟩,
 ⟨some 4, .mv (.const (.bool false)), none, []⟩] [])
 (.seq
 (.region false [⟨some 5, .fad 0 (.tmp 2), none, []⟩,
 ⟨some 6, .fad 0 (.tmp 5), none, []⟩,
 ⟨some 7, .load1 (.tmp 6), none, []⟩,
 ⟨some 8, .mv (.tmp 1), none, []⟩,
 ⟨some 9, .bin .sub (.tmp 8) (.const (.int .i64 1)), none, []⟩,
 ⟨some 10, .call (.func 74) [(.tmp 7), (.const (.int .i64 1)), (.tmp 9)], none, []⟩,
 ⟨some 11, .mv (.tmp 10), none, []⟩,
 ⟨some 12, .fad 0 (.tmp 2), (some (some 11, true)), []⟩,
 ⟨some 13, .fad 2 (.tmp 12), (some (some 11, true)), []⟩,
 ⟨some 14, .load1 (.tmp 13), (some (some 11, true)), []⟩,
 ⟨some 15, .bin .geq (.tmp 14) (.const (.int .i64 1)), (some (some 11, true)), []⟩,
 ⟨some 16, .pick (.tmp 11) (.tmp 15) (.const (.bool false)), none, []⟩,
 ⟨some 17, .mv (.tmp 16), none, []⟩,
 ⟨some 18, .fad 0 (.tmp 2), (some (some 17, true)), []⟩,
 ⟨some 19, .fad 1 (.tmp 18), (some (some 17, true)), []⟩,
 ⟨some 20, .load1 (.tmp 19), (some (some 17, true)), []⟩,
 ⟨some 21, .fad 0 (.tmp 2), (some (some 17, true)), []⟩,
 ⟨some 22, .fad 2 (.tmp 21), (some (some 17, true)), []⟩,
 ⟨some 23, .load1 (.tmp 22), (some (some 17, true)), []⟩,
 ⟨some 24, .bin .sub (.const (.int .i64 12)) (.tmp 23), (some (some 17, true)), []⟩,
 ⟨some 25, .call (.func 74) [(.tmp 20), (.const (.int .i64 0)), (.tmp 24)], (some (some 17, true)), []⟩,
 ⟨some 26, .pick (.tmp 17) (.tmp 25) (.const (.bool false)), none, []⟩,
 ⟨some 27, .mv (.tmp 26), none, []⟩,
 ⟨some 28, .fad 0 (.tmp 2), (some (some 27, true)), []⟩,
 ⟨some 29, .fad 4 (.tmp 28), (some (some 27, true)), []⟩,
 ⟨some 30, .load1 (.tmp 29), (some (some 27, true)), []⟩,
 ⟨some 31, .call (.func 74) [(.tmp 30), (.const (.int .i64 (-1000))), (.const (.int .i64 1000))], (some (some 27, true)), []⟩,
 ⟨some 32, .pick (.tmp 27) (.tmp 31) (.const (.bool false)), none, []⟩,
 ⟨some 33, .mv (.tmp 32), none, []⟩,
 ⟨some 34, .fad 0 (.tmp 2), (some (some 33, true)), []⟩,
 ⟨some 35, .fad 5 (.tmp 34), (some (some 33, true)), []⟩,
 ⟨some 36, .load1 (.tmp 35), (some (some 33, true)), []⟩,
 ⟨some 37, .call (.func 74) [(.tmp 36), (.const (.int .i64 1)), (.const (.int .i64 1000))], (some (some 33, true)), []⟩,
 ⟨some 38, .pick (.tmp 33) (.tmp 37) (.const (.bool false)), none, []⟩,
 ⟨some 39, .mv (.tmp 38), none, []⟩,
 ⟨some 40, .fad 0 (.tmp 2), (some (some 39, true)), []⟩,
 ⟨some 41, .fad 6 (.tmp 40), (some (some 39, true)), []⟩,
 ⟨some 42, .load1 (.tmp 41), (some (some 39, true)), []⟩,
 ⟨some 43, .call (.func 74) [(.tmp 42), (.const (.int .i64 (-1000000))), (.const (.int .i64 1000000))], (some (some 39, true)), []⟩,
 ⟨some 44, .pick (.tmp 39) (.tmp 43) (.const (.bool false)), none, []⟩,
 ⟨some 45, .mv (.tmp 44), none, []⟩,
 ⟨some 46, .buildSl 1 3 [(.val (.int .i64 0)), (.val (.int .i64 0)), (.val (.int .i64 0))] [(0, 1, (.const (.int .i64 1))), (1, 1, (.const (.int .i64 2))), (2, 1, (.const (.int .i64 4)))], (some (some 45, true)), []⟩,
 ⟨some 47, .fad 0 (.tmp 2), (some (some 45, true)), []⟩,
 ⟨some 48, .fad 7 (.tmp 47), (some (some 45, true)), []⟩,
 ⟨some 49, .load1 (.tmp 48), (some (some 45, true)), []⟩,
 ⟨some 50, .call (.func 75) [(.tmp 46), (.tmp 49)], (some (some 45, true)), []⟩,
 ⟨some 51, .pick (.tmp 45) (.tmp 50) (.const (.bool false)), none, []⟩,
 ⟨some 52, .mv (.tmp 51), none, []⟩,
 ⟨some 53, .fad 0 (.tmp 2), (some (some 52, true)), []⟩,
 ⟨some 54, .fad 8 (.tmp 53), (some (some 52, true)), []⟩,
 ⟨some 55, .load1 (.tmp 54), (some (some 52, true)), []⟩,
 ⟨some 56, .fad 0 (.tmp 2), (some (some 52, true)), []⟩,
 ⟨some 57, .fad 7 (.tmp 56), (some (some 52, true)), []⟩,
 ⟨some 58, .load1 (.tmp 57), (some (some 52, true)), []⟩,
 ⟨some 59, .bin .sub (.tmp 58) (.const (.int .i64 1)), (some (some 52, true)), []⟩,
 ⟨some 60, .call (.func 74) [(.tmp 55), (.const (.int .i64 0)), (.tmp 59)], (some (some 52, true)), []⟩,
 ⟨some 61, .pick (.tmp 52) (.tmp 60) (.const (.bool false)), none, []⟩,
 ⟨some 4, .mv (.tmp 61), none, []⟩] [5, 6, 7, 8, 9, 10, 11, 12, 13, 14, 15, 16, 17, 18, 19, 20, 21, 22, 23, 24, 25, 26, 27, 28, 29, 30, 31, 32, 33, 34, 35, 36, 37, 38, 39, 40, 41, 42, 43, 44, 45, 46, 47, 48, 49, 50, 51, 52, 53, 54, 55, 56, 57, 58, 59, 60, 61])
 .ret))
set_option maxRecDepth 100000 in
theorem krecord_bits_valid : IsCode Try.prog 76 62 crecord_bits_valid [.tmp 4] :=
 ⟨Try.f76, _, [0, 2, 1, 4], Try.func76, rfl, by decide, rfl, by kernel_rfl, by kernel_rfl⟩
def cslices_Index_L_L_Jint_Kint_J : ACode :=
 (.seq
 (.region false [⟨some 4, .mv (.const (.int .i64 0)), none, []⟩] [])
 (.seq
 (.seq
 (.region false [⟨some 6, .mv (.tmp 0), none, []⟩,
 ⟨some 7, .len_ (.tmp 6), none, []⟩,
 ⟨some 8, .mv (.const (.int .i64 0)), none, []⟩] [6])
 (.block 0
 (.loop
 (.seq
 (.region false [⟨some 9, .bin .lss (.tmp 8) (.tmp 7), none, []⟩] [])
 (.seq
 (.cond (.tmp 9)
 .skip
 (.exit 0))
 (.seq
 (.block 1
 (.seq
 (.region false [⟨some 10, .mv (.tmp 8), none, []⟩,
 ⟨some 5, .mv (.tmp 10), none, []⟩] [10])
 (.seq
 (.region false [⟨some 11, .mv (.tmp 1), none, []⟩,
 ⟨some 12, .mv (.tmp 0), none, []⟩,
 ⟨some 13, .mv (.tmp 5), none, []⟩,
 ⟨some 14, .iadS 1 (.tmp 12) (.tmp 13), none, []⟩,
 ⟨some 15, .load1 (.tmp 14), none, []⟩,
 ⟨some 16, .bin .eql (.tmp 11) (.tmp 15), none, []⟩] [11, 12, 13, 14, 15])
 (.cond (.tmp 16)
 (.seq
 (.region false [⟨some 17, .mv (.tmp 5), none, []⟩,
 ⟨some 4, .mv (.tmp 17), none, []⟩] [17])
 .ret)
 .skip))))
 (.region false [⟨some 18, .bin .add (.tmp 8) (.const (.int .i64 1)), none, []⟩,
 ⟨some 8, .mv (.tmp 18), none, []⟩] [18])))))))
 (.seq
 (.region false [⟨some 4, .mv (.const (.int .i64 (-1))), none, []⟩] [])
 .ret)))
set_option maxRecDepth 100000 in
theorem kslices_Index_L_L_Jint_Kint_J : IsCode Try.prog 117 19 cslices_Index_L_L_Jint_Kint_J [.tmp 4] :=
 ⟨Try.f117, _, [16, 9, 0, 8, 7, 1, 5, 4], Try.func117, rfl, by decide, rfl, by kernel_rfl, by kernel_rfl⟩
def cslices_Contains_L_L_Jint_Kint_J : ACode :=
 (.seq
 (.region false [⟨some 4, .mv (.const (.bool false)), none, []⟩] [])
 (.seq
 (.region false [⟨some 5, .mv (.tmp 0), none, []⟩,
 ⟨some 6, .mv (.tmp 1), none, []⟩,
 ⟨some 7, .call (.func 117) [(.tmp 5), (.tmp 6)], none, []⟩,
 ⟨some 8, .bin .geq (.tmp 7) (.const (.int .i64 0)), none, []⟩,
 ⟨some 4, .mv (.tmp 8), none, []⟩] [5, 6, 7, 8])
 .ret))
set_option maxRecDepth 100000 in
theorem kslices_Contains_L_L_Jint_Kint_J : IsCode Try.prog 75 9 cslices_Contains_L_L_Jint_Kint_J [.tmp 4] :=
 ⟨Try.f75, _, [0, 1, 4], Try.func75, rfl, by decide, rfl, by kernel_rfl, by kernel_rfl⟩
def crecord_newTape_S1 : ACode :=
 (.seq
 (.region false [⟨some 2, .mv (.const (.bool false)), none, []⟩] [])
 (.seq
 (.region false [⟨some 3, .mv (.tmp 0), none, []⟩,
 ⟨some 4, .call (.func 74) [(.tmp 3), (.const (.int .i64 0)), (.const (.int .i64 4095))], none, []⟩,
 ⟨some 5, .un .not (.tmp 4), none, []⟩,
 ⟨some 2, .mv (.tmp 5), none, []⟩] [3, 4, 5])
 .ret))
set_option maxRecDepth 100000 in
theorem krecord_newTape_S1 : IsCode Try.prog 116 6 crecord_newTape_S1 [.tmp 2] :=
 ⟨Try.f116, _, [0, 2], Try.func116, rfl, by decide, rfl, by kernel_rfl, by kernel_rfl⟩
end Go.Proofs.Ytdcodicoclecnaa
/- Bits that fields use, and what is packed, in numbers. No conditions. -/
namespace Go.Proofs.Ytdcodicoclecnaa
open Go.RowKit Lift

def fAt (l : Lay) (k : Nat) : Fl := l.fl[k]?.getD fl0
def orM (s : Int) (l : Lay) (w : Int) : Nat → Nat
  | 0 => 0
  | k + 1 => if inSub (fAt l k) s ∧ (fAt l k).word = w then orM s l w k ||| mskF (fAt l k) else orM s l w k
theorem orM_test (s : Int) (l : Lay) (w : Int) (j : Nat) : ∀ k, (orM s l w k).testBit j = true ↔ ∃ i, i < k ∧ inSub (fAt l i) s ∧ (fAt l i).word = w ∧ (mskF (fAt l i)).testBit j = true
  | 0 => by simp [orM]
  | k + 1 => by
    have ih := orM_test s l w j k
    unfold orM
    split
    · rename_i h
      rw [Nat.testBit_or, Bool.or_eq_true, ih]
      constructor
      · rintro (⟨i, h1, h2⟩ | h3)
        · exact ⟨i, by omega, h2⟩
        · exact ⟨k, by omega, h.1, h.2, h3⟩
      · rintro ⟨i, h1, h2, h3, h4⟩
        rcases (by omega : i < k ∨ i = k) with h' | rfl
        · exact .inl ⟨i, h', h2, h3, h4⟩
        · exact .inr h4
    · rename_i h
      rw [ih]
      constructor
      · rintro ⟨i, h1, h2⟩; exact ⟨i, by omega, h2⟩
      · rintro ⟨i, h1, h2, h3, h4⟩
        rcases (by omega : i < k ∨ i = k) with h' | rfl
        · exact ⟨i, h', h2, h3, h4⟩
        · exact absurd ⟨h2, h3⟩ h
theorem orM_lt (s : Int) (l : Lay) (w : Int) (hf : ∀ k, k < l.fl.length → FOk l.words (fAt l k)) : ∀ k, k ≤ l.fl.length → orM s l w k < 4096
  | 0, _ => by simp [orM]
  | k + 1, h => by
    have ih := orM_lt s l w hf k (by omega)
    unfold orM
    split
    · exact Nat.or_lt_two_pow (n := 12) ih (mskF_lt (hf k h))
    · exact ih
theorem orM_conf {s : Int} {l : Lay} (hf : ∀ k, k < l.fl.length → FOk l.words (fAt l k)) {i : Nat} (hi : i < l.fl.length) : orM s l (fAt l i).word i &&& mskF (fAt l i) = 0 ↔ ∀ k, k < i → inSub (fAt l k) s → ¬ Ovl (fAt l i) (fAt l k) := by
  rw [and_zero_iff]
  constructor
  · rintro h k hk hs ⟨e, h1, h2⟩
    have a1 := (hf i hi).b1
    have a2 := (hf k (by omega)).b1
    have a3 := (hf i hi).s1
    have a4 := (hf k (by omega)).s1
    refine h (max (fAt l i).bit.toNat (fAt l k).bit.toNat) ⟨(orM_test _ _ _ _ _).2 ⟨k, hk, hs, e.symm, ?_⟩, ?_⟩
    · rw [mskF_test, Bool.and_eq_true, decide_eq_true_eq, decide_eq_true_eq]; omega
    · rw [mskF_test, Bool.and_eq_true, decide_eq_true_eq, decide_eq_true_eq]; omega
  · rintro h j ⟨h1, h2⟩
    obtain ⟨k, hk, hs, e, h3⟩ := (orM_test _ _ _ _ _).1 h1
    rw [mskF_test, Bool.and_eq_true, decide_eq_true_eq, decide_eq_true_eq] at h2 h3
    have a1 := (hf i hi).b1
    have a2 := (hf k (by omega)).b1
    exact h k hk hs ⟨e.symm, by omega, by omega⟩
def usd (s : Int) (l : Lay) (k : Nat) : List Int := (List.range l.words.toNat).map fun (w : Nat) => ((orM s l (w : Int) k : Nat) : Int)
theorem usd_len (s : Int) (l : Lay) (k : Nat) : (usd s l k).length = l.words.toNat := by simp [usd]
theorem usd_zero (s : Int) (l : Lay) : usd s l 0 = List.replicate l.words.toNat 0 := by
  unfold usd
  refine List.ext_getElem (by simp) fun i h1 h2 => ?_
  simp [orM]
theorem usd_get (s : Int) (l : Lay) (k w : Nat) (h : w < l.words.toNat) : (usd s l k)[w]?.getD 0 = ((orM s l w k : Nat) : Int) := by simp [usd, h]
theorem usd_no (s : Int) (l : Lay) (k : Nat) (h : ¬ inSub (fAt l k) s) : usd s l (k + 1) = usd s l k := by
  unfold usd
  refine List.map_congr_left fun w _ => ?_
  simp [orM, h]
theorem usd_in (s : Int) (l : Lay) (k : Nat) (h : inSub (fAt l k) s) (h0 : 0 ≤ (fAt l k).word) : usd s l (k + 1) = (usd s l k).set (fAt l k).word.toNat ((orM s l (fAt l k).word k ||| mskF (fAt l k) : Nat) : Int) := by
  unfold usd
  refine List.ext_getElem (by simp) fun i h1 h2 => ?_
  rw [List.getElem_set]
  simp only [List.getElem_map, List.getElem_range]
  split
  · rename_i e
    have : (fAt l k).word = (i : Int) := by omega
    simp [orM, h, this]
  · rename_i e
    have : ¬ (fAt l k).word = (i : Int) := by omega
    simp [orM, this]

/-! ### packing -/
def canF (f : Fl) (n : Int) : Prop := if f.sgn = true then -(2 ^ (f.size.toNat - 1)) ≤ n ∧ n ≤ 2 ^ (f.size.toNat - 1) - 1 else 0 ≤ n ∧ n ≤ 2 ^ f.size.toNat - 1
instance (f : Fl) (n : Int) : Decidable (canF f n) := by unfold canF; infer_instance
def packOk (s : Int) (f : Fl) (n : Int) : Prop := if inSub f s then canF f n else n = 0
instance (s : Int) (f : Fl) (n : Int) : Decidable (packOk s f n) := by unfold packOk; infer_instance
def fmod (f : Fl) (n : Int) : Nat := (n % 2 ^ f.size.toNat).toNat
def fvN (f : Fl) (n : Int) : Nat := fmod f n * 2 ^ f.bit.toNat
def rAt (r : List Int) (k : Nat) : Int := r[k]?.getD 0
def pkW (s : Int) (l : Lay) (r : List Int) (w : Int) : Nat → Nat
  | 0 => 0
  | k + 1 => if inSub (fAt l k) s ∧ (fAt l k).word = w then pkW s l r w k ||| fvN (fAt l k) (rAt r k) else pkW s l r w k
def pk (s : Int) (l : Lay) (r : List Int) (k : Nat) : List Int := (List.range l.words.toNat).map fun (w : Nat) => if w = 0 then (sync l)[s.toNat]?.getD 0 else ((pkW s l r (w : Int) k : Nat) : Int)
end Go.Proofs.Ytdcodicoclecnaa
