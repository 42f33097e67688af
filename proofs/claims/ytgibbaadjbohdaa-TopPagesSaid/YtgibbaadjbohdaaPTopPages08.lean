/- Texts of the law TopPages, part 8. No conditions. -/
import Derived.Test.YtgibbaadjbohdaaPTopPages07
import Derived.Test.YtgibbaadjbohdaaRows
/- The contracts of spans.Bound and spans.Worst. -/
namespace Go.Proofs.Ytgibbaadjbohdaa
open Go.RowKit

def pts (xs ys : List Int) (vs : List (List Int)) (x y : Int × Int) : List Pt := allPts xs ys vs (stopsL xs x.1 x.2) (stopsL ys y.1 y.2)
def bnd (xs ys : List Int) (vs : List (List Int)) (x y : Int × Int) : Int × Int :=
  match extrE (pts xs ys vs x y) with
  | some (l, m) => (l.n / l.d, -(-m.n / m.d))
  | none => (0, 0)
theorem bnd_eq {xs ys : List Int} {vs : List (List Int)} {x y : Int × Int} {l m : Pt} (h : extrE (pts xs ys vs x y) = some (l, m)) : bnd xs ys vs x y = (l.n / l.d, -(-m.n / m.d)) := by unfold bnd; rw [h]
theorem vB_iff {x : Int × Int} : vB x = true ↔ -1000000 ≤ x.1 ∧ x.1 ≤ x.2 ∧ x.2 ≤ 1000000 := by simp [vB, wB, and_assoc]
/-- what a box on a table owes -/
structure OnT (xs ys : List Int) (vs : List (List Int)) (x y : Int × Int) : Prop where
  t : Tbl xs ys vs
  x1 : xs[0]?.getD 0 ≤ x.1
  x2 : x.2 ≤ xs[xs.length-1]?.getD 0
  x3 : x.1 ≤ x.2
  y1 : ys[0]?.getD 0 ≤ y.1
  y2 : y.2 ≤ ys[ys.length-1]?.getD 0
  y3 : y.1 ≤ y.2
theorem liesB_iff {l : List Int} {x : Int × Int} : liesB l x = true ↔ l[0]?.getD 0 ≤ x.1 ∧ x.2 ≤ l[l.length - 1]?.getD 0 := by simp [liesB]
theorem cp_zero {xs ys : List Int} {vs : List (List Int)} {x y : Int × Int} (h : cpErr xs ys vs x y = 0) : OnT xs ys vs x y := by
  unfold cpErr at h
  by_cases ht : tabB xs ys vs = true
  · rw [if_pos ht] at h
    by_cases hs : (spErr [x, y] != 0) = true
    · rw [if_pos hs] at h
      simp at hs
      exact absurd h hs
    · rw [if_neg hs] at h
      by_cases hl : (liesB xs x && liesB ys y) = true
      · simp only [Bool.and_eq_true] at hl
        have h1 := liesB_iff.1 hl.1
        have h2 := liesB_iff.1 hl.2
        have hs' : spErr [x, y] = 0 := by simpa using hs
        unfold spErr at hs'
        by_cases ha : [x, y].any (fun x => !vB x) = true
        · rw [if_pos ha] at hs'; omega
        · have ha' : [x, y].any (fun x => !vB x) = false := by simpa using ha
          simp at ha'
          have v1 := vB_iff.1 ha'.1
          have v2 := vB_iff.1 ha'.2
          exact ⟨tbl_of ht, h1.1, h1.2, v1.2.1, h2.1, h2.2, v2.2.1⟩
      · rw [if_neg hl] at h; omega
  · rw [if_neg ht] at h; omega
theorem extremesR {xs ys : List Int} {vs : List (List Int)} {x y : Int × Int} {X Y V : Option Addr} {cx cy cv : Nat} {w : World} (h : OnT xs ys vs x y) (hR : TabR w X Y V cx cy cv xs ys vs) :
    Calls Try.prog 68 #[.agg #[.slice X xs.length cx, .slice Y ys.length cy, .slice V vs.length cv], .agg #[.int .i64 x.1, .int .i64 x.2], .agg #[.int .i64 y.1, .int .i64 y.2]] w (ExtPost (pts xs ys vs x y) w) :=
  extremes_any xs ys vs X Y V cx cy cv x.1 x.2 y.1 y.2 w h.t h.x1 h.x2 h.x3 h.y1 h.y2 h.y3 hR
def boundR (xs ys : List Int) (vs : List (List Int)) (x y : Int × Int) : (Int × Int) × Int := if cpErr xs ys vs x y != 0 then ((0, 0), cpErr xs ys vs x y) else (bnd xs ys vs x y, 0)
set_option maxRecDepth 100000 in
set_option maxHeartbeats 2000000 in
theorem bound_any (xs ys : List Int) (vs : List (List Int)) (X Y V : Option Addr) (cx cy cv : Nat) (x y : Int × Int) (w : World) (hS : TSz xs ys vs) (hR : TabR w X Y V cx cy cv xs ys vs) :
   Calls Try.prog 33 #[.agg #[.slice X xs.length cx, .slice Y ys.length cy, .slice V vs.length cv], .agg #[.int .i64 x.1, .int .i64 x.2], .agg #[.int .i64 y.1, .int .i64 y.2]] w fun e w' =>
     e = .returned (.tuple #[.agg #[.int .i64 (boundR xs ys vs x y).1.1, .int .i64 (boundR xs ys vs x y).1.2], .int .i64 (boundR xs ys vs x y).2]) ∧ Below w.heap.size w w' := by
  obtain ⟨xl, xh⟩ := x
  obtain ⟨yl, yh⟩ := y
  show Calls Try.prog 33 #[.agg #[.slice X xs.length cx, .slice Y ys.length cy, .slice V vs.length cv], .agg #[.int .i64 xl, .int .i64 xh], .agg #[.int .i64 yl, .int .i64 yh]] w _
  have HRR := Lib.hid hR
  have HS := Lib.hid hS
  obtain ⟨W, hW⟩ : ∃ W, (w3 w (.slice X xs.length cx) (.slice Y ys.length cy) (.slice V vs.length cv) (.int .i64 xl) (.int .i64 xh) (.int .i64 yl) (.int .i64 yh)).alloc (.cells #[.int .i64 0, .int .i64 0] 31) = W := ⟨_, rfl⟩
  have hWz : W.heap.size = w.heap.size + 4 := by rw [← hW]; simp [w3]
  have hWb : Below w.heap.size w W := by rw [← hW]; exact (w3_below w _ _ _ _ _ _ _).alloc w3_le _
  have hW3 : Below (w.heap.size + 3) (w3 w (.slice X xs.length cx) (.slice Y ys.length cy) (.slice V vs.length cv) (.int .i64 xl) (.int .i64 xh) (.int .i64 yl) (.int .i64 yh)) W := by rw [← hW]; exact (Below.refl _ _).alloc w3_le3 _
  have hWc : W.heap[w.heap.size + 1 + 1 + 1]? = some (.cells #[.int .i64 0, .int .i64 0] 31) := by rw [← hW, heap_alloc_at, w3_size, if_pos (by omega)]
  have HWz := Lib.hid hWz
  have HWb := Lib.hid hWb
  have HW3 := Lib.hid hW3
  have HWc := Lib.hid hWc
  have HW := Lib.hid hW
  clear hR hS hWz hWb hW3 hWc hW
  go_enter Try.func33, Try.ntmps33
  go_wp2_with fail
  have hW := HW.out
  unfold w3 at hW
  rw [hW]
  clear hW
  refine (checkPoints_any xs ys vs X Y V cx cy cv (xl, xh) (yl, yh) W HS.out (HRR.out.below HWb.out)).mono ?_
  rintro e w1 ⟨rfl, hb1⟩
  have hz1 := HWz.out
  obtain ⟨⟨a1, a2, a3⟩, ⟨a4, a5⟩, ⟨a6, a7⟩, hz⟩ := boxes3 (N := w.heap.size + 3) (HW3.out.trans (hb1.mono (by omega))) (by omega)
  have hc := (hb1.block (w.heap.size + 1 + 1 + 1) (by omega)).trans HWc.out
  have r0 : w1.cell? ⟨w.heap.size + 1 + 1 + 1, 0, none⟩ = some (.int .i64 0) := by rw [cell_of_row w1 _ 0 _ _ _ hc]; rfl
  have r1 : w1.cell? ⟨w.heap.size + 1 + 1 + 1, 1, none⟩ = some (.int .i64 0) := by rw [cell_of_row w1 _ 1 _ _ _ hc]; rfl
  have f0 : w1.frozen? ⟨w.heap.size + 1 + 1 + 1, 0, none⟩ = false := by simp [World.frozen?, hc]
  have f1 : w1.frozen? ⟨w.heap.size + 1 + 1 + 1, 1, none⟩ = false := by simp [World.frozen?, hc]
  have HB1 := Lib.hid hb1
  have HC1 := Lib.hid hc
  have hz4 : w.heap.size + 1 + 1 + 1 < w1.heap.size := by have := hb1.size; omega
  clear hz1 hc hb1
  by_cases he : (cpErr xs ys vs (xl, xh) (yl, yh) != 0) = true
  · have R : Hid (boundR xs ys vs (xl, xh) (yl, yh) = ((0, 0), cpErr xs ys vs (xl, xh) (yl, yh))) := by unfold Hid boundR; rw [if_pos he]
    generalize cpErr xs ys vs (xl, xh) (yl, yh) = ce at *
    go_wp2_with fail
    refine bodyPost_ret (v := .tuple #[.agg #[.int .i64 0, .int .i64 0], .int .i64 ce]) (by simp [results, Try.results33, go_sem, r0, r1]) rfl ⟨by rw [R.out], ?_⟩
    exact ((HWb.out.trans (HB1.out.mono HWb.out.size)).setCell (p := ⟨w.heap.size + 1 + 1 + 1, 0, none⟩) (by show _ ≤ _ + 1 + 1 + 1; omega) _).setCell (p := ⟨w.heap.size + 1 + 1 + 1, 1, none⟩) (by show _ ≤ _ + 1 + 1 + 1; omega) _
  · have he' : (cpErr xs ys vs (xl, xh) (yl, yh) != 0) = false := by simpa using he
    have h0 : cpErr xs ys vs (xl, xh) (yl, yh) = 0 := by simpa using he'
    have HO := Lib.hid (cp_zero h0)
    have R : Hid (boundR xs ys vs (xl, xh) (yl, yh) = (bnd xs ys vs (xl, xh) (yl, yh), 0)) := by unfold Hid boundR; rw [if_neg he]
    rw [h0]
    clear he he' h0
    go_wp2_with fail
    refine (extremesR HO.out ((HRR.out.below HWb.out).below HB1.out)).mono ?_
    rintro e w2 ⟨lo, mo, hlm, rfl, hb2⟩
    have HLM := Lib.hid hlm
    have HB2 := Lib.hid hb2
    clear hlm hb2 a1 a2 a3 a4 a5 a6 a7 r0 r1 f0 f1
    have hc := (HB2.out.block (w.heap.size + 1 + 1 + 1) (by omega)).trans HC1.out
    have r0 : w2.cell? ⟨w.heap.size + 1 + 1 + 1, 0, none⟩ = some (.int .i64 0) := by rw [cell_of_row w2 _ 0 _ _ _ hc]; rfl
    have r1 : w2.cell? ⟨w.heap.size + 1 + 1 + 1, 1, none⟩ = some (.int .i64 0) := by rw [cell_of_row w2 _ 1 _ _ _ hc]; rfl
    have f0 : w2.frozen? ⟨w.heap.size + 1 + 1 + 1, 0, none⟩ = false := by simp [World.frozen?, hc]
    have f1 : w2.frozen? ⟨w.heap.size + 1 + 1 + 1, 1, none⟩ = false := by simp [World.frozen?, hc]
    have hz2 : w.heap.size + 1 + 1 + 1 < w2.heap.size := by have := HB2.out.size; omega
    have HC2 := Lib.hid hc
    obtain ⟨hl1, hl2, hl3, hl4⟩ := lo.ok
    obtain ⟨hm1, hm2, hm3, hm4⟩ := mo.ok
    clear hc
    unfold vP
    go_wp2_with fail
    refine wp_region_tail 9 (by kernel_rfl) (by kernel_rfl) ?_
    simp only [List.take_succ_cons, List.take_zero, List.drop_succ_cons, List.drop_zero]
    iterate 6 still_step
    still_call (floor_any _ _ _ (by omega) (by omega) (by omega) (by omega))
    iterate 2 still_step
    refine wpStill_nil ?_
    go_wp2_with fail
    refine (up_any mo.n mo.d _ (by omega) (by omega) (by omega) (by omega)).mono ?_
    rintro e w4 ⟨rfl, hb4⟩
    have hb5 : Below w2.heap.size w2 w4 := ((((Below.refl _ w2).alloc (Nat.le_refl _) _).alloc (by simp) _).drew).trans (hb4.mono (by simp; omega))
    have hc := (hb5.block (w.heap.size + 1 + 1 + 1) (by omega)).trans HC2.out
    clear r0 r1 f0 f1
    have r0 : w4.cell? ⟨w.heap.size + 1 + 1 + 1, 0, none⟩ = some (.int .i64 0) := by rw [cell_of_row w4 _ 0 _ _ _ hc]; rfl
    have r1 : w4.cell? ⟨w.heap.size + 1 + 1 + 1, 1, none⟩ = some (.int .i64 0) := by rw [cell_of_row w4 _ 1 _ _ _ hc]; rfl
    have f0 : w4.frozen? ⟨w.heap.size + 1 + 1 + 1, 0, none⟩ = false := by simp [World.frozen?, hc]
    have f1 : w4.frozen? ⟨w.heap.size + 1 + 1 + 1, 1, none⟩ = false := by simp [World.frozen?, hc]
    have HB4 := Lib.hid ((HWb.out.trans (HB1.out.mono HWb.out.size)).trans ((HB2.out.trans (hb5.mono HB2.out.size)).mono (by have := HWb.out.size; have := HB1.out.size; omega)))
    clear hb4 hb5 hc
    go_wp2_with fail
    refine bodyPost_ret (v := .tuple #[.agg #[.int .i64 (lo.n / lo.d), .int .i64 (-(-mo.n / mo.d))], .int .i64 0]) (by simp [results, Try.results33, go_sem, r0, r1]) rfl ⟨by rw [R.out, bnd_eq HLM.out], ?_⟩
    exact (HB4.out.setCell (p := ⟨w.heap.size + 1 + 1 + 1, 0, none⟩) (by show _ ≤ _ + 1 + 1 + 1; omega) _).setCell (p := ⟨w.heap.size + 1 + 1 + 1, 1, none⟩) (by show _ ≤ _ + 1 + 1 + 1; omega) _
end Go.Proofs.Ytgibbaadjbohdaa
/- Count of both sides. No conditions. -/
set_option linter.unusedSimpArgs false
set_option linter.unusedVariables false
namespace Go.Proofs.Ytgibbaadjbohdaa
open Go.RowKit Lift

def capM (c : Int) : Int := if 1000000000000000000 < c then 1000000000000000000 else c
theorem capM_add {c p : Int} (hp : 0 ≤ p) : (if 1000000000000000000 < capM c + p then 1000000000000000000 else capM c + p) = capM (c + p) := by
  unfold capM
  repeat' split
  all_goals omega
theorem capM_le (c : Int) : capM c ≤ 1000000000000000000 := by unfold capM; split <;> omega
theorem capM_nn {c : Int} (h : 0 ≤ c) : 0 ≤ capM c := by unfold capM; split <;> omega
def cntE (l : List Bx) : Int := if l.length > 20 then 2 else chk (l[0]?.getD []).length l
def cntV (l : List Bx) : Int := if cntE l = 0 then capM (cnt l l.length) else 0
theorem bxs_take (l : List Bx) (i : Nat) : (bxs l).take i = bxs (l.take i) := by simp [bxs]
theorem restP_rst (l : List Bx) (b : Bx) : restP l b = rst l b := rfl
end Go.Proofs.Ytgibbaadjbohdaa
/- What is left of a box without others: its points, its first one, its count. In numbers; no conditions. -/
namespace Go.Proofs.Ytgibbaadjbohdaa

/-! ### the order of points -/
/-! ### points of what is left -/
theorem rst_count (p : List Int) (b : Bx) (hb : OkB b) : ∀ (l : List Bx), (∀ y ∈ l, OkB y ∧ y.length = b.length) → (rst l b).countP (inL p) = if inL p b = true then 0 else l.countP (inL p)
  | [], _ => by simp [rst]
  | y :: l, h => by
    have hy := h y (List.mem_cons_self ..)
    have ih := rst_count p b hb l fun z hz => h z (List.mem_cons_of_mem _ hz)
    have e : rst (y :: l) b = mnL y b ++ rst l b := by simp [rst]
    rw [e, List.countP_append, ih, lost p y b hy.1 hb hy.2, List.countP_cons]
    cases hp : inL p b with
    | true => simp
    | false =>
      cases hq : inL p y with
      | true => simp; omega
      | false => simp
theorem left_count (p : List Int) {n : Nat} (x : Bx) (hx : OkB x ∧ x.length = n) : ∀ (R : List Bx), (∀ b ∈ R, OkB b ∧ b.length = n) → (leftR R x).countP (inL p) = if inL p x = true ∧ R.all (fun b => !inL p b) = true then 1 else 0
  | [], _ => by
    cases hp : inL p x <;> simp [leftR, hp]
  | b :: R, h => by
    have hb := h b (List.mem_cons_self ..)
    have ih := left_count p x hx R fun z hz => h z (List.mem_cons_of_mem _ hz)
    have e : leftR (b :: R) x = rst (leftR R x) b := rfl
    rw [e, rst_count p b hb.1 _ (fun y hy => ⟨leftR_ok R x hx.1 y hy, (leftR_len R x hx.2 y hy).trans hb.2.symm⟩), ih]
    cases hp : inL p b <;> simp [hp]
section
variable {n : Nat} {x : Bx} {R : List Bx}
theorem left_in (hx : OkB x ∧ x.length = n) (hR : ∀ b ∈ R, OkB b ∧ b.length = n) {y : Bx} (hy : y ∈ leftR R x) {p : List Int} (hp : inL p y = true) : inL p x = true ∧ ∀ b ∈ R, inL p b = false := by
  have h := left_count p x hx R hR
  have hpos : 0 < (leftR R x).countP (inL p) := List.countP_pos_iff.2 ⟨y, hy, hp⟩
  by_cases hc : inL p x = true ∧ R.all (fun b => !inL p b) = true
  · refine ⟨hc.1, fun b hb => ?_⟩
    have := List.all_eq_true.1 hc.2 b hb
    simpa using this
  · rw [if_neg hc] at h; omega
theorem left_of (hx : OkB x ∧ x.length = n) (hR : ∀ b ∈ R, OkB b ∧ b.length = n) {p : List Int} (h1 : inL p x = true) (h2 : ∀ b ∈ R, inL p b = false) : ∃ y ∈ leftR R x, inL p y = true := by
  have h := left_count p x hx R hR
  have hc : inL p x = true ∧ R.all (fun b => !inL p b) = true := ⟨h1, List.all_eq_true.2 fun b hb => by simp [h2 b hb]⟩
  rw [if_pos hc] at h
  exact List.countP_pos_iff.1 (by omega)
end
/-! ### counts -/
end Go.Proofs.Ytgibbaadjbohdaa
/- Hours on pages: the gaps, their number, and boxes of one side. In numbers; no conditions. -/
namespace Go.Proofs.Ytgibbaadjbohdaa

def pgIn (h : Int) (x : Int × Int) : Bool := decide (x.1 ≤ h) && decide (h ≤ x.2)
def pgN (l : Bx) (h : Int) : Nat := l.countP (pgIn h)
def pgOk (H : Int) (x : Int × Int) : Prop := okS x = true ∧ 0 ≤ x.1 ∧ x.1 ≤ x.2 ∧ x.2 ≤ H - 1
def bump (c : List Int) (i : Nat) (x : Int) : List Int := c.set i (c[i]?.getD 0 + x)
def chg1 (c : List Int) (p : Int × Int) : List Int := bump (bump c p.1.toNat 1) (p.2 + 1).toNat (-1)
def chg (H : Nat) (l : Bx) : List Int := l.foldl chg1 (List.replicate (H + 1) 0)
def psum (c : List Int) : Nat → Int
  | 0 => 0
  | k + 1 => psum c k + c[k]?.getD 0
theorem bump_len (c : List Int) (i : Nat) (x : Int) : (bump c i x).length = c.length := by simp [bump]
theorem chg1_len (c : List Int) (p : Int × Int) : (chg1 c p).length = c.length := by simp [chg1, bump_len]
theorem fold_len : ∀ (l : Bx) (c : List Int), (l.foldl chg1 c).length = c.length
  | [], _ => rfl
  | p :: l, c => (fold_len l (chg1 c p)).trans (chg1_len c p)
theorem chg_len (H : Nat) (l : Bx) : (chg H l).length = H + 1 := by unfold chg; rw [fold_len]; simp
theorem bump_at (c : List Int) (i : Nat) (x : Int) (h : i < c.length) (k : Nat) : (bump c i x)[k]?.getD 0 = c[k]?.getD 0 + if i = k then x else 0 := by
  unfold bump
  by_cases hk : i = k
  · subst hk; simp [h]
  · rw [List.getElem?_set_ne hk, if_neg hk]; omega
theorem psum_bump (c : List Int) (i : Nat) (x : Int) (h : i < c.length) : ∀ k, psum (bump c i x) k = psum c k + if i < k then x else 0
  | 0 => by simp [psum]
  | k + 1 => by
    have ih := psum_bump c i x h k
    show psum (bump c i x) k + (bump c i x)[k]?.getD 0 = psum c k + c[k]?.getD 0 + _
    rw [ih, bump_at c i x h k]
    by_cases h1 : i < k
    · rw [if_pos h1, if_neg (by omega), if_pos (by omega)]; omega
    · rw [if_neg h1]
      by_cases h2 : i = k
      · rw [if_pos h2, if_pos (by omega)]; omega
      · rw [if_neg h2, if_neg (by omega)]; omega
theorem psum_chg1 (H : Nat) (c : List Int) (p : Int × Int) (hc : c.length = H + 1) (hp : pgOk H p) (h : Nat) : psum (chg1 c p) (h + 1) = psum c (h + 1) + if pgIn h p = true then 1 else 0 := by
  obtain ⟨_, h1, h2, h3⟩ := hp
  unfold chg1
  rw [psum_bump _ _ _ (by rw [bump_len]; omega), psum_bump _ _ _ (by omega)]
  unfold pgIn
  simp only [Bool.and_eq_true, decide_eq_true_eq]
  by_cases a : p.1 ≤ (h : Int)
  · by_cases b : (h : Int) ≤ p.2
    · rw [if_pos (by omega), if_neg (by omega), if_pos ⟨a, b⟩]; omega
    · rw [if_pos (by omega), if_pos (by omega), if_neg (fun q => b q.2)]; omega
  · rw [if_neg (by omega), if_neg (by omega), if_neg (fun q => a q.1)]; omega
theorem psum_fold (H : Nat) (h : Nat) : ∀ (l : Bx) (c : List Int), c.length = H + 1 → (∀ p ∈ l, pgOk H p) → psum (l.foldl chg1 c) (h + 1) = psum c (h + 1) + (pgN l h : Nat)
  | [], c, _, _ => by simp [pgN]
  | p :: l, c, hc, hl => by
    have h1 := psum_fold H h l (chg1 c p) (by rw [chg1_len]; exact hc) fun q hq => hl q (List.mem_cons_of_mem _ hq)
    have h2 := psum_chg1 H c p hc (hl p (List.mem_cons_self ..)) h
    show psum (l.foldl chg1 (chg1 c p)) (h + 1) = _
    rw [h1, h2]
    unfold pgN
    rw [List.countP_cons]
    by_cases q : pgIn h p = true
    · rw [if_pos q, if_pos q]; omega
    · rw [if_neg q, if_neg q]; omega
theorem psum_zero (n : Nat) : ∀ k, psum (List.replicate n 0) k = 0
  | 0 => rfl
  | k + 1 => by
    show psum (List.replicate n 0) k + (List.replicate n (0 : Int))[k]?.getD 0 = 0
    rw [psum_zero n k]
    by_cases h : k < n <;> simp [List.getElem?_replicate, h]
theorem psum_chg (H : Nat) (l : Bx) (hl : ∀ p ∈ l, pgOk H p) (h : Nat) : psum (chg H l) (h + 1) = (pgN l h : Nat) := by
  unfold chg
  rw [psum_fold H h l _ (by simp) hl, psum_zero]; omega
/-- sums stay small -/
theorem psum_small (H : Nat) (l : Bx) (hl : ∀ p ∈ l, pgOk H p) (h : Nat) : 0 ≤ psum (chg H l) h ∧ psum (chg H l) h ≤ (l.length : Int) := by
  cases h with
  | zero => simp [psum]
  | succ h =>
    rw [psum_chg H l hl h]
    have : pgN l h ≤ l.length := List.countP_le_length
    omega

/-! ### the fewest spans of hours -/
def runs (g : Nat → Bool) : Nat → Bx
  | 0 => []
  | h + 1 => if g h = true then
      (if 0 < (runs g h).length ∧ hi (runs g h) ((runs g h).length - 1) = (h : Int) - 1 then (runs g h).set ((runs g h).length - 1) (lo (runs g h) ((runs g h).length - 1), (h : Int)) else runs g h ++ [((h : Int), (h : Int))])
    else runs g h
theorem runs_no (g : Nat → Bool) (h : Nat) (hg : g h = false) : runs g (h + 1) = runs g h := by
  show (if g h = true then _ else _) = _
  rw [if_neg (by rw [hg]; simp)]
theorem runs_new (g : Nat → Bool) (h : Nat) (hg : g h = true) (hn : ¬ (0 < (runs g h).length ∧ hi (runs g h) ((runs g h).length - 1) = (h : Int) - 1)) : runs g (h + 1) = runs g h ++ [((h : Int), (h : Int))] := by
  show (if g h = true then _ else _) = _
  rw [if_pos hg, if_neg hn]
theorem runs_more (g : Nat → Bool) (h : Nat) (hg : g h = true) (hn : 0 < (runs g h).length ∧ hi (runs g h) ((runs g h).length - 1) = (h : Int) - 1) : runs g (h + 1) = (runs g h).set ((runs g h).length - 1) (lo (runs g h) ((runs g h).length - 1), (h : Int)) := by
  show (if g h = true then _ else _) = _
  rw [if_pos hg, if_pos hn]
theorem last_split {l : Bx} (h : 0 < l.length) : ∃ i a b, l = i ++ [(a, b)] ∧ lo l (l.length - 1) = a ∧ hi l (l.length - 1) = b ∧ ∀ x, l.set (l.length - 1) x = i ++ [x] := by
  have hne : l ≠ [] := by rintro rfl; simp at h
  obtain ⟨i, ⟨a, b⟩, rfl⟩ : ∃ i x, l = i ++ [x] := ⟨l.dropLast, l.getLast hne, (List.dropLast_concat_getLast hne).symm⟩
  refine ⟨i, a, b, rfl, ?_, ?_, fun x => ?_⟩
  · simp [lo]
  · simp [hi]
  · simp [List.set_append]
/-- one hour more: the cases -/
theorem runs_cases (g : Nat → Bool) (h : Nat) : (g h = false ∧ runs g (h + 1) = runs g h) ∨ (g h = true ∧ runs g (h + 1) = runs g h ++ [((h : Int), (h : Int))]) ∨ (g h = true ∧ ∃ i a, runs g h = i ++ [(a, (h : Int) - 1)] ∧ runs g (h + 1) = i ++ [(a, (h : Int))]) := by
  cases hg : g h with
  | false => exact .inl ⟨rfl, runs_no g h hg⟩
  | true =>
    by_cases hn : 0 < (runs g h).length ∧ hi (runs g h) ((runs g h).length - 1) = (h : Int) - 1
    · obtain ⟨i, a, b, h1, h2, h3, h4⟩ := last_split hn.1
      refine .inr (.inr ⟨rfl, i, a, ?_, ?_⟩)
      · rw [h1]; rw [h3] at hn; rw [hn.2]
      · rw [runs_more g h hg hn, h4, h2]
    · exact .inr (.inl ⟨rfl, runs_new g h hg hn⟩)
theorem runs_len (g : Nat → Bool) : ∀ h, (runs g h).length ≤ h
  | 0 => by simp [runs]
  | h + 1 => by
    have ih := runs_len g h
    rcases runs_cases g h with ⟨_, e⟩ | ⟨_, e⟩ | ⟨_, i, a, e1, e⟩
    · rw [e]; omega
    · rw [e]; simp; omega
    · rw [e1] at ih; rw [e]; simp at ih ⊢; omega
theorem runs_ok (g : Nat → Bool) : ∀ h, ∀ r ∈ runs g h, 0 ≤ r.1 ∧ r.1 ≤ r.2 ∧ r.2 < h ∧ ∀ x : Nat, r.1 ≤ x → (x : Int) ≤ r.2 → g x = true
  | 0 => by simp [runs]
  | h + 1 => by
    have ih := runs_ok g h
    intro r hr
    rcases runs_cases g h with ⟨_, e⟩ | ⟨hg, e⟩ | ⟨hg, i, a, e1, e⟩
    · rw [e] at hr
      obtain ⟨a1, a2, a3, a4⟩ := ih r hr
      exact ⟨a1, a2, by omega, a4⟩
    · rw [e, List.mem_append] at hr
      rcases hr with hr | hr
      · obtain ⟨a1, a2, a3, a4⟩ := ih r hr
        exact ⟨a1, a2, by omega, a4⟩
      · have : r = ((h : Int), (h : Int)) := by simpa using hr
        subst this
        refine ⟨by simp, by simp, by simp; omega, fun x h1 h2 => ?_⟩
        have : x = h := by simp at h1 h2; omega
        rw [this]; exact hg
    · rw [e, List.mem_append] at hr
      rcases hr with hr | hr
      · obtain ⟨a1, a2, a3, a4⟩ := ih r (by rw [e1]; exact List.mem_append_left _ hr)
        exact ⟨a1, a2, by omega, a4⟩
      · have : r = (a, (h : Int)) := by simpa using hr
        subst this
        obtain ⟨a1, a2, a3, a4⟩ := ih (a, (h : Int) - 1) (by rw [e1]; simp)
        simp only at a1 a2 a3 a4 ⊢
        refine ⟨a1, by omega, by omega, fun x h1 h2 => ?_⟩
        by_cases hx : x = h
        · rw [hx]; exact hg
        · exact a4 x h1 (by omega)
theorem runs_has (g : Nat → Bool) : ∀ h, ∀ x : Nat, x < h → g x = true → ∃ r ∈ runs g h, pgIn x r = true
  | 0 => fun x hx => by omega
  | h + 1 => by
    intro x hx hgx
    have ih := runs_has g h x
    by_cases hxh : x = h
    · subst hxh
      rcases runs_cases g x with ⟨hg, e⟩ | ⟨hg, e⟩ | ⟨hg, i, a, e1, e⟩
      · rw [hgx] at hg; cases hg
      · exact ⟨((x : Int), (x : Int)), by rw [e]; simp, by simp [pgIn]⟩
      · have := runs_ok g x (a, (x : Int) - 1) (by rw [e1]; simp)
        refine ⟨(a, (x : Int)), by rw [e]; simp, ?_⟩
        simp only [pgIn, Bool.and_eq_true, decide_eq_true_eq]
        simp only at this
        omega
    · obtain ⟨r, hr, hp⟩ := ih (by omega) hgx
      rcases runs_cases g h with ⟨hg, e⟩ | ⟨hg, e⟩ | ⟨hg, i, a, e1, e⟩
      · exact ⟨r, by rw [e]; exact hr, hp⟩
      · exact ⟨r, by rw [e]; exact List.mem_append_left _ hr, hp⟩
      · rw [e1, List.mem_append] at hr
        rcases hr with hr | hr
        · exact ⟨r, by rw [e]; exact List.mem_append_left _ hr, hp⟩
        · have : r = (a, (h : Int) - 1) := by simpa using hr
          subst this
          refine ⟨(a, (h : Int)), by rw [e]; simp, ?_⟩
          simp only [pgIn, Bool.and_eq_true, decide_eq_true_eq] at hp ⊢
          omega
/-- the hours in spans, together -/
def lenS (l : Bx) : Int := (l.map fun r => r.2 - r.1 + 1).sum
theorem lenS_app (l : Bx) (x : Int × Int) : lenS (l ++ [x]) = lenS l + (x.2 - x.1 + 1) := by simp [lenS]
def sumH (f : Nat → Int) : Nat → Int
  | 0 => 0
  | h + 1 => sumH f h + f h
theorem sumH_add (f g : Nat → Int) : ∀ n, sumH (fun h => f h + g h) n = sumH f n + sumH g n
  | 0 => rfl
  | n + 1 => by
    have := sumH_add f g n
    show sumH (fun h => f h + g h) n + (f n + g n) = sumH f n + f n + (sumH g n + g n)
    omega
theorem sumH_congr {f g : Nat → Int} : ∀ n, (∀ h, h < n → f h = g h) → sumH f n = sumH g n
  | 0, _ => rfl
  | n + 1, h => by
    show sumH f n + f n = sumH g n + g n
    rw [sumH_congr n fun k hk => h k (by omega), h n (by omega)]
theorem sumH_one : ∀ n : Nat, sumH (fun _ => 1) n = n
  | 0 => rfl
  | n + 1 => by
    show sumH (fun _ => 1) n + 1 = _
    rw [sumH_one n]; omega
theorem sumH_zero : ∀ n : Nat, sumH (fun _ => 0) n = 0
  | 0 => rfl
  | n + 1 => by
    show sumH (fun _ => 0) n + 0 = _
    rw [sumH_zero n]; omega
def b01 (b : Bool) : Int := if b = true then 1 else 0
theorem runs_sum (g : Nat → Bool) : ∀ h, lenS (runs g h) = sumH (fun x => b01 (g x)) h
  | 0 => rfl
  | h + 1 => by
    have ih := runs_sum g h
    show _ = sumH (fun x => b01 (g x)) h + b01 (g h)
    rcases runs_cases g h with ⟨hg, e⟩ | ⟨hg, e⟩ | ⟨hg, i, a, e1, e⟩
    · rw [e, ih, hg]; simp [b01]
    · rw [e, lenS_app, ih, hg]; simp [b01]
    · rw [e1, lenS_app] at ih
      rw [e, lenS_app, hg, ← ih]; simp only [b01, if_true]; omega
/-- partial sums of lengths are small -/
theorem runs_none (g : Nat → Bool) (h : Nat) : runs g h = [] ↔ ∀ x, x < h → g x = false := by
  constructor
  · intro he x hx
    cases hg : g x with
    | false => rfl
    | true =>
      obtain ⟨r, hr, _⟩ := runs_has g h x hx hg
      rw [he] at hr; simp at hr
  · intro hn
    cases hl : runs g h with
    | nil => rfl
    | cons r l =>
      obtain ⟨a1, a2, a3, a4⟩ := runs_ok g h r (by rw [hl]; simp)
      have h1 := a4 r.1.toNat (by omega) (by omega)
      rw [hn _ (by omega)] at h1; cases h1

/-! ### boxes of one side -/
def bl (l : Bx) : List Bx := l.map fun p => [p]
theorem bl_len (l : Bx) : (bl l).length = l.length := by simp [bl]
theorem inL_one (h : Int) (p : Int × Int) : inL [h] [p] = pgIn h p := by
  have : inL [h] [p] = (inD [h] [p] 0 && true) := by simp [inL, List.range_succ]
  rw [this, Bool.and_true]
  rfl
theorem vol_one (p : Int × Int) (h : p.1 ≤ p.2) : vol [p] = p.2 - p.1 + 1 := by
  have : vol [p] = wid p * vol [] := rfl
  rw [this]
  unfold wid
  rw [if_neg (by omega)]
  show (p.2 - p.1 + 1) * 1 = _
  omega
theorem sum_in (a b : Int) (ha : 0 ≤ a) (hab : a ≤ b) : ∀ n : Nat, sumH (fun h => b01 (pgIn h (a, b))) n = if (n : Int) ≤ a then 0 else if (n : Int) ≤ b + 1 then n - a else b - a + 1
  | 0 => by rw [if_pos (by omega)]; rfl
  | n + 1 => by
    have ih := sum_in a b ha hab n
    show sumH (fun h => b01 (pgIn h (a, b))) n + b01 (pgIn n (a, b)) = _
    rw [ih]
    unfold b01 pgIn
    simp only [Bool.and_eq_true, decide_eq_true_eq]
    push_cast
    repeat' split
    all_goals omega
theorem vol_sum (H : Nat) (a b : Int) (ha : 0 ≤ a) (hab : a ≤ b) (hb : b < H) : vol [(a, b)] = sumH (fun h => b01 (pgIn h (a, b))) H := by
  rw [vol_one _ hab, sum_in a b ha hab]
  repeat' split
  all_goals first | omega | (simp only at *; omega) | (simp at *; done)
theorem sumW_sum (H : Nat) : ∀ L : List Bx, (∀ y ∈ L, ∃ a b : Int, y = [(a, b)] ∧ 0 ≤ a ∧ a ≤ b ∧ b < H) → sumW L = sumH (fun h => ((L.countP (inL [(h : Int)]) : Nat) : Int)) H
  | [], _ => by
    have : sumH (fun h => ((([] : List Bx).countP (inL [(h : Int)]) : Nat) : Int)) H = sumH (fun _ => 0) H := sumH_congr H fun h _ => by simp
    rw [this, sumH_zero]; simp [sumW]
  | y :: L, hL => by
    have ih := sumW_sum H L fun z hz => hL z (List.mem_cons_of_mem _ hz)
    obtain ⟨a, b, rfl, h1, h2, h3⟩ := hL y (List.mem_cons_self ..)
    have e : sumW ([(a, b)] :: L) = vol [(a, b)] + sumW L := by simp [sumW]
    rw [e, ih, vol_sum H a b h1 h2 h3, ← sumH_add]
    refine sumH_congr H fun h _ => ?_
    simp only [List.countP_cons, inL_one, b01]
    by_cases q : pgIn h (a, b) = true
    · rw [if_pos q, if_pos q]; omega
    · rw [if_neg q, if_neg q]; omega
theorem okB_one {p : Int × Int} (h : okS p = true) : OkB [p] := by
  simp only [okS, Bool.and_eq_true, decide_eq_true_eq] at h
  refine ⟨by simp, by simp, fun k hk => ?_, fun k hk => ?_, fun k hk => ?_⟩
  all_goals
    obtain rfl : k = 0 := by simp at hk; omega
    simp [lo, hi]; omega
theorem left_within (H : Nat) (p : Int × Int) (hp : pgOk H p) (R : Bx) (hR : ∀ q ∈ R, pgOk H q) : ∀ y ∈ leftR (bl R) [p], ∃ a b : Int, y = [(a, b)] ∧ 0 ≤ a ∧ a ≤ b ∧ b < H := by
  intro y hy
  have hx : OkB [p] ∧ [p].length = 1 := ⟨okB_one hp.1, rfl⟩
  have hR' : ∀ b ∈ bl R, OkB b ∧ b.length = 1 := fun b hb => by
    obtain ⟨q, hq, rfl⟩ := List.mem_map.1 hb
    exact ⟨okB_one (hR q hq).1, rfl⟩
  have hl := leftR_len (bl R) [p] rfl y hy
  have ho := leftR_ok (bl R) [p] hx.1 y hy
  obtain ⟨⟨a, b⟩, rfl⟩ : ∃ q, y = [q] := by
    match y, hl with
    | [q], _ => exact ⟨q, rfl⟩
  have hab : a ≤ b := by have := ho.le 0 (by simp); simpa [lo, hi] using this
  have h1 := (left_in hx hR' hy (p := [a]) (by rw [inL_one]; simp [pgIn, hab])).1
  have h2 := (left_in hx hR' hy (p := [b]) (by rw [inL_one]; simp [pgIn, hab])).1
  rw [inL_one] at h1 h2
  simp only [pgIn, Bool.and_eq_true, decide_eq_true_eq] at h1 h2
  obtain ⟨_, q1, q2, q3⟩ := hp
  exact ⟨a, b, rfl, by omega, hab, by omega⟩
theorem left_sum (H : Nat) (p : Int × Int) (hp : pgOk H p) (R : Bx) (hR : ∀ q ∈ R, pgOk H q) : sumW (leftR (bl R) [p]) = sumH (fun h => b01 (pgIn h p && R.all fun q => !pgIn h q)) H := by
  have hx : OkB [p] ∧ [p].length = 1 := ⟨okB_one hp.1, rfl⟩
  have hR' : ∀ b ∈ bl R, OkB b ∧ b.length = 1 := fun b hb => by
    obtain ⟨q, hq, rfl⟩ := List.mem_map.1 hb
    exact ⟨okB_one (hR q hq).1, rfl⟩
  rw [sumW_sum H _ (left_within H p hp R hR)]
  refine sumH_congr H fun h _ => ?_
  rw [left_count [(h : Int)] [p] hx (bl R) hR', inL_one]
  have e : (bl R).all (fun b => !inL [(h : Int)] b) = R.all fun q => !pgIn h q := by
    unfold bl
    rw [List.all_map]
    congr 1
    funext q
    show (!inL [(h : Int)] [q]) = _
    rw [inL_one]
  rw [e]
  unfold b01
  cases pgIn h p <;> cases R.all (fun q => !pgIn h q) <;> simp
theorem any_snoc (l : Bx) (i : Nat) (h : i < l.length) (f : Int × Int → Bool) : (l.take (i + 1)).any f = ((l.take i).any f || f l[i]) := by
  rw [← List.take_append_getElem h, List.any_append]; simp
theorem cnt_sum (H : Nat) (l : Bx) (hl : ∀ q ∈ l, pgOk H q) : ∀ i, i ≤ l.length → cnt (bl l) i = sumH (fun h => b01 ((l.take i).any (pgIn h))) H
  | 0, _ => by
    have : sumH (fun h => b01 ((l.take 0).any (pgIn h))) H = sumH (fun _ => 0) H := sumH_congr H fun h _ => by simp [b01]
    rw [this, sumH_zero]; rfl
  | i + 1, hi => by
    have ih := cnt_sum H l hl i (by omega)
    have hlt : i < l.length := by omega
    show cnt (bl l) i + sumW (leftR ((bl l).take i).reverse ((bl l)[i]?.getD [])) = _
    have e1 : ((bl l).take i).reverse = bl (l.take i).reverse := by simp [bl]
    have e2 : (bl l)[i]?.getD [] = [l[i]] := by simp [bl, hlt]
    rw [e1, e2, ih, left_sum H l[i] (hl _ (List.getElem_mem hlt)) _ (fun q hq => hl q (List.mem_of_mem_take (List.mem_reverse.1 hq))), ← sumH_add]
    refine sumH_congr H fun h _ => ?_
    rw [any_snoc l i hlt, List.all_reverse]
    have e3 : (l.take i).all (fun q => !pgIn h q) = !(l.take i).any (pgIn h) := by induction l.take i with
      | nil => rfl
      | cons q L ih => simp only [List.all_cons, List.any_cons, ih]; cases pgIn h q <;> rfl
    rw [e3]
    unfold b01
    cases pgIn h l[i] <;> cases (l.take i).any (pgIn h) <;> simp
/-- the gaps of pages -/
def gapsL (H : Nat) (l : Bx) : Bx := runs (fun h => decide (psum (chg H l) (h + 1) = 0)) H
theorem gap_at (H : Nat) (l : Bx) (hl : ∀ q ∈ l, pgOk H q) (h : Nat) : decide (psum (chg H l) (h + 1) = 0) = !l.any (pgIn h) := by
  rw [psum_chg H l hl h]
  unfold pgN
  cases ha : l.any (pgIn (h : Int)) with
  | true =>
    obtain ⟨q, hq, hp⟩ := List.any_eq_true.1 ha
    have : 0 < l.countP (pgIn h) := List.countP_pos_iff.2 ⟨q, hq, hp⟩
    exact decide_eq_false (by omega)
  | false =>
    have : l.countP (pgIn h) = 0 := by
      rw [List.countP_eq_zero]
      intro q hq hp
      have : l.any (pgIn (h : Int)) = true := List.any_eq_true.2 ⟨q, hq, hp⟩
      rw [ha] at this; cases this
    exact decide_eq_true (by omega)
theorem pages_count (H : Nat) (l : Bx) (hl : ∀ q ∈ l, pgOk H q) : cnt (bl l) (bl l).length + lenS (gapsL H l) = H := by
  unfold gapsL
  rw [bl_len, cnt_sum H l hl l.length (Nat.le_refl _), runs_sum, ← sumH_add, ← sumH_one H]
  refine sumH_congr H fun h _ => ?_
  show b01 _ + b01 _ = 1
  rw [gap_at H l hl h, List.take_length]
  cases l.any (pgIn (h : Int)) <;> rfl
theorem pages_covers (H : Nat) (hH : 1 ≤ H) (hH2 : H ≤ 100000) (l : Bx) (hl : ∀ q ∈ l, pgOk H q) : leftR (bl l).reverse [(0, (H : Int) - 1)] = [] ↔ gapsL H l = [] := by
  have hp : pgOk H (0, (H : Int) - 1) := ⟨by simp [okS]; omega, by simp, by simp; omega, by simp⟩
  have e1 : (bl l).reverse = bl l.reverse := by simp [bl]
  have hl' : ∀ q ∈ l.reverse, pgOk H q := fun q hq => hl q (List.mem_reverse.1 hq)
  have hx : OkB [((0 : Int), (H : Int) - 1)] ∧ [((0 : Int), (H : Int) - 1)].length = 1 := ⟨okB_one hp.1, rfl⟩
  have hR' : ∀ b ∈ bl l.reverse, OkB b ∧ b.length = 1 := fun b hb => by
    obtain ⟨q, hq, rfl⟩ := List.mem_map.1 hb
    exact ⟨okB_one (hl' q hq).1, rfl⟩
  unfold gapsL
  rw [e1, runs_none]
  constructor
  · intro he h hh
    rw [gap_at H l hl h]
    cases ha : l.any (pgIn (h : Int)) with
    | true => rfl
    | false =>
      obtain ⟨y, hy, _⟩ := left_of hx hR' (p := [(h : Int)]) (by rw [inL_one]; simp [pgIn]; omega) (fun b hb => by
        obtain ⟨q, hq, rfl⟩ := List.mem_map.1 hb
        rw [inL_one]
        have := List.any_eq_false.1 ha q (List.mem_reverse.1 hq)
        simpa using this)
      rw [he] at hy; simp at hy
  · intro hn
    cases hL : leftR (bl l.reverse) [((0 : Int), (H : Int) - 1)] with
    | nil => rfl
    | cons y L =>
      have hy : y ∈ leftR (bl l.reverse) [((0 : Int), (H : Int) - 1)] := by rw [hL]; simp
      obtain ⟨a, b, rfl, h1, h2, h3⟩ := left_within H _ hp _ hl' y hy
      have h4 := left_in hx hR' hy (p := [a]) (by rw [inL_one]; simp [pgIn, h2])
      have h5 := hn a.toNat (by omega)
      rw [gap_at H l hl] at h5
      have h6 : l.any (pgIn ((a.toNat : Nat) : Int)) = true := by
        cases hq : l.any (pgIn ((a.toNat : Nat) : Int)) with
        | true => rfl
        | false => rw [hq] at h5; cases h5
      obtain ⟨q, hq, hq2⟩ := List.any_eq_true.1 h6
      have h7 := h4.2 [q] (List.mem_map.2 ⟨q, List.mem_reverse.2 hq, rfl⟩)
      rw [inL_one, show a = ((a.toNat : Nat) : Int) by omega, hq2] at h7
      cases h7
theorem gaps_ok (H : Nat) (hH2 : H ≤ 100000) (l : Bx) : ∀ r ∈ gapsL H l, pgOk H r := fun r hr => by
  obtain ⟨a1, a2, a3, _⟩ := runs_ok _ H r hr
  exact ⟨by simp [okS]; omega, a1, a2, by omega⟩
/-- with the gaps as further pages there are none -/
theorem gaps_full (H : Nat) (hH2 : H ≤ 100000) (l : Bx) (hl : ∀ q ∈ l, pgOk H q) : gapsL H (l ++ gapsL H l) = [] := by
  have hall : ∀ q ∈ l ++ gapsL H l, pgOk H q := fun q hq => by
    rcases List.mem_append.1 hq with hq | hq
    · exact hl q hq
    · exact gaps_ok H hH2 l q hq
  show runs _ H = []
  rw [runs_none]
  intro h hh
  rw [gap_at H _ hall h, List.any_append]
  cases ha : l.any (pgIn (h : Int)) with
  | true => rfl
  | false =>
    obtain ⟨r, hr, hp⟩ := runs_has (fun h => decide (psum (chg H l) (h + 1) = 0)) H h hh (by rw [gap_at H l hl h, ha]; rfl)
    have : (gapsL H l).any (pgIn (h : Int)) = true := List.any_eq_true.2 ⟨r, hr, hp⟩
    rw [this]; rfl
theorem lenS_nn : ∀ l : Bx, (∀ r ∈ l, r.1 ≤ r.2) → 0 ≤ lenS l
  | [], _ => by simp [lenS]
  | r :: l, h => by
    have h1 := lenS_nn l fun q hq => h q (List.mem_cons_of_mem _ hq)
    have h2 := h r (List.mem_cons_self ..)
    have e : lenS (r :: l) = r.2 - r.1 + 1 + lenS l := by simp [lenS]
    omega
theorem lenS_cat (a b : Bx) : lenS (a ++ b) = lenS a + lenS b := by simp [lenS]
theorem lenS_take (l : Bx) (h : ∀ r ∈ l, r.1 ≤ r.2) (k : Nat) : 0 ≤ lenS (l.take k) ∧ lenS (l.take k) ≤ lenS l := by
  have e := lenS_cat (l.take k) (l.drop k)
  rw [List.take_append_drop] at e
  have h1 := lenS_nn (l.take k) fun r hr => h r (List.mem_of_mem_take hr)
  have h2 := lenS_nn (l.drop k) fun r hr => h r (List.mem_of_mem_drop hr)
  omega
theorem lenS_at (l : Bx) (k : Nat) (h : k < l.length) : lenS (l.take (k + 1)) = lenS (l.take k) + (hi l k - lo l k + 1) := by
  rw [← List.take_append_getElem h, lenS_app]
  simp [lo, hi, h]
theorem pages_small (H : Nat) (l : Bx) (hl : ∀ q ∈ l, pgOk H q) : 0 ≤ cnt (bl l) (bl l).length ∧ 0 ≤ lenS (gapsL H l) ∧ cnt (bl l) (bl l).length ≤ H ∧ lenS (gapsL H l) ≤ H := by
  have h1 := pages_count H l hl
  have h2 := cnt_nn (bl l) (bl l).length
  have h3 := lenS_nn (gapsL H l) fun r hr => (runs_ok _ H r hr).2.1
  omega
end Go.Proofs.Ytgibbaadjbohdaa
/- A recorder's layout, its frames and samples, in numbers. No conditions. -/
namespace Go.Proofs.Ytgibbaadjbohdaa
open Go.RowKit Lift

/-- a field -/
structure Fl where
  word : Int
  bit : Int
  size : Int
  sgn : Bool
  num : Int
  den : Int
  add : Int
  every : Int
  phase : Int
/-- a layout -/
structure Lay where
  words : Int
  s0 : Int
  s1 : Int
  s2 : Int
  s3 : Int
  fl : List Fl
def fl0 : Fl := ⟨0, 0, 0, false, 0, 0, 0, 0, 0⟩
def sync (l : Lay) : List Int := [l.s0, l.s1, l.s2, l.s3]

/-- a valid field in frames of so many words -/
structure FOk (w : Int) (f : Fl) : Prop where
  w1 : 1 ≤ f.word
  w2 : f.word ≤ w - 1
  b1 : 0 ≤ f.bit
  s1 : 1 ≤ f.size
  bs : f.bit + f.size ≤ 12
  n1 : -1000 ≤ f.num
  n2 : f.num ≤ 1000
  d1 : 1 ≤ f.den
  d2 : f.den ≤ 1000
  a1 : -1000000 ≤ f.add
  a2 : f.add ≤ 1000000
  ev : f.every = 1 ∨ f.every = 2 ∨ f.every = 4
  p1 : 0 ≤ f.phase
  p2 : f.phase ≤ f.every - 1
/-- recorded in a subframe -/
def inSub (f : Fl) (s : Int) : Prop := s.tmod f.every = f.phase
instance (f : Fl) (s : Int) : Decidable (inSub f s) := inferInstanceAs (Decidable (_ = _))
/-- the same word, and a bit in common -/
def Ovl (f g : Fl) : Prop := f.word = g.word ∧ f.bit < g.bit + g.size ∧ g.bit < f.bit + f.size
structure LayOk (l : Lay) : Prop where
  w1 : 2 ≤ l.words
  w2 : l.words ≤ 32
  nf : l.fl.length ≤ 16
  sy : ∀ k, k < 4 → 0 ≤ (sync l)[k]?.getD 0 ∧ (sync l)[k]?.getD 0 ≤ 4095
  sd : ∀ i, i < 4 → ∀ k, k < i → (sync l)[i]?.getD 0 ≠ (sync l)[k]?.getD 0
  fo : ∀ k, k < l.fl.length → FOk l.words (l.fl[k]?.getD fl0)
  ov : ∀ i, i < l.fl.length → ∀ k, k < i → ∀ s : Nat, s < 4 → inSub (l.fl[i]?.getD fl0) s → inSub (l.fl[k]?.getD fl0) s → ¬ Ovl (l.fl[i]?.getD fl0) (l.fl[k]?.getD fl0)
/-- the raw number in a word -/
def rawU (f : Fl) (w : Nat) : Nat := w / 2 ^ f.bit.toNat % 2 ^ f.size.toNat
def rawI (f : Fl) (w : Nat) : Int := if f.sgn = true ∧ 2 ^ (f.size.toNat - 1) ≤ rawU f w then (rawU f w : Int) - 2 ^ f.size.toNat else rawU f w
def valI (f : Fl) (r : Int) : Int := f.add * f.den + r * f.num
/-- a word of a good frame -/
def wOk (x : Int) : Bool := decide (0 ≤ x) && decide (x ≤ 4095)
def frOk (l : Lay) (fr : List Int) : Prop := (fr.length : Int) = l.words ∧ fr.all wOk = true
instance (l : Lay) (fr : List Int) : Decidable (frOk l fr) := inferInstanceAs (Decidable (_ ∧ _))
def idx4 (l : Lay) (x : Int) : Int := if x = l.s0 then 0 else if x = l.s1 then 1 else if x = l.s2 then 2 else if x = l.s3 then 3 else -1
/-- the subframe of a frame -/
def subF (l : Lay) (fr : List Int) : Int := if frOk l fr then idx4 l (fr[0]?.getD 0) else -1
/-- the sample of a field in a frame -/
def smp (l : Lay) (f : Fl) (fr : List Int) : Option Int := if 0 ≤ subF l fr ∧ inSub f (subF l fr) then some (valI f (rawI f (fr[f.word.toNat]?.getD 0).toNat)) else none
def frm (frs : List (List Int)) (k : Nat) : List Int := frs[k]?.getD []
end Go.Proofs.Ytgibbaadjbohdaa
/- Conditions and events over frames, in numbers. No conditions. -/
namespace Go.Proofs.Ytgibbaadjbohdaa
open Go.RowKit Lift

/-- a condition -/
structure Cd where
  field : Int
  lim : Int
  above : Bool
def cndV (c : Cd) (f : Fl) (v : Int) : Bool := if c.above = true then decide (v ≥ c.lim * f.den) else decide (v ≤ c.lim * f.den)

section
variable (l : Lay) (frs : List (List Int)) (c : Cd) (f : Fl)
/-- whether the condition holds in frame j, by the samples of the first frames -/
def hAt : Nat → Nat → Bool
  | 0, _ => false
  | k + 1, j => match smp l f (frm frs k) with
    | some v => if k ≤ j ∧ (j : Int) < k + f.every then cndV c f v else hAt k j
    | none => hAt k j
variable {l frs c f}
variable (l frs c f)
variable {l frs c f}
variable (l frs c f)
def hL (n k : Nat) : List Bool := (List.range n).map fun j => hAt l frs c f k j
end
/-! ### events -/
section
variable (is : Nat → Bool) (H : Int)
/-! ### what is found -/
end
end Go.Proofs.Ytgibbaadjbohdaa
/- Lists of numbers and truth values in memory. No conditions. -/
namespace Go.Proofs.Ytgibbaadjbohdaa
open Go.RowKit Lift

theorem ic_gd (l : List Int) (k : Nat) (h : k < l.length) : (icells l)[k]? = some (.val (.int .i64 (l[k]?.getD 0))) := by simp [icells, h]
theorem ic_t (l : List Int) (k : Nat) (v : Int) (h : k < l.length) : (icells l).take k ++ [.val (.int .i64 v)] ++ (icells l).drop (k + 1) = icells (l.set k v) := by
  unfold icells
  rw [List.map_set, ← List.map_take, ← List.map_drop, List.set_eq_take_append_cons_drop, if_pos (by simpa using h)]
  simp
theorem rep_ic (n : Nat) : (List.replicate n [D.val (.int .i64 0)]).flatten = icells (List.replicate n 0) := by
  induction n with
  | zero => rfl
  | succ n ih => simp only [List.replicate_succ, List.flatten_cons, ih]; rfl
end Go.Proofs.Ytgibbaadjbohdaa
/- What comes behind a region, hidden while the region is walked. No conditions. -/
namespace Go.Proofs.Ytgibbaadjbohdaa.Lift
open Go Go.RowKit

theorem aw_hide {rd : Rd} {P : Program} {n : Nat} {pre : List Nat} {Q : AExit → St → Prop} {s : St} {x : ACode} (h : ∀ K : AExit → St → Prop, K = Q → AWb rd P n pre x K s) : AWb rd P n pre x Q s := h Q rfl
section
variable {K : St → Prop} {Q : AExit → St → Prop} {s : St}
theorem thenQ_n (h : K s) : thenQ K Q .norm s := h
theorem thenQ_e {i : Nat} (h : Q (.ex i) s) : thenQ K Q (.ex i) s := h
theorem blockQ_n {id : Nat} (h : Q .norm s) : blockQ id Q .norm s := h
theorem blockQ_t {id : Nat} (h : Q .norm s) : blockQ id Q (.ex id) s := by simp only [blockQ, if_true]; exact h
theorem blockQ_f {id i : Nat} (hn : i ≠ id) (h : Q (.ex i) s) : blockQ id Q (.ex i) s := by simp only [blockQ]; rw [if_neg hn]; exact h
end
end Go.Proofs.Ytgibbaadjbohdaa.Lift
/- Calls that change objects, checked by computing. No conditions. -/
namespace Go.Proofs.Ytgibbaadjbohdaa.Lift
open Go Go.RowKit

theorem aw_condT {rd : Rd} {P : Program} {n : Nat} {pre : List Nat} {Q : AExit → St → Prop} {s : St} {c : Operand} {x y : ACode} (hb : s.F.ev c = .val (.bool true)) (h : AWb rd P n pre x Q s) : AWb rd P n pre (.cond c x y) Q s := aw_cond hb (fun _ => h) (fun h => nomatch h)
theorem aw_condF {rd : Rd} {P : Program} {n : Nat} {pre : List Nat} {Q : AExit → St → Prop} {s : St} {c : Operand} {x y : ACode} (hb : s.F.ev c = .val (.bool false)) (h : AWb rd P n pre y Q s) : AWb rd P n pre (.cond c x y) Q s := aw_cond hb (fun h => nomatch h) (fun _ => h)
def HasAll (hp : Hp) : Hp → Prop
  | [] => True
  | x :: l => hget hp x.1 = some x.2 ∧ HasAll hp l
theorem HasAll.get {hp : Hp} : ∀ {h : Hp}, HasAll hp h → ∀ x ∈ h, hget hp x.1 = some x.2
  | [], _, x, hx => by simp at hx
  | y :: l, h, x, hx => by
    rcases List.mem_cons.1 hx with rfl | hx
    · exact h.1
    · exact HasAll.get h.2 x hx
theorem vr_valq {H : Heap} {V : List Nat} {m : List (Nat × Nat)} {v v' : Value} (h : v = v') : VR H V m (.val v) (.val v') := h ▸ vr_val v
theorem vr_listq {H : Heap} {V : List Nat} {m : List (Nat × Nat)} {l l' : List (List D)} (h : l = l') : VR H V m (.list l) (.list l') := h ▸ vr_list l
section
variable {P : Program} {dr : Bool} {b : Nat} {Q : St → Prop} {dst : Option Nat} {anc : List Nat} {l : List AOper} {k : Nat} {s : St} {log : Lg}
end
end Go.Proofs.Ytgibbaadjbohdaa.Lift
/- The functions' bodies, translated. Written by a program; no conditions. -/
namespace Go.Proofs.Ytgibbaadjbohdaa
open Go.RowKit Lift

/-- parts_covered -/
def cparts_covered : ACode :=
  (.seq
   (.region false [⟨some 6, .mv (.const (.slice none 0 0)), none, []⟩,
     ⟨some 7, .mv (.const (.int .i64 0)), none, []⟩] [])
  (.seq
   (.seq
    (.region false [⟨some 14, .mv (.tmp 0), none, []⟩,
      ⟨some 15, .call (.func 76) [(.tmp 14), (.const (.int .i64 0)), (.const (.int .i64 100000))], none, []⟩,
      ⟨some 16, .un .not (.tmp 15), none, []⟩] [14, 15])
   (.cond (.tmp 16)
     (.seq
      (.region false [⟨some 6, .mv (.const (.slice none 0 0)), none, []⟩,
        ⟨some 7, .mv (.const (.int .i64 1)), none, []⟩] [])
     .ret)
     .skip))
  (.seq
   (.seq
    (.region false [⟨some 17, .mv (.tmp 1), none, []⟩,
      ⟨some 18, .len_ (.tmp 17), none, []⟩,
      ⟨some 19, .bin .gtr (.tmp 18) (.const (.int .i64 20)), none, []⟩] [17, 18])
   (.cond (.tmp 19)
     (.seq
      (.region false [⟨some 6, .mv (.const (.slice none 0 0)), none, []⟩,
        ⟨some 7, .mv (.const (.int .i64 2)), none, []⟩] [])
     .ret)
     .skip))
  (.seq
   (.region false [⟨some 20, .mv (.tmp 0), none, []⟩,
     ⟨some 21, .bin .add (.tmp 20) (.const (.int .i64 1)), none, []⟩,
     ⟨some 22, .mksl 1 8 [(.val (.int .i64 0))] (.tmp 21) (.tmp 21), none, []⟩,
     ⟨some 8, .mv (.tmp 22), none, []⟩] [20, 21, 22])
  (.seq
   (.seq
    (.region false [⟨some 23, .mv (.tmp 1), none, []⟩,
      ⟨some 24, .len_ (.tmp 23), none, []⟩,
      ⟨some 25, .mv (.const (.int .i64 0)), none, []⟩] [])
   (.block 0
     (.loop
       (.seq
        (.region false [⟨some 26, .bin .lss (.tmp 25) (.tmp 24), none, []⟩] [])
       (.seq
        (.cond (.tmp 26)
          .skip
          (.exit 0))
       (.seq
        (.block 1
          (.seq
           (.region false [⟨some 27, .iadS 2 (.tmp 23) (.tmp 25), none, []⟩,
             ⟨some 28, .loadN 2 (.tmp 27), none, []⟩,
             ⟨some 10, .mem [(.val (.int .i64 0)), (.val (.int .i64 0))], none, []⟩,
             ⟨none, .store 2 (.tmp 10) (.tmp 28), none, []⟩] [27, 28])
          (.seq
           (.seq
            (.region false [⟨some 29, .loadN 2 (.tmp 10), none, []⟩,
              ⟨some 30, .buildSl 2 1 [(.val (.int .i64 0)), (.val (.int .i64 0))] [(0, 2, (.tmp 29))], none, []⟩,
              ⟨some 31, .call (.func 77) [(.tmp 30)], none, []⟩,
              ⟨some 32, .bin .neq (.tmp 31) (.const (.int .i64 0)), none, []⟩,
              ⟨some 33, .mv (.tmp 32), none, []⟩,
              ⟨some 34, .fad 0 (.tmp 10), (some (some 33, false)), []⟩,
              ⟨some 35, .load1 (.tmp 34), (some (some 33, false)), []⟩,
              ⟨some 36, .bin .lss (.tmp 35) (.const (.int .i64 0)), (some (some 33, false)), []⟩,
              ⟨some 37, .pick (.tmp 33) (.const (.bool true)) (.tmp 36), none, []⟩,
              ⟨some 38, .mv (.tmp 37), none, []⟩,
              ⟨some 39, .fad 1 (.tmp 10), (some (some 38, false)), []⟩,
              ⟨some 40, .load1 (.tmp 39), (some (some 38, false)), []⟩,
              ⟨some 41, .mv (.tmp 0), (some (some 38, false)), []⟩,
              ⟨some 42, .bin .sub (.tmp 41) (.const (.int .i64 1)), (some (some 38, false)), []⟩,
              ⟨some 43, .bin .gtr (.tmp 40) (.tmp 42), (some (some 38, false)), []⟩,
              ⟨some 44, .pick (.tmp 38) (.const (.bool true)) (.tmp 43), none, []⟩] [29, 30, 31, 32, 33, 34, 35, 36, 37, 38, 39, 40, 41, 42, 43])
           (.cond (.tmp 44)
             (.seq
              (.region false [⟨some 6, .mv (.const (.slice none 0 0)), none, []⟩,
                ⟨some 7, .mv (.const (.int .i64 10)), none, []⟩] [])
             .ret)
             .skip))
          (.seq
           (.region false [⟨some 45, .mv (.tmp 8), none, []⟩,
             ⟨some 46, .fad 0 (.tmp 10), none, []⟩,
             ⟨some 47, .load1 (.tmp 46), none, []⟩,
             ⟨some 48, .iadS 1 (.tmp 45) (.tmp 47), none, []⟩,
             ⟨some 49, .load1 (.tmp 48), none, []⟩,
             ⟨some 50, .bin .add (.tmp 49) (.const (.int .i64 1)), none, []⟩,
             ⟨some 51, .iadS 1 (.tmp 45) (.tmp 47), none, []⟩,
             ⟨none, .store 1 (.tmp 51) (.tmp 50), none, []⟩] [45, 46, 47, 48, 49, 50, 51])
          (.region false [⟨some 52, .mv (.tmp 8), none, []⟩,
            ⟨some 53, .fad 1 (.tmp 10), none, []⟩,
            ⟨some 54, .load1 (.tmp 53), none, []⟩,
            ⟨some 55, .bin .add (.tmp 54) (.const (.int .i64 1)), none, []⟩,
            ⟨some 56, .iadS 1 (.tmp 52) (.tmp 55), none, []⟩,
            ⟨some 57, .load1 (.tmp 56), none, []⟩,
            ⟨some 58, .bin .sub (.tmp 57) (.const (.int .i64 1)), none, []⟩,
            ⟨some 59, .iadS 1 (.tmp 52) (.tmp 55), none, []⟩,
            ⟨none, .store 1 (.tmp 59) (.tmp 58), none, []⟩] [52, 53, 54, 55, 56, 57, 58, 59])))))
       (.region false [⟨some 60, .bin .add (.tmp 25) (.const (.int .i64 1)), none, []⟩,
         ⟨some 25, .mv (.tmp 60), none, []⟩] [60])))))))
  (.seq
   (.region false [⟨some 11, .mv (.const (.int .i64 0)), none, []⟩] [])
  (.seq
   (.seq
    (.region false [⟨some 61, .mv (.tmp 0), none, []⟩,
      ⟨some 62, .mv (.const (.int .i64 0)), none, []⟩] [])
   (.block 2
     (.loop
       (.seq
        (.region false [⟨some 63, .bin .lss (.tmp 62) (.tmp 61), none, []⟩] [])
       (.seq
        (.cond (.tmp 63)
          .skip
          (.exit 2))
       (.seq
        (.block 3
          (.seq
           (.region false [⟨some 64, .mv (.tmp 62), none, []⟩,
             ⟨some 12, .mv (.tmp 64), none, []⟩] [64])
          (.seq
           (.region false [⟨some 65, .mv (.tmp 11), none, []⟩,
             ⟨some 66, .mv (.tmp 8), none, []⟩,
             ⟨some 67, .mv (.tmp 12), none, []⟩,
             ⟨some 68, .iadS 1 (.tmp 66) (.tmp 67), none, []⟩,
             ⟨some 69, .load1 (.tmp 68), none, []⟩,
             ⟨some 70, .bin .add (.tmp 65) (.tmp 69), none, []⟩,
             ⟨some 11, .mv (.tmp 70), none, []⟩] [65, 66, 67, 68, 69, 70])
          (.seq
           (.region false [⟨some 71, .mv (.tmp 6), none, []⟩,
             ⟨some 72, .len_ (.tmp 71), none, []⟩,
             ⟨some 13, .mv (.tmp 72), none, []⟩] [71, 72])
          (.block 4
            (.seq
             (.region false [⟨some 80, .mv (.tmp 2), none, []⟩,
               ⟨some 81, .mv (.tmp 11), none, []⟩,
               ⟨some 82, .call (.tmp 80) [(.tmp 81)], none, []⟩,
               ⟨some 83, .un .not (.tmp 82), none, []⟩,
               ⟨some 79, .mv (.tmp 83), none, []⟩] [80, 81, 82, 83])
            (.cond (.tmp 79)
              .skip
              (.seq
               (.region false [⟨some 85, .mv (.tmp 13), none, []⟩,
                 ⟨some 86, .bin .gtr (.tmp 85) (.const (.int .i64 0)), none, []⟩,
                 ⟨some 87, .mv (.tmp 86), none, []⟩,
                 ⟨some 88, .mv (.tmp 6), (some (some 87, true)), []⟩,
                 ⟨some 89, .mv (.tmp 13), (some (some 87, true)), []⟩,
                 ⟨some 90, .bin .sub (.tmp 89) (.const (.int .i64 1)), (some (some 87, true)), []⟩,
                 ⟨some 91, .iadS 2 (.tmp 88) (.tmp 90), (some (some 87, true)), []⟩,
                 ⟨some 92, .fad 1 (.tmp 91), (some (some 87, true)), []⟩,
                 ⟨some 93, .load1 (.tmp 92), (some (some 87, true)), []⟩,
                 ⟨some 94, .mv (.tmp 12), (some (some 87, true)), []⟩,
                 ⟨some 95, .bin .sub (.tmp 94) (.const (.int .i64 1)), (some (some 87, true)), []⟩,
                 ⟨some 96, .bin .eql (.tmp 93) (.tmp 95), (some (some 87, true)), []⟩,
                 ⟨some 97, .pick (.tmp 87) (.tmp 96) (.const (.bool false)), none, []⟩,
                 ⟨some 84, .mv (.tmp 97), none, []⟩] [85, 86, 87, 88, 89, 90, 91, 92, 93, 94, 95, 96, 97])
              (.cond (.tmp 84)
                (.region false [⟨some 98, .mv (.tmp 6), none, []⟩,
                  ⟨some 99, .mv (.tmp 13), none, []⟩,
                  ⟨some 100, .bin .sub (.tmp 99) (.const (.int .i64 1)), none, []⟩,
                  ⟨some 101, .mv (.tmp 12), none, []⟩,
                  ⟨some 102, .iadS 2 (.tmp 98) (.tmp 100), none, []⟩,
                  ⟨some 103, .fad 1 (.tmp 102), none, []⟩,
                  ⟨none, .store 1 (.tmp 103) (.tmp 101), none, []⟩] [98, 99, 100, 101, 102, 103])
                (.region false [⟨some 73, .mv (.tmp 6), none, []⟩,
                  ⟨some 74, .mv (.tmp 12), none, []⟩,
                  ⟨some 75, .mv (.tmp 12), none, []⟩,
                  ⟨some 76, .build [(.val (.int .i64 0)), (.val (.int .i64 0))] [(0, 1, (.tmp 74)), (1, 1, (.tmp 75))], none, []⟩,
                  ⟨some 77, .buildSl 2 1 [(.val (.int .i64 0)), (.val (.int .i64 0))] [(0, 2, (.tmp 76))], none, []⟩,
                  ⟨some 78, .app 2 16 (.tmp 73) (.tmp 77), none, []⟩,
                  ⟨some 6, .mv (.tmp 78), none, []⟩] [73, 74, 75, 76, 77, 78]))))))))))
       (.region false [⟨some 104, .bin .add (.tmp 62) (.const (.int .i64 1)), none, []⟩,
         ⟨some 62, .mv (.tmp 104), none, []⟩] [104])))))))
  (.seq
   (.region false [⟨some 105, .mv (.tmp 6), none, []⟩,
     ⟨some 6, .mv (.tmp 105), none, []⟩,
     ⟨some 7, .mv (.const (.int .i64 0)), none, []⟩] [105])
  .ret))))))))
set_option maxRecDepth 100000 in
theorem kparts_covered : IsCode Try.prog 37 106 cparts_covered [.tmp 6, .tmp 7] :=
  ⟨Try.f37, _, [84, 79, 63, 44, 26, 19, 16, 0, 1, 25, 24, 23, 10, 8, 62, 61, 11, 12, 6, 2, 13, 7], Try.func37, rfl, by decide, rfl, by kernel_rfl, by kernel_rfl⟩
/-- parts_Gaps -/
def cparts_Gaps : ACode :=
  (.seq
   (.region false [⟨some 4, .mv (.const (.slice none 0 0)), none, []⟩,
     ⟨some 5, .mv (.const (.int .i64 0)), none, []⟩] [])
  (.seq
   (.region false [⟨some 6, .mv (.tmp 0), none, []⟩,
     ⟨some 7, .mv (.tmp 1), none, []⟩,
     ⟨some 8, .call (.func 37) [(.tmp 6), (.tmp 7), (.func 38)], none, []⟩,
     ⟨some 9, .ext (.tmp 8) 0, none, []⟩,
     ⟨some 10, .ext (.tmp 8) 1, none, []⟩,
     ⟨some 4, .mv (.tmp 9), none, []⟩,
     ⟨some 5, .mv (.tmp 10), none, []⟩] [6, 7, 8, 9, 10])
  .ret))
set_option maxRecDepth 100000 in
theorem kparts_Gaps : IsCode Try.prog 14 11 cparts_Gaps [.tmp 4, .tmp 5] :=
  ⟨Try.f14, _, [0, 1, 4, 5], Try.func14, rfl, by decide, rfl, by kernel_rfl, by kernel_rfl⟩
/-- parts_Gaps_S1 -/
def cparts_Gaps_S1 : ACode :=
  (.seq
   (.region false [⟨some 2, .mv (.const (.bool false)), none, []⟩] [])
  (.seq
   (.region false [⟨some 3, .mv (.tmp 0), none, []⟩,
     ⟨some 4, .bin .eql (.tmp 3) (.const (.int .i64 0)), none, []⟩,
     ⟨some 2, .mv (.tmp 4), none, []⟩] [3, 4])
  .ret))
set_option maxRecDepth 100000 in
theorem kparts_Gaps_S1 : IsCode Try.prog 38 5 cparts_Gaps_S1 [.tmp 2] :=
  ⟨Try.f38, _, [0, 2], Try.func38, rfl, by decide, rfl, by kernel_rfl, by kernel_rfl⟩
/-- parts_within -/
def cparts_within : ACode :=
  (.seq
   (.region false [⟨some 6, .mv (.const (.bool false)), none, []⟩] [])
  (.seq
   (.region false [⟨some 7, .mv (.tmp 0), none, []⟩,
     ⟨some 8, .mv (.tmp 1), none, []⟩,
     ⟨some 9, .bin .geq (.tmp 7) (.tmp 8), none, []⟩,
     ⟨some 10, .mv (.tmp 9), none, []⟩,
     ⟨some 11, .mv (.tmp 0), (some (some 10, true)), []⟩,
     ⟨some 12, .mv (.tmp 2), (some (some 10, true)), []⟩,
     ⟨some 13, .bin .leq (.tmp 11) (.tmp 12), (some (some 10, true)), []⟩,
     ⟨some 14, .pick (.tmp 10) (.tmp 13) (.const (.bool false)), none, []⟩,
     ⟨some 6, .mv (.tmp 14), none, []⟩] [7, 8, 9, 10, 11, 12, 13, 14])
  .ret))
set_option maxRecDepth 100000 in
theorem kparts_within : IsCode Try.prog 76 15 cparts_within [.tmp 6] :=
  ⟨Try.f76, _, [0, 1, 2, 6], Try.func76, rfl, by decide, rfl, by kernel_rfl, by kernel_rfl⟩
/-- top_TopPages -/
def ctop_TopPages : ACode :=
  (.seq
   (.region false [⟨some 4, .mv (.const (.bool false)), none, []⟩] [])
  (.seq
   (.seq
    (.region false [⟨some 19, .mv (.tmp 1), none, []⟩,
      ⟨some 20, .len_ (.tmp 19), none, []⟩,
      ⟨some 21, .bin .gtr (.tmp 20) (.const (.int .i64 10)), none, []⟩,
      ⟨some 22, .mv (.tmp 21), none, []⟩,
      ⟨some 23, .mv (.tmp 0), (some (some 22, false)), []⟩,
      ⟨some 24, .bin .lss (.tmp 23) (.const (.int .i64 1)), (some (some 22, false)), []⟩,
      ⟨some 25, .pick (.tmp 22) (.const (.bool true)) (.tmp 24), none, []⟩] [19, 20, 21, 22, 23, 24])
   (.cond (.tmp 25)
     (.seq
      (.region false [⟨some 26, .call (.func 9) [], none, []⟩,
        ⟨some 4, .mv (.tmp 26), none, []⟩] [26])
     .ret)
     .skip))
  (.seq
   (.region false [⟨some 28, .mv (.tmp 0), none, []⟩,
     ⟨some 29, .buildSl 2 0 [] [], none, []⟩,
     ⟨some 30, .mv (.tmp 1), none, []⟩,
     ⟨some 31, .app 2 16 (.tmp 29) (.tmp 30), none, []⟩,
     ⟨some 32, .call (.func 14) [(.tmp 28), (.tmp 31)], none, []⟩,
     ⟨some 27, .mv (.tmp 32), none, []⟩,
     ⟨some 33, .ext (.tmp 27) 0, none, []⟩,
     ⟨some 34, .ext (.tmp 27) 1, none, []⟩,
     ⟨some 5, .mv (.tmp 33), none, []⟩,
     ⟨some 6, .mv (.tmp 34), none, []⟩] [28, 29, 30, 31, 32, 27, 33, 34])
  (.seq
   (.seq
    (.region false [⟨some 35, .mv (.tmp 6), none, []⟩,
      ⟨some 36, .bin .neq (.tmp 35) (.const (.int .i64 0)), none, []⟩] [35])
   (.cond (.tmp 36)
     (.seq
      (.region false [⟨some 37, .call (.func 9) [], none, []⟩,
        ⟨some 4, .mv (.tmp 37), none, []⟩] [37])
     .ret)
     .skip))
  (.seq
   (.region false [⟨some 7, .mv (.const (.slice none 0 0)), none, []⟩] [])
  (.seq
   (.seq
    (.region false [⟨some 8, .mv (.const (.int .i64 0)), none, []⟩] [])
   (.block 0
     (.loop
       (.seq
        (.seq
         (.region false [⟨some 38, .mv (.tmp 8), none, []⟩,
           ⟨some 39, .mv (.tmp 1), none, []⟩,
           ⟨some 40, .len_ (.tmp 39), none, []⟩,
           ⟨some 41, .bin .lss (.tmp 38) (.tmp 40), none, []⟩] [38, 39, 40])
        (.cond (.tmp 41)
          .skip
          (.exit 0)))
       (.seq
        (.block 1
          (.region false [⟨some 44, .mv (.tmp 7), none, []⟩,
            ⟨some 45, .mv (.tmp 1), none, []⟩,
            ⟨some 46, .mv (.tmp 8), none, []⟩,
            ⟨some 47, .iadS 2 (.tmp 45) (.tmp 46), none, []⟩,
            ⟨some 48, .loadN 2 (.tmp 47), none, []⟩,
            ⟨some 49, .buildSl 2 1 [(.val (.int .i64 0)), (.val (.int .i64 0))] [(0, 2, (.tmp 48))], none, []⟩,
            ⟨some 50, .buildSl 1 1 [(.val (.slice none 0 0))] [(0, 1, (.tmp 49))], none, []⟩,
            ⟨some 51, .app 1 24 (.tmp 44) (.tmp 50), none, []⟩,
            ⟨some 7, .mv (.tmp 51), none, []⟩] [44, 45, 46, 47, 48, 49, 50, 51]))
       (.region false [⟨some 42, .mv (.tmp 8), none, []⟩,
         ⟨some 43, .bin .add (.tmp 42) (.const (.int .i64 1)), none, []⟩,
         ⟨some 8, .mv (.tmp 43), none, []⟩] [42, 43]))))))
  (.seq
   (.region false [⟨some 53, .mv (.tmp 0), none, []⟩,
     ⟨some 54, .bin .sub (.tmp 53) (.const (.int .i64 1)), none, []⟩,
     ⟨some 55, .build [(.val (.int .i64 0)), (.val (.int .i64 0))] [(1, 1, (.tmp 54))], none, []⟩,
     ⟨some 56, .buildSl 2 1 [(.val (.int .i64 0)), (.val (.int .i64 0))] [(0, 2, (.tmp 55))], none, []⟩,
     ⟨some 57, .mv (.tmp 7), none, []⟩,
     ⟨some 58, .call (.func 15) [(.tmp 56), (.tmp 57)], none, []⟩,
     ⟨some 52, .mv (.tmp 58), none, []⟩,
     ⟨some 59, .ext (.tmp 52) 0, none, []⟩,
     ⟨some 60, .ext (.tmp 52) 1, none, []⟩,
     ⟨some 61, .ext (.tmp 52) 2, none, []⟩,
     ⟨some 9, .mv (.tmp 59), none, []⟩,
     ⟨some 10, .mv (.tmp 60), none, []⟩,
     ⟨some 11, .mv (.tmp 61), none, []⟩] [53, 54, 55, 56, 57, 58, 52, 59, 60, 61, 9])
  (.seq
   (.region false [⟨some 63, .mv (.tmp 7), none, []⟩,
     ⟨some 64, .call (.func 16) [(.tmp 63)], none, []⟩,
     ⟨some 62, .mv (.tmp 64), none, []⟩,
     ⟨some 65, .ext (.tmp 62) 0, none, []⟩,
     ⟨some 66, .ext (.tmp 62) 1, none, []⟩,
     ⟨some 12, .mv (.tmp 65), none, []⟩,
     ⟨some 13, .mv (.tmp 66), none, []⟩] [63, 64, 62, 65, 66])
  (.seq
   (.seq
    (.region false [⟨some 67, .mv (.tmp 11), none, []⟩,
      ⟨some 68, .bin .neq (.tmp 67) (.const (.int .i64 0)), none, []⟩,
      ⟨some 69, .mv (.tmp 68), none, []⟩,
      ⟨some 70, .mv (.tmp 13), (some (some 69, false)), []⟩,
      ⟨some 71, .bin .neq (.tmp 70) (.const (.int .i64 0)), (some (some 69, false)), []⟩,
      ⟨some 72, .pick (.tmp 69) (.const (.bool true)) (.tmp 71), none, []⟩,
      ⟨some 73, .mv (.tmp 72), none, []⟩,
      ⟨some 74, .mv (.tmp 10), (some (some 73, false)), []⟩,
      ⟨some 75, .mv (.tmp 5), (some (some 73, false)), []⟩,
      ⟨some 76, .len_ (.tmp 75), (some (some 73, false)), []⟩,
      ⟨some 77, .bin .eql (.tmp 76) (.const (.int .i64 0)), (some (some 73, false)), []⟩,
      ⟨some 78, .eqb true (.tmp 74) (.tmp 77), (some (some 73, false)), []⟩,
      ⟨some 79, .pick (.tmp 73) (.const (.bool true)) (.tmp 78), none, []⟩] [67, 68, 69, 70, 71, 72, 73, 74, 75, 76, 77, 78])
   (.cond (.tmp 79)
     (.seq
      (.region false [⟨some 4, .mv (.const (.bool false)), none, []⟩] [])
     .ret)
     .skip))
  (.seq
   (.region false [⟨some 14, .mv (.const (.int .i64 0)), none, []⟩] [])
  (.seq
   (.region false [⟨some 80, .buildSl 2 0 [] [], none, []⟩,
     ⟨some 81, .mv (.tmp 1), none, []⟩,
     ⟨some 82, .app 2 16 (.tmp 80) (.tmp 81), none, []⟩,
     ⟨some 15, .mv (.tmp 82), none, []⟩] [80, 81, 82])
  (.seq
   (.seq
    (.region false [⟨some 16, .mv (.const (.int .i64 0)), none, []⟩] [])
   (.block 2
     (.loop
       (.seq
        (.seq
         (.region false [⟨some 83, .mv (.tmp 16), none, []⟩,
           ⟨some 84, .mv (.tmp 5), none, []⟩,
           ⟨some 85, .len_ (.tmp 84), none, []⟩,
           ⟨some 86, .bin .lss (.tmp 83) (.tmp 85), none, []⟩] [83, 84, 85])
        (.cond (.tmp 86)
          .skip
          (.exit 2)))
       (.seq
        (.block 3
          (.seq
           (.region true [⟨some 89, .mv (.tmp 14), none, []⟩,
             ⟨some 90, .mv (.tmp 5), none, []⟩,
             ⟨some 91, .mv (.tmp 16), none, []⟩,
             ⟨some 92, .iadS 2 (.tmp 90) (.tmp 91), none, [1, 2]⟩,
             ⟨some 93, .fad 1 (.tmp 92), none, [3, 1, 2]⟩,
             ⟨some 94, .load1 (.tmp 93), none, [4, 3, 1, 2]⟩,
             ⟨some 95, .mv (.tmp 5), none, []⟩,
             ⟨some 96, .mv (.tmp 16), none, []⟩,
             ⟨some 97, .iadS 2 (.tmp 95) (.tmp 96), none, [6, 7]⟩,
             ⟨some 98, .fad 0 (.tmp 97), none, [8, 6, 7]⟩,
             ⟨some 99, .load1 (.tmp 98), none, [9, 8, 6, 7]⟩,
             ⟨some 100, .bin .sub (.tmp 94) (.tmp 99), none, [5, 4, 3, 1, 2, 10, 9, 8, 6, 7]⟩,
             ⟨some 101, .bin .add (.tmp 100) (.const (.int .i64 1)), none, [11, 5, 4, 3, 1, 2, 10, 9, 8, 6, 7]⟩,
             ⟨some 102, .bin .add (.tmp 89) (.tmp 101), none, [0, 12, 11, 5, 4, 3, 1, 2, 10, 9, 8, 6, 7]⟩,
             ⟨some 14, .mv (.tmp 102), none, [13, 0, 12, 11, 5, 4, 3, 1, 2, 10, 9, 8, 6, 7]⟩] [89, 90, 91, 92, 93, 94, 95, 96, 97, 98, 99, 100, 101, 102])
          (.region false [⟨some 103, .mv (.tmp 15), none, []⟩,
            ⟨some 104, .mv (.tmp 5), none, []⟩,
            ⟨some 105, .mv (.tmp 16), none, []⟩,
            ⟨some 106, .iadS 2 (.tmp 104) (.tmp 105), none, []⟩,
            ⟨some 107, .loadN 2 (.tmp 106), none, []⟩,
            ⟨some 108, .buildSl 2 1 [(.val (.int .i64 0)), (.val (.int .i64 0))] [(0, 2, (.tmp 107))], none, []⟩,
            ⟨some 109, .app 2 16 (.tmp 103) (.tmp 108), none, []⟩,
            ⟨some 15, .mv (.tmp 109), none, []⟩] [103, 104, 105, 106, 107, 108, 109])))
       (.region false [⟨some 87, .mv (.tmp 16), none, []⟩,
         ⟨some 88, .bin .add (.tmp 87) (.const (.int .i64 1)), none, []⟩,
         ⟨some 16, .mv (.tmp 88), none, []⟩] [87, 88]))))))
  (.seq
   (.seq
    (.region false [⟨some 110, .mv (.tmp 12), none, []⟩,
      ⟨some 111, .mv (.tmp 14), none, []⟩,
      ⟨some 112, .bin .add (.tmp 110) (.tmp 111), none, []⟩,
      ⟨some 113, .mv (.tmp 0), none, []⟩,
      ⟨some 114, .bin .neq (.tmp 112) (.tmp 113), none, []⟩,
      ⟨some 115, .mv (.tmp 114), none, []⟩,
      ⟨some 116, .mv (.tmp 15), (some (some 115, false)), []⟩,
      ⟨some 117, .len_ (.tmp 116), (some (some 115, false)), []⟩,
      ⟨some 118, .bin .gtr (.tmp 117) (.const (.int .i64 20)), (some (some 115, false)), []⟩,
      ⟨some 119, .pick (.tmp 115) (.const (.bool true)) (.tmp 118), none, []⟩] [110, 111, 112, 113, 114, 115, 116, 117, 118])
   (.cond (.tmp 119)
     (.seq
      (.region false [⟨some 120, .mv (.tmp 12), none, []⟩,
        ⟨some 121, .mv (.tmp 14), none, []⟩,
        ⟨some 122, .bin .add (.tmp 120) (.tmp 121), none, []⟩,
        ⟨some 123, .mv (.tmp 0), none, []⟩,
        ⟨some 124, .bin .eql (.tmp 122) (.tmp 123), none, []⟩,
        ⟨some 125, .mv (.tmp 124), none, []⟩,
        ⟨some 126, .call (.func 9) [], (some (some 125, true)), []⟩,
        ⟨some 127, .pick (.tmp 125) (.tmp 126) (.const (.bool false)), none, []⟩,
        ⟨some 4, .mv (.tmp 127), none, []⟩] [120, 121, 122, 123, 124, 125, 126, 127])
     .ret)
     .skip))
  (.seq
   (.region false [⟨some 129, .mv (.tmp 0), none, []⟩,
     ⟨some 130, .mv (.tmp 15), none, []⟩,
     ⟨some 131, .call (.func 14) [(.tmp 129), (.tmp 130)], none, []⟩,
     ⟨some 128, .mv (.tmp 131), none, []⟩,
     ⟨some 132, .ext (.tmp 128) 0, none, []⟩,
     ⟨some 133, .ext (.tmp 128) 1, none, []⟩,
     ⟨some 17, .mv (.tmp 132), none, []⟩,
     ⟨some 18, .mv (.tmp 133), none, []⟩] [129, 130, 131, 128, 132, 133])
  (.seq
   (.region false [⟨some 134, .mv (.tmp 18), none, []⟩,
     ⟨some 135, .bin .eql (.tmp 134) (.const (.int .i64 0)), none, []⟩,
     ⟨some 136, .mv (.tmp 135), none, []⟩,
     ⟨some 137, .mv (.tmp 17), (some (some 136, true)), []⟩,
     ⟨some 138, .len_ (.tmp 137), (some (some 136, true)), []⟩,
     ⟨some 139, .bin .eql (.tmp 138) (.const (.int .i64 0)), (some (some 136, true)), []⟩,
     ⟨some 140, .pick (.tmp 136) (.tmp 139) (.const (.bool false)), none, []⟩,
     ⟨some 141, .mv (.tmp 140), none, []⟩,
     ⟨some 142, .call (.func 9) [], (some (some 141, true)), []⟩,
     ⟨some 143, .pick (.tmp 141) (.tmp 142) (.const (.bool false)), none, []⟩,
     ⟨some 4, .mv (.tmp 143), none, []⟩] [134, 135, 136, 137, 138, 139, 140, 141, 142, 143])
  .ret)))))))))))))))
set_option maxRecDepth 100000 in
theorem ktop_TopPages : IsCode Try.prog 4 144 ctop_TopPages [.tmp 4] :=
  ⟨Try.f4, _, [119, 86, 79, 41, 36, 25, 1, 0, 6, 8, 7, 11, 13, 10, 5, 16, 14, 15, 12, 18, 17, 4], Try.func4, rfl, by decide, rfl, by kernel_rfl, by kernel_rfl⟩
end Go.Proofs.Ytgibbaadjbohdaa
