/- Texts of the laws, shared part 4. No conditions. -/
import Derived.Test.YthohcimmoobaoaaPHang03
import Derived.ProofKit
import Derived.OpenShut
import Derived.ChangeOld
import Derived.Below
import Derived.Lib.SmallJoins
import Derived.Deep.Matrix
import Derived.Test.YthohcimmoobaoaaRows
/- The contract of spans.extremes: the corners with the least and the greatest value; old memory stays. -/
namespace Go.Proofs.Ythohcimmoobaoaa
open Go.RowKit Go.Shelf
attribute [local go_sem] Oper.semAt_some

/-- spans.corners: three boxes, and the iterator -/
theorem corners_any (t1 t2 t3 x1 x2 y1 y2 : Value) (w : World) :
    Calls Try.prog 104 #[.agg #[t1, t2, t3], .agg #[x1, x2], .agg #[y1, y2]] w fun e w' => e = .returned (.func (.func 116) #[] #[.pointer (some ⟨w.heap.size, 0, none⟩), .pointer (some ⟨w.heap.size + 1, 0, none⟩), .pointer (some ⟨w.heap.size + 2, 0, none⟩)]) ∧
      ((w.alloc (.cells #[t1, t2, t3] 40)).alloc (.cells #[x1, x2] 27)).alloc (.cells #[y1, y2] 27) = w' := by
  go_enter Try.func104, Try.ntmps104
  go_wp2_with fail
  go_ret
  exact ⟨rfl, rfl⟩
theorem corners_stops (n : Nat) (hn : 3 ≤ n) (bt n1 n2 : Nat) (xs ys : List Int) (vs : List (List Int)) (X Y V : Option Addr) (cx cy cv : Nat) (xl xh yl yh : Int)
    (hT : Tbl xs ys vs) (hx1 : xs[0]?.getD 0 ≤ xl) (hx2 : xh ≤ xs[xs.length-1]?.getD 0) (hx : xl ≤ xh) (hy1 : ys[0]?.getD 0 ≤ yl) (hy2 : yh ≤ ys[ys.length-1]?.getD 0) (hy : yl ≤ yh)
    (w0 W : World) (hR : TabR w0 X Y V cx cy cv xs ys vs) (hw0 : w0.heap.size ≤ n1) (hn2 : n2 ≤ bt) (hKW : KB n1 n2 w0 W) (hbt : bt + 2 < W.heap.size)
    (ht : W.heap[bt]? = some (.cells #[.slice X xs.length cx, .slice Y ys.length cy, .slice V vs.length cv] 40)) (hbx : W.heap[bt + 1]? = some (.cells #[.int .i64 xl, .int .i64 xh] 27)) (hby : W.heap[bt + 2]? = some (.cells #[.int .i64 yl, .int .i64 yh] 27)) :
    SeqStopsK Fence.wide n Try.prog 116 #[.pointer (some ⟨bt, 0, none⟩), .pointer (some ⟨bt + 1, 0, none⟩), .pointer (some ⟨bt + 2, 0, none⟩)] encP (KB n1 n2)
      (fun ps => ps = allPts xs ys vs (stopsL xs xl xh) (stopsL ys yl yh)) (fun pre => pre <+: allPts xs ys vs (stopsL xs xl xh) (stopsL ys yl yh)) (allPts xs ys vs (stopsL xs xl xh) (stopsL ys yl yh)).length W := by
  intro l J Jx W' hb hJ hJx hYd h0
  have hc : ∀ {b : Nat} {cs : Array Value} {t : TypeId} {v : Value} (o : Nat), W.heap[b]? = some (.cells cs t) → cs[o]? = some v → b < W.heap.size → W'.cell? ⟨b, o, none⟩ = some v := fun o h1 h2 h3 => by
    rw [hb.cell (p := ⟨_, o, none⟩) h3, cell_of_row W _ o _ _ _ h1]; exact h2
  exact corners1_in n hn l bt (bt + 1) (bt + 2) n1 n2 xs ys vs X Y V cx cy cv xl xh yl yh hT hx1 hx2 hx hy1 hy2 hy w0 W' hR hw0 hn2 (by omega) (by omega) (hKW.trans (KB.of_below hb)) (by have := hb.size; omega)
    (hc 0 ht rfl (by omega)) (hc 1 ht rfl (by omega)) (hc 2 ht rfl (by omega)) (hc 0 hbx rfl (by omega)) (hc 1 hbx rfl (by omega)) (hc 0 hby rfl (by omega)) (hc 1 hby rfl (by omega)) J Jx hJ hJx hYd h0

/-- the least and the greatest of points, the first ones of several -/
def stepE (o : Option (Pt × Pt)) (p : Pt) : Option (Pt × Pt) :=
  match o with
  | none => some (p, p)
  | some (l, m) => some (if cmpV p.n p.d l.n l.d < 0 then p else l, if 0 < cmpV p.n p.d m.n m.d then p else m)
theorem stepE_some (l m p : Pt) : stepE (some (l, m)) p = some (if cmpV p.n p.d l.n l.d < 0 then p else l, if 0 < cmpV p.n p.d m.n m.d then p else m) := rfl
def extrE (ps : List Pt) : Option (Pt × Pt) := ps.foldl stepE none
theorem extrE_snoc (ps : List Pt) (p : Pt) : extrE (ps ++ [p]) = stepE (extrE ps) p := by simp [extrE]
theorem extrE_ne (ps : List Pt) (h : ps ≠ []) : ∃ l m, extrE ps = some (l, m) := by
  have key : ∀ (ps : List Pt) (o : Option (Pt × Pt)), (o ≠ none ∨ ps ≠ []) → ps.foldl stepE o ≠ none := by
    intro ps
    induction ps with
    | nil => intro o h; rcases h with h | h
             · exact h
             · exact absurd rfl h
    | cons p ps ih => intro o _; exact ih _ (.inl (by cases o <;> simp [stepE]))
  have h1 := key ps none (.inr h)
  unfold extrE
  cases e : ps.foldl stepE none with
  | none => exact absurd e h1
  | some lm => exact ⟨lm.1, lm.2, rfl⟩
theorem allPts_ne (xs ys : List Int) (vs : List (List Int)) (xl xh yl yh : Int) : allPts xs ys vs (stopsL xs xl xh) (stopsL ys yl yh) ≠ [] := by
  simp [allPts, stopsL, rowPts]
def vP (p : Pt) : Array Value := #[.int .i64 p.x, .int .i64 p.y, .int .i64 p.n, .int .i64 p.d]
def v0 : Array Value := #[.int .i64 0, .int .i64 0, .int .i64 0, .int .i64 0]
def lowV : Option (Pt × Pt) → Array Value
  | none => v0
  | some (l, _) => vP l
def topV : Option (Pt × Pt) → Array Value
  | none => v0
  | some (_, m) => vP m
/-- what the three variables of extremes hold -/
def Ext3 (B : Nat) (cl cm : Array Value) (f : Bool) (W : World) : Prop :=
  W.heap[B]? = some (.cells cl 118) ∧ W.heap[B + 1]? = some (.cells cm 118) ∧ W.heap[B + 1 + 1]? = some (.cells #[.bool f] 4)
def ExtSt (B : Nat) (o : Option (Pt × Pt)) (W : World) : Prop := Ext3 B (lowV o) (topV o) o.isSome W
theorem extSt_own (B : Nat) {β : Type} (f : β → Option (Pt × Pt)) : Own (fun s W => ExtSt B (f s) W) := fun _ _ _ _ hs hg hr =>
  ⟨(grownBy_keeps_cells hg hr hs.1 rfl).trans hs.1, (grownBy_keeps_cells hg hr hs.2.1 rfl).trans hs.2.1, (grownBy_keeps_cells hg hr hs.2.2 rfl).trans hs.2.2⟩
theorem heap_set_same {W : World} {B : Nat} {cs : Array Value} {t : TypeId} (o : Nat) (v : Value) (h : W.heap[B]? = some (.cells cs t)) : (W.setCell ⟨B, o, none⟩ v).heap[B]? = some (.cells (cs.setIfInBounds o v) t) := by
  obtain ⟨hlt, hk⟩ := Array.getElem?_eq_some_iff.1 h
  show (W.heap.modify B _)[B]? = _
  rw [Array.getElem?_eq_getElem (by rw [Array.size_modify]; exact hlt), Array.getElem_modify_self, hk]
  rfl
theorem heap_set_other {W : World} {B k : Nat} {ob : Obj} (o : Nat) (v : Value) (hne : k ≠ B) (h : W.heap[k]? = some ob) : (W.setCell ⟨B, o, none⟩ v).heap[k]? = some ob := (Below.heap_setCell W ⟨B, o, none⟩ v k hne).trans h
def put4 (W : World) (B : Nat) (a b c d : Value) : World := (((W.setCell ⟨B, 0, none⟩ a).setCell ⟨B, 1, none⟩ b).setCell ⟨B, 2, none⟩ c).setCell ⟨B, 3, none⟩ d
theorem put4_same {W : World} {B : Nat} {x0 x1 x2 x3 : Value} {t : TypeId} (a b c d : Value) (h : W.heap[B]? = some (.cells #[x0, x1, x2, x3] t)) : (put4 W B a b c d).heap[B]? = some (.cells #[a, b, c, d] t) :=
  heap_set_same 3 d (heap_set_same 2 c (heap_set_same 1 b (heap_set_same 0 a h)))
theorem put4_other {W : World} {B k : Nat} {ob : Obj} (a b c d : Value) (hne : k ≠ B) (h : W.heap[k]? = some ob) : (put4 W B a b c d).heap[k]? = some ob :=
  heap_set_other _ _ hne (heap_set_other _ _ hne (heap_set_other _ _ hne (heap_set_other _ _ hne h)))
theorem Ext3.low {B : Nat} {x0 x1 x2 x3 : Value} {cm : Array Value} {f : Bool} {W : World} (a b c d : Value) (h : Ext3 B #[x0, x1, x2, x3] cm f W) : Ext3 B #[a, b, c, d] cm f (put4 W B a b c d) :=
  ⟨put4_same _ _ _ _ h.1, put4_other _ _ _ _ (by omega) h.2.1, put4_other _ _ _ _ (by omega) h.2.2⟩
theorem Ext3.top {B : Nat} {x0 x1 x2 x3 : Value} {cl : Array Value} {f : Bool} {W : World} (a b c d : Value) (h : Ext3 B cl #[x0, x1, x2, x3] f W) : Ext3 B cl #[a, b, c, d] f (put4 W (B + 1) a b c d) :=
  ⟨put4_other _ _ _ _ (by omega) h.1, put4_same _ _ _ _ h.2.1, put4_other _ _ _ _ (by omega) h.2.2⟩
theorem Ext3.flag {B : Nat} {cl cm : Array Value} {f : Bool} {W : World} (g : Bool) (h : Ext3 B cl cm f W) : Ext3 B cl cm g (W.setCell ⟨B + 1 + 1, 0, none⟩ (.bool g)) :=
  ⟨heap_set_other _ _ (by omega) h.1, heap_set_other _ _ (by omega) h.2.1, heap_set_same 0 _ h.2.2⟩
theorem Ext3.below {B : Nat} {cl cm : Array Value} {f : Bool} {W W' : World} (h : Ext3 B cl cm f W) (hb : Below W.heap.size W W') : Ext3 B cl cm f W' :=
  have q : ∀ {k : Nat} {ob : Obj}, W.heap[k]? = some ob → W'.heap[k]? = some ob := fun hk => (hb.block _ (Array.getElem?_eq_some_iff.1 hk).1).trans hk
  ⟨q h.1, q h.2.1, q h.2.2⟩
theorem keeps_below {W W' : World} (h : Below W.heap.size W W') : KeepsOthers W W' := ⟨h.size, fun k _ hk _ => (h.block k (Array.getElem?_eq_some_iff.1 hk).1).trans hk⟩
/-- all that a round of extremes owes -/
structure Rnd (B n1 n2 n₀ : Nat) (W W' : World) : Prop where
  kf : KeepsFrom B W W'
  kb : KB n1 n2 W W'
  bl : Below n₀ W W'
theorem Rnd.refl (B n1 n2 n₀ : Nat) (W : World) : Rnd B n1 n2 n₀ W W := ⟨KeepsFrom.refl _ _, KB.refl _ _ _, Below.refl _ _⟩
theorem Rnd.trans {B n1 n2 n₀ : Nat} {W W' W'' : World} (h : Rnd B n1 n2 n₀ W W') (h' : Rnd B n1 n2 n₀ W' W'') : Rnd B n1 n2 n₀ W W'' := ⟨h.kf.trans h'.kf, h.kb.trans h'.kb, h.bl.trans h'.bl⟩
theorem Rnd.below {B n1 n2 n₀ : Nat} {W W' : World} (h : Below W.heap.size W W') (hn : n₀ ≤ W.heap.size) : Rnd B n1 n2 n₀ W W' := ⟨(keeps_below h).from _, KB.of_below h, h.mono hn⟩
theorem Rnd.set {B n1 n2 n₀ : Nat} (W : World) (b o : Nat) (v : Value) (h1 : n1 ≤ b) (h2 : b < n2) (h3 : n₀ ≤ b) : Rnd B n1 n2 n₀ W (W.setCell ⟨b, o, none⟩ v) :=
  ⟨(KeepsOthers.setCell _ _ _).from _, KB.setCell _ _ _ ⟨h1, h2⟩, (Below.refl _ _).setCell h3 _⟩
theorem Rnd.put4 {B n1 n2 n₀ : Nat} (W : World) (b : Nat) (x y z u : Value) (h1 : n1 ≤ b) (h2 : b < n2) (h3 : n₀ ≤ b) : Rnd B n1 n2 n₀ W (put4 W b x y z u) :=
  (((Rnd.set W b 0 x h1 h2 h3).trans (Rnd.set _ b 1 y h1 h2 h3)).trans (Rnd.set _ b 2 z h1 h2 h3)).trans (Rnd.set _ b 3 u h1 h2 h3)
theorem heap_alloc_at (w : World) (o : Obj) (k : Nat) : (w.alloc o).heap[k]? = if k = w.heap.size then some o else w.heap[k]? := by
  show (w.heap.push o)[k]? = _
  rw [Array.getElem?_push]
theorem cells4 {W : World} {B : Nat} {t : TypeId} {a b c d : Value} (h : W.heap[B]? = some (.cells #[a, b, c, d] t)) :
    (W.cell? ⟨B, 0, none⟩ = some a ∧ W.cell? ⟨B, 1, none⟩ = some b ∧ W.cell? ⟨B, 2, none⟩ = some c ∧ W.cell? ⟨B, 3, none⟩ = some d) ∧
    (W.frozen? ⟨B, 0, none⟩ = false ∧ W.frozen? ⟨B, 1, none⟩ = false ∧ W.frozen? ⟨B, 2, none⟩ = false ∧ W.frozen? ⟨B, 3, none⟩ = false) := by
  refine ⟨⟨?_, ?_, ?_, ?_⟩, ?_, ?_, ?_, ?_⟩
  · rw [cell_of_row W _ 0 _ _ _ h]; rfl
  · rw [cell_of_row W _ 1 _ _ _ h]; rfl
  · rw [cell_of_row W _ 2 _ _ _ h]; rfl
  · rw [cell_of_row W _ 3 _ _ _ h]; rfl
  all_goals simp [World.frozen?, h]
def ExtPost (ps : List Pt) (w : World) (e : Ending) (w' : World) : Prop := ∃ l m, extrE ps = some (l, m) ∧ e = .returned (.tuple #[.agg (vP l), .agg (vP m)]) ∧ Below w.heap.size w w'
set_option maxRecDepth 100000 in
set_option maxHeartbeats 2000000 in
theorem extremes_any (xs ys : List Int) (vs : List (List Int)) (X Y V : Option Addr) (cx cy cv : Nat) (xl xh yl yh : Int) (w : World)
    (hT : Tbl xs ys vs) (hx1 : xs[0]?.getD 0 ≤ xl) (hx2 : xh ≤ xs[xs.length-1]?.getD 0) (hx : xl ≤ xh) (hy1 : ys[0]?.getD 0 ≤ yl) (hy2 : yh ≤ ys[ys.length-1]?.getD 0) (hy : yl ≤ yh)
    (hR : TabR w X Y V cx cy cv xs ys vs) :
    Calls Try.prog 77 #[.agg #[.slice X xs.length cx, .slice Y ys.length cy, .slice V vs.length cv], .agg #[.int .i64 xl, .int .i64 xh], .agg #[.int .i64 yl, .int .i64 yh]] w
      (ExtPost (allPts xs ys vs (stopsL xs xl xh) (stopsL ys yl yh)) w) := by
  refine (callsIn_wide (n := 9)).1 ?_
  refine callsIn_of_wp_marks Try.func77 rfl trivial ?_ rfl
  simp only [Try.ntmps77, List.size_toArray, List.length_cons, List.length_nil, Nat.reduceAdd, Nat.reduceSub, Array.replicate_succ, Array.replicate_zero, List.push_toArray, List.append_toArray, List.nil_append, List.cons_append]
  gi_wp2_with fail
  refine ⟨trivial, (callsIn_wide.2 (corners_any _ _ _ _ _ _ _ _)).mono ?_⟩
  rintro e W0 ⟨rfl, hW0⟩
  simp only [World.size_alloc] at hW0 ⊢
  have hsz : W0.heap.size = w.heap.size + 9 := by rw [← hW0]; simp
  have hB0 : Below w.heap.size w W0 := by
    rw [← hW0]
    repeat (first | exact Below.refl _ _ | refine Below.alloc ?_ (by simp <;> omega) _)
  have h3 : ExtSt (w.heap.size + 1 + 1 + 1) (extrE []) W0 := by
    rw [← hW0]
    refine ⟨?_, ?_, ?_⟩
    · simp only [heap_alloc_at, World.size_alloc]
      repeat (first | rw [if_pos trivial] | rw [if_neg (by omega)])
      rfl
    · simp only [heap_alloc_at, World.size_alloc]
      repeat (first | rw [if_pos trivial] | rw [if_neg (by omega)])
      rfl
    · simp only [heap_alloc_at, World.size_alloc]
      repeat (first | rw [if_pos trivial] | rw [if_neg (by omega)])
      rfl
  have k0 : W0.heap[w.heap.size + 1 + 1 + 1 + 1 + 1 + 1]? = some (.cells #[.slice X xs.length cx, .slice Y ys.length cy, .slice V vs.length cv] 40) := by
    rw [← hW0]; simp only [heap_alloc_at, World.size_alloc]; repeat (first | rw [if_pos trivial] | rw [if_neg (by omega)])
  have k1 : W0.heap[w.heap.size + 1 + 1 + 1 + 1 + 1 + 1 + 1]? = some (.cells #[.int .i64 xl, .int .i64 xh] 27) := by
    rw [← hW0]; simp only [heap_alloc_at, World.size_alloc]; repeat (first | rw [if_pos trivial] | rw [if_neg (by omega)])
  have k2 : W0.heap[w.heap.size + 1 + 1 + 1 + 1 + 1 + 1 + 2]? = some (.cells #[.int .i64 yl, .int .i64 yh] 27) := by
    rw [← hW0]; simp only [heap_alloc_at, World.size_alloc]; repeat (first | rw [if_pos trivial] | rw [if_neg (by omega)])
  have hsq := corners_stops 8 (by omega) (w.heap.size + 1 + 1 + 1 + 1 + 1 + 1) (w.heap.size + 1 + 1 + 1) (w.heap.size + 1 + 1 + 1 + 1 + 1 + 1) xs ys vs X Y V cx cy cv xl xh yl yh hT hx1 hx2 hx hy1 hy2 hy w W0 hR (by omega) (by omega) (KB.of_below hB0) (by omega) k0 k1 k2
  have HSQ := Lib.hid hsq
  have H3 := Lib.hid h3
  have HSZ := Lib.hid hsz
  have HB0 := Lib.hid hB0
  clear hsq h3 hsz hB0 k0 k1 k2 hW0 hR hT hx1 hx2 hx hy1 hy2 hy
  gi_wp2_with fail
  refine wpIn_rangeFunc_ownH (F := Fence.wide) (n := 9) rfl (by omega) (gf := 116) rfl trivial (enters_of Try.func116 (by kernel_rfl) rfl) HSQ.out KB.trans (fun W l o o' _ h hc _ => KB.putObj o' h hc) (Below.refl _ _) (fun _ => rfl)
    (fun pre W => ExtSt (w.heap.size + 1 + 1 + 1) (extrE pre) W ∧ Below w.heap.size w W) (fun _ _ _ => False)
    (OwnFrom.and (Own.from (extSt_own _ _) _) (ownFrom_below (Nat.le_refl _) (by have := HSZ.out; omega))) (fun _ _ _ _ _ h _ _ => h) ⟨H3.out, HB0.out⟩
    (fun p a' W => ∃ Bx, w.heap.size + 1 + 1 + 1 + 1 + 1 + 1 ≤ Bx ∧ W.heap[Bx]? = some (.cells (vP p) 118) ∧ a' = { tmps := #[.agg #[.slice X xs.length cx, .slice Y ys.length cy, .slice V vs.length cv], .agg #[.int .i64 xl, .int .i64 xh], .agg #[.int .i64 yl, .int .i64 yh],
      .pointer (some ⟨w.heap.size, 0, none⟩), .pointer (some ⟨w.heap.size + 1, 0, none⟩), .pointer (some ⟨w.heap.size + 1 + 1, 0, none⟩), .pointer (some ⟨w.heap.size + 1 + 1 + 1, 0, none⟩), .pointer (some ⟨w.heap.size + 1 + 1 + 1 + 1, 0, none⟩), .pointer (some ⟨w.heap.size + 1 + 1 + 1 + 1 + 1, 0, none⟩),
      .pointer (some ⟨Bx, 0, none⟩), .agg #[.slice X xs.length cx, .slice Y ys.length cy, .slice V vs.length cv], .agg #[.int .i64 xl, .int .i64 xh], .agg #[.int .i64 yl, .int .i64 yh],
      .func (.func 116) #[] #[.pointer (some ⟨w.heap.size + 1 + 1 + 1 + 1 + 1 + 1, 0, none⟩), .pointer (some ⟨w.heap.size + 1 + 1 + 1 + 1 + 1 + 1 + 1, 0, none⟩), .pointer (some ⟨w.heap.size + 1 + 1 + 1 + 1 + 1 + 1 + 2, 0, none⟩)],
      .agg #[.int .i64 p.x, .int .i64 p.y, .int .i64 p.n, .int .i64 p.d], undef, undef, undef, undef, undef, undef, undef, undef, undef, undef, undef, undef, undef, undef, undef, undef, undef, undef, undef, undef, undef, undef, undef, undef], defers := [] })
    ?hAx ?assign ?body ?done ?stop
  case hAx =>
    rintro p a' _ W W' row ⟨Bx, h1, h2, h3⟩ hg hr
    exact ⟨Bx, h1, (grownBy_keeps_cells hg (fun r e => (hr r e).2) h2 rfl).trans h2, h3⟩
  case assign =>
    rintro l pre p W K ⟨hE, hB⟩ hK
    have HE := Lib.hid hE
    have HB := Lib.hid hB
    have HK := Lib.hid hK
    clear hE hB hK
    unfold encP
    gi_wp2_with fail
    have hE := HE.out
    have hB := HB.out
    refine HK.out _ _ ((KeepsOthers.alloc _ _).from _) (KB.of_below ((Below.refl _ _).alloc (Nat.le_refl _) _)) ⟨(extSt_own _ _).alloc _ hE, hB.alloc hB.size _⟩ ⟨W.heap.size, ?_, World.alloc_heap_new _ _, rfl⟩
    have := (Array.getElem?_eq_some_iff.1 hE.2.2).1
    omega
  case body =>
    rintro l pre p a' W hl hrec ⟨hE, hB⟩ ⟨Bx, hBx, hbox, rfl⟩ hlen
    have HE := Lib.hid hE
    have HB := Lib.hid hB
    have HBOX := Lib.hid hbox
    have HES := Lib.hid (extrE_snoc pre p)
    clear hE hB hbox hrec hlen
    generalize extrE pre = o at *
    generalize hoe : extrE (pre ++ [p]) = o' at HES
    have HOE := Lib.hid hoe
    clear hoe
    cases o with
    | none =>
      obtain ⟨h1, h2, h3⟩ := HE.out
      have c0 : W.cell? ⟨w.heap.size + 1 + 1 + 1 + 1 + 1, 0, none⟩ = some (.bool false) := by rw [cell_of_row W _ 0 _ _ _ h3]; rfl
      have f0 : W.frozen? ⟨w.heap.size + 1 + 1 + 1 + 1 + 1, 0, none⟩ = false := by simp [World.frozen?, h3]
      obtain ⟨⟨b0, b1, b2, b3⟩, _⟩ := cells4 HBOX.out
      obtain ⟨⟨l0, l1, l2, l3⟩, l4, l5, l6, l7⟩ := cells4 h1
      obtain ⟨⟨m0, m1, m2, m3⟩, m4, m5, m6, m7⟩ := cells4 h2
      clear h1 h2 h3
      gi_wp2_with fail
      refine ⟨trivial, ?_⟩
      gi_wp2_with fail
      refine ⟨trivial, ?_⟩
      gi_wp2_with fail
      refine (fun (h : Rnd W0.heap.size (w.heap.size + 1 + 1 + 1) (w.heap.size + 1 + 1 + 1 + 1 + 1 + 1) w.heap.size W _ ∧ Ext3 (w.heap.size + 1 + 1 + 1) (vP p) (vP p) true _) => ⟨h.1.kf, h.1.kb, ⟨by rw [HOE.out, HES.out]; exact h.2, HB.out.trans h.1.bl⟩⟩) ⟨?_, ?_⟩
      · exact ((Rnd.put4 W _ _ _ _ _ (by omega) (by omega) (by omega)).trans (Rnd.put4 _ _ _ _ _ _ (by omega) (by omega) (by omega))).trans (Rnd.set _ _ _ _ (by omega) (by omega) (by omega))
      · exact ((Ext3.low _ _ _ _ HE.out).top _ _ _ _).flag true
    | some lm =>
      obtain ⟨lo, mo⟩ := lm
      obtain ⟨hp1, hp2, hp3, hp4⟩ := p.ok
      obtain ⟨hl1, hl2, hl3, hl4⟩ := lo.ok
      obtain ⟨hm1, hm2, hm3, hm4⟩ := mo.ok
      obtain ⟨h1, h2, h3⟩ := HE.out
      have c0 : W.cell? ⟨w.heap.size + 1 + 1 + 1 + 1 + 1, 0, none⟩ = some (.bool true) := by rw [cell_of_row W _ 0 _ _ _ h3]; rfl
      obtain ⟨⟨b0, b1, b2, b3⟩, _⟩ := cells4 HBOX.out
      obtain ⟨⟨l0, l1, l2, l3⟩, _⟩ := cells4 h1
      clear h1 h2 h3
      gi_wp2_with fail
      refine ⟨trivial, ?_⟩
      refine (CallsIn.inRound l (callsIn_wide.2 (compare_any p.n p.d lo.n lo.d W hp1 hp2 hl1 hl2 hp3 hp4 hl3 hl4))).mono ?_
      rintro e W1 ⟨rfl, hb1⟩
      have HE1 : Hid (Ext3 (w.heap.size + 1 + 1 + 1) (vP lo) (vP mo) true W1) := Ext3.below HE.out hb1
      have HX1 := Lib.hid ((hb1.block _ (Array.getElem?_eq_some_iff.1 HBOX.out).1).trans HBOX.out)
      have HR1 : Hid (Rnd W0.heap.size (w.heap.size + 1 + 1 + 1) (w.heap.size + 1 + 1 + 1 + 1 + 1 + 1) w.heap.size W W1) := Rnd.below hb1 HB.out.size
      clear c0 b0 b1 b2 b3 l0 l1 l2 l3 hb1
      obtain ⟨h1, h2, h3⟩ := HE1.out
      have c0 : W1.cell? ⟨w.heap.size + 1 + 1 + 1 + 1 + 1, 0, none⟩ = some (.bool true) := by rw [cell_of_row W1 _ 0 _ _ _ h3]; rfl
      obtain ⟨⟨b0, b1, b2, b3⟩, _⟩ := cells4 HX1.out
      obtain ⟨⟨l0, l1, l2, l3⟩, l4, l5, l6, l7⟩ := cells4 h1
      obtain ⟨⟨m0, m1, m2, m3⟩, _⟩ := cells4 h2
      clear h1 h2 h3
      generalize hc1 : cmpV p.n p.d lo.n lo.d = c1
      have HC1 := Lib.hid hc1
      clear hc1
      by_cases g1 : c1 < 0
      · have tok : True := trivial
        gi_wp2_with fail
        refine ⟨trivial, ?_⟩
        refine (CallsIn.inRound l (callsIn_wide.2 (compare_any p.n p.d mo.n mo.d (put4 W1 (w.heap.size + 1 + 1 + 1) (.int .i64 p.x) (.int .i64 p.y) (.int .i64 p.n) (.int .i64 p.d)) hp1 hp2 hm1 hm2 hp3 hp4 hm3 hm4))).mono ?_
        rintro e W3 ⟨rfl, hb3⟩
        have HE2 : Hid (Ext3 (w.heap.size + 1 + 1 + 1) (vP p) (vP mo) true (put4 W1 (w.heap.size + 1 + 1 + 1) (.int .i64 p.x) (.int .i64 p.y) (.int .i64 p.n) (.int .i64 p.d))) := Ext3.low _ _ _ _ HE1.out
        have HRm : Hid (Rnd W0.heap.size (w.heap.size + 1 + 1 + 1) (w.heap.size + 1 + 1 + 1 + 1 + 1 + 1) w.heap.size W (put4 W1 (w.heap.size + 1 + 1 + 1) (.int .i64 p.x) (.int .i64 p.y) (.int .i64 p.n) (.int .i64 p.d))) := HR1.out.trans (Rnd.put4 W1 _ _ _ _ _ (by omega) (by omega) (by omega))
        have HX2 : Hid (((put4 W1 (w.heap.size + 1 + 1 + 1) (.int .i64 p.x) (.int .i64 p.y) (.int .i64 p.n) (.int .i64 p.d))).heap[Bx]? = some (.cells (vP p) 118)) := put4_other _ _ _ _ (by omega) HX1.out
        have HE3 := Lib.hid (HE2.out.below hb3)
        have HX3 := Lib.hid ((hb3.block _ (Array.getElem?_eq_some_iff.1 HX2.out).1).trans HX2.out)
        have HR3 := Lib.hid (HRm.out.trans (Rnd.below hb3 (by have := HRm.out.bl.size; have := HB.out.size; omega)))
        obtain ⟨h1, h2, h3⟩ := HE3.out
        have c0 : W3.cell? ⟨w.heap.size + 1 + 1 + 1 + 1 + 1, 0, none⟩ = some (.bool true) := by rw [cell_of_row W3 _ 0 _ _ _ h3]; rfl
        have f0 : W3.frozen? ⟨w.heap.size + 1 + 1 + 1 + 1 + 1, 0, none⟩ = false := by simp [World.frozen?, h3]
        obtain ⟨⟨b0, b1, b2, b3⟩, _⟩ := cells4 HX3.out
        obtain ⟨⟨m0, m1, m2, m3⟩, m4, m5, m6, m7⟩ := cells4 h2
        clear h1 h2 h3 hb3
        generalize hc2 : cmpV p.n p.d mo.n mo.d = c2
        have HC2 := Lib.hid hc2
        clear hc2
        by_cases g2 : 0 < c2
        · gi_wp2_with fail
          refine (fun (h : Rnd W0.heap.size (w.heap.size + 1 + 1 + 1) (w.heap.size + 1 + 1 + 1 + 1 + 1 + 1) w.heap.size W _ ∧ Ext3 (w.heap.size + 1 + 1 + 1) (vP p) (vP p) true _) => ⟨h.1.kf, h.1.kb, ⟨by rw [HOE.out, HES.out, stepE_some, HC1.out, HC2.out, if_pos g1, if_pos g2]; exact h.2, HB.out.trans h.1.bl⟩⟩) ⟨?_, ?_⟩
          · exact (HR3.out.trans (Rnd.put4 _ _ _ _ _ _ (by omega) (by omega) (by omega))).trans (Rnd.set _ _ _ _ (by omega) (by omega) (by omega))
          · exact (Ext3.top _ _ _ _ HE3.out).flag true
        · gi_wp2_with fail
          refine (fun (h : Rnd W0.heap.size (w.heap.size + 1 + 1 + 1) (w.heap.size + 1 + 1 + 1 + 1 + 1 + 1) w.heap.size W _ ∧ Ext3 (w.heap.size + 1 + 1 + 1) (vP p) (vP mo) true _) => ⟨h.1.kf, h.1.kb, ⟨by rw [HOE.out, HES.out, stepE_some, HC1.out, HC2.out, if_pos g1, if_neg (by omega)]; exact h.2, HB.out.trans h.1.bl⟩⟩) ⟨?_, ?_⟩
          · exact HR3.out.trans (Rnd.set _ _ _ _ (by omega) (by omega) (by omega))
          · exact HE3.out.flag true
      · have tok : True := trivial
        gi_wp2_with fail
        refine ⟨trivial, ?_⟩
        refine (CallsIn.inRound l (callsIn_wide.2 (compare_any p.n p.d mo.n mo.d W1 hp1 hp2 hm1 hm2 hp3 hp4 hm3 hm4))).mono ?_
        rintro e W3 ⟨rfl, hb3⟩
        have HE2 := HE1
        have HRm := HR1
        have HX2 := HX1
        have HE3 := Lib.hid (HE2.out.below hb3)
        have HX3 := Lib.hid ((hb3.block _ (Array.getElem?_eq_some_iff.1 HX2.out).1).trans HX2.out)
        have HR3 := Lib.hid (HRm.out.trans (Rnd.below hb3 (by have := HRm.out.bl.size; have := HB.out.size; omega)))
        obtain ⟨h1, h2, h3⟩ := HE3.out
        have c0 : W3.cell? ⟨w.heap.size + 1 + 1 + 1 + 1 + 1, 0, none⟩ = some (.bool true) := by rw [cell_of_row W3 _ 0 _ _ _ h3]; rfl
        have f0 : W3.frozen? ⟨w.heap.size + 1 + 1 + 1 + 1 + 1, 0, none⟩ = false := by simp [World.frozen?, h3]
        obtain ⟨⟨b0, b1, b2, b3⟩, _⟩ := cells4 HX3.out
        obtain ⟨⟨m0, m1, m2, m3⟩, m4, m5, m6, m7⟩ := cells4 h2
        clear h1 h2 h3 hb3
        generalize hc2 : cmpV p.n p.d mo.n mo.d = c2
        have HC2 := Lib.hid hc2
        clear hc2
        by_cases g2 : 0 < c2
        · gi_wp2_with fail
          refine (fun (h : Rnd W0.heap.size (w.heap.size + 1 + 1 + 1) (w.heap.size + 1 + 1 + 1 + 1 + 1 + 1) w.heap.size W _ ∧ Ext3 (w.heap.size + 1 + 1 + 1) (vP lo) (vP p) true _) => ⟨h.1.kf, h.1.kb, ⟨by rw [HOE.out, HES.out, stepE_some, HC1.out, HC2.out, if_neg (by omega), if_pos g2]; exact h.2, HB.out.trans h.1.bl⟩⟩) ⟨?_, ?_⟩
          · exact (HR3.out.trans (Rnd.put4 _ _ _ _ _ _ (by omega) (by omega) (by omega))).trans (Rnd.set _ _ _ _ (by omega) (by omega) (by omega))
          · exact (Ext3.top _ _ _ _ HE3.out).flag true
        · gi_wp2_with fail
          refine (fun (h : Rnd W0.heap.size (w.heap.size + 1 + 1 + 1) (w.heap.size + 1 + 1 + 1 + 1 + 1 + 1) w.heap.size W _ ∧ Ext3 (w.heap.size + 1 + 1 + 1) (vP lo) (vP mo) true _) => ⟨h.1.kf, h.1.kb, ⟨by rw [HOE.out, HES.out, stepE_some, HC1.out, HC2.out, if_neg (by omega), if_neg (by omega)]; exact h.2, HB.out.trans h.1.bl⟩⟩) ⟨?_, ?_⟩
          · exact HR3.out.trans (Rnd.set _ _ _ _ (by omega) (by omega) (by omega))
          · exact HE3.out.flag true
  case done =>
    rintro D ps W hD rfl ⟨hE, hB⟩ hK
    obtain ⟨lo, mo, hlm⟩ := extrE_ne _ (allPts_ne xs ys vs xl xh yl yh)
    rw [hlm] at hE
    have HLM := Lib.hid hlm
    have HB := Lib.hid hB
    have HK := Lib.hid hK
    obtain ⟨h1, h2, h3⟩ := hE
    obtain ⟨⟨l0, l1, l2, l3⟩, l4, l5, l6, l7⟩ := cells4 h1
    obtain ⟨⟨m0, m1, m2, m3⟩, m4, m5, m6, m7⟩ := cells4 h2
    have H1 := Lib.hid h1
    have H2 := Lib.hid h2
    clear h1 h2 h3 hB hK hlm
    gi_wp2_with fail
    gi_region
    gi_wp2_with fail
    have hDs := HSZ.out
    obtain ⟨Wf, hWf⟩ : ∃ Wf, (put4 (put4 W (w.heap.size + 1 + 1 + 1) (.int .i64 lo.x) (.int .i64 lo.y) (.int .i64 lo.n) (.int .i64 lo.d)) (w.heap.size + 1 + 1 + 1 + 1) (.int .i64 mo.x) (.int .i64 mo.y) (.int .i64 mo.n) (.int .i64 mo.d)) = Wf := ⟨_, rfl⟩
    have hK2 : Wf.heap[D]? = some (.deferred (some [])) := by rw [← hWf]; exact put4_other _ _ _ _ (by omega) (put4_other _ _ _ _ (by omega) HK.out)
    have q1 : Wf.heap[w.heap.size + 1 + 1 + 1]? = some (.cells (vP lo) 118) := by rw [← hWf]; exact put4_other _ _ _ _ (by omega) (put4_same _ _ _ _ H1.out)
    have q2 : Wf.heap[w.heap.size + 1 + 1 + 1 + 1]? = some (.cells (vP mo) 118) := by rw [← hWf]; exact put4_same _ _ _ _ (put4_other _ _ _ _ (by omega) H2.out)
    have hBf : Below w.heap.size w Wf := by
      rw [← hWf]
      exact (HB.out.trans (Rnd.put4 (B := 0) (n1 := 0) (n2 := w.heap.size + 9) W _ _ _ _ _ (by omega) (by omega) (by omega)).bl).trans (Rnd.put4 (B := 0) (n1 := 0) (n2 := w.heap.size + 9) _ _ _ _ _ _ (by omega) (by omega) (by omega)).bl
    unfold put4 at hWf
    rw [hWf]
    clear hWf l0 l1 l2 l3 l4 l5 l6 l7 m0 m1 m2 m3 m4 m5 m6 m7
    have r1 : (Wf.drew.putObj D (.deferred none)).heap[w.heap.size + 1 + 1 + 1]? = some (.cells (vP lo) 118) := (World.putObj_heap_other (by omega)).trans q1
    have r2 : (Wf.drew.putObj D (.deferred none)).heap[w.heap.size + 1 + 1 + 1 + 1]? = some (.cells (vP mo) 118) := (World.putObj_heap_other (by omega)).trans q2
    have hBg : Below w.heap.size w (Wf.drew.putObj D (.deferred none)) := hBf.drew.trans (belowK_b (w := w) (Nat.le_refl _) Wf.drew D _ _ (by omega) hK2 rfl rfl)
    refine ⟨by simp, .inl ⟨_, _, rfl, run_takeDeferred (w := Wf.drew) hK2, ?_⟩⟩
    generalize Wf.drew.putObj D (.deferred none) = Wg at *
    obtain ⟨⟨l0, l1, l2, l3⟩, _⟩ := cells4 r1
    obtain ⟨⟨m0, m1, m2, m3⟩, _⟩ := cells4 r2
    refine ⟨.tuple #[.agg (vP lo), .agg (vP mo)], ?_, ⟨lo, mo, HLM.out, rfl, hBg⟩⟩
    simp [results, Try.results77, go_sem, vP, l0, l1, l2, l3, m0, m1, m2, m3]
  case stop =>
    rintro D c pre W _ _ h _
    exact h.elim
end Go.Proofs.Ythohcimmoobaoaa
/- The contracts of spans.lies and spans.checkPoints. -/
namespace Go.Proofs.Ythohcimmoobaoaa
open Go.RowKit

def liesB (l : List Int) (x : Int × Int) : Bool := decide (l[0]?.getD 0 ≤ x.1) && decide (x.2 ≤ l[l.length - 1]?.getD 0)
set_option maxHeartbeats 400000 in
theorem lies_any (A : Option Addr) (l : List Int) (c : Nat) (lo hi : Int) (w : World) (h1 : 1 ≤ l.length) (hl : l.length ≤ 1000000) (hA : Ints w A l) :
    Calls Try.prog 64 #[.slice A l.length c, .agg #[.int .i64 lo, .int .i64 hi]] w fun e w' => e = .returned (.bool (liesB l (lo, hi))) ∧ Below w.heap.size w w' := by
  obtain ⟨b, off, rfl, hbl, hc⟩ := hA (by omega)
  have c0 := hc 0 (by omega)
  have c1 := hc (l.length - 1) (by omega)
  simp only [Nat.add_zero] at c0
  have hR : liesB l (lo, hi) = (decide (l[0]?.getD 0 ≤ lo) && decide (hi ≤ l[l.length - 1]?.getD 0)) := rfl
  generalize l[0]?.getD 0 = a at *
  generalize l[l.length - 1]?.getD 0 = z at *
  have t1 : ((l.length : Int) - 1).toNat = l.length - 1 := by omega
  have t2 : (0 : Int) ≤ (l.length : Int) - 1 := by omega
  have t3 : (l.length : Int) - 1 < (l.length : Int) := by omega
  have t4 : (0 : Int) < (l.length : Int) := by omega
  have u1 : IntKind.i64.wrap ((l.length : Int) - 1) = (l.length : Int) - 1 := IntWalk.i64_in _ (by omega)
  have HR := Lib.hid hR
  have hB : ∀ (o : Obj) (n : Nat), Below w.heap.size w ((w.alloc o).drewN n) := fun o n => Below.drewN' ((Below.refl _ w).alloc (Nat.le_refl _) _) n
  have HB := Lib.hid hB
  clear hR hc hA hB
  by_cases g1 : a ≤ lo
  · have g1' : decide (a ≤ lo) = true := by simpa using g1
    by_cases g2 : hi ≤ z
    · have g2' : decide (hi ≤ z) = true := by simpa using g2
      go_enter Try.func64, Try.ntmps64
      go_wp2_with fail
      go_quiet (fail)
      go_wp2_with fail
      go_ret
      exact ⟨by rw [HR.out, g1', g2']; rfl, HB.out _ _⟩
    · have g2' : decide (hi ≤ z) = false := by simpa using g2
      go_enter Try.func64, Try.ntmps64
      go_wp2_with fail
      go_quiet (fail)
      go_wp2_with fail
      go_ret
      exact ⟨by rw [HR.out, g1', g2']; rfl, HB.out _ _⟩
  · have g1' : decide (a ≤ lo) = false := by simpa using g1
    go_enter Try.func64, Try.ntmps64
    go_wp2_with fail
    go_quiet (fail)
    go_wp2_with fail
    go_ret
    exact ⟨by rw [HR.out, g1']; rfl, HB.out _ _⟩

/-- sizes of a table, whatever it is -/
structure TSz (xs ys : List Int) (vs : List (List Int)) : Prop where
  x : xs.length ≤ 4611686018427387904
  y : ys.length ≤ 4611686018427387904
  v : vs.length ≤ 4611686018427387904
  r : RowsLe vs
theorem checkTableR (xs ys : List Int) (vs : List (List Int)) (X Y V : Option Addr) (cx cy cv : Nat) (w : World) (hS : TSz xs ys vs) (hR : TabR w X Y V cx cy cv xs ys vs) :
   Calls Try.prog 63 #[.agg #[.slice X xs.length cx, .slice Y ys.length cy, .slice V vs.length cv]] w fun e w' => e = .returned (.int .i64 (tabErr xs ys vs)) ∧ Below w.heap.size w w' :=
  checkTable_any xs ys vs X Y V cx cy cv w hS.x hS.y hS.v hS.r hR.hX hR.hY hR.hV
theorem sps_new2 (w : World) (a b c d : Int) (t : TypeId) (B : Nat) (hB : B = w.heap.size) : Sps (w.alloc (.cells #[.int .i64 a, .int .i64 b, .int .i64 c, .int .i64 d] t)) (some ⟨B, 0, none⟩) [(a, b), (c, d)] := fun _ => by
  subst hB
  refine ⟨_, 0, rfl, by simp, fun k hk => ?_⟩
  match k, hk with
  | 0, _ => simp
  | 1, _ => simp
/-- three boxes at the head of a call -/
def w3 (w : World) (t1 t2 t3 x1 x2 y1 y2 : Value) : World := ((w.alloc (.cells #[t1, t2, t3] 40)).alloc (.cells #[x1, x2] 27)).alloc (.cells #[y1, y2] 27)
theorem boxes3 {w w1 : World} {t1 t2 t3 x1 x2 y1 y2 : Value} {N : Nat} (hb : Below N (w3 w t1 t2 t3 x1 x2 y1 y2) w1) (hN : w.heap.size + 3 ≤ N) :
    (w1.cell? ⟨w.heap.size, 0, none⟩ = some t1 ∧ w1.cell? ⟨w.heap.size, 1, none⟩ = some t2 ∧ w1.cell? ⟨w.heap.size, 2, none⟩ = some t3) ∧
    (w1.cell? ⟨w.heap.size + 1, 0, none⟩ = some x1 ∧ w1.cell? ⟨w.heap.size + 1, 1, none⟩ = some x2) ∧ (w1.cell? ⟨w.heap.size + 1 + 1, 0, none⟩ = some y1 ∧ w1.cell? ⟨w.heap.size + 1 + 1, 1, none⟩ = some y2) ∧ w.heap.size + 1 + 1 + 1 ≤ w1.heap.size := by
  have hs := hb.size
  have h0 : w1.heap[w.heap.size]? = some (.cells #[t1, t2, t3] 40) := (hb.block _ (by omega)).trans (by
    simp only [w3, heap_alloc_at, World.size_alloc]; repeat (first | rw [if_pos trivial] | rw [if_neg (by omega)]))
  have h1 : w1.heap[w.heap.size + 1]? = some (.cells #[x1, x2] 27) := (hb.block _ (by omega)).trans (by
    simp only [w3, heap_alloc_at, World.size_alloc]; repeat (first | rw [if_pos trivial] | rw [if_neg (by omega)]))
  have h2 : w1.heap[w.heap.size + 1 + 1]? = some (.cells #[y1, y2] 27) := (hb.block _ (by omega)).trans (by
    simp only [w3, heap_alloc_at, World.size_alloc]; repeat (first | rw [if_pos trivial] | rw [if_neg (by omega)]))
  refine ⟨⟨?_, ?_, ?_⟩, ⟨?_, ?_⟩, ⟨?_, ?_⟩, by simpa [w3] using hs⟩
  · rw [cell_of_row w1 _ 0 _ _ _ h0]; rfl
  · rw [cell_of_row w1 _ 1 _ _ _ h0]; rfl
  · rw [cell_of_row w1 _ 2 _ _ _ h0]; rfl
  · rw [cell_of_row w1 _ 0 _ _ _ h1]; rfl
  · rw [cell_of_row w1 _ 1 _ _ _ h1]; rfl
  · rw [cell_of_row w1 _ 0 _ _ _ h2]; rfl
  · rw [cell_of_row w1 _ 1 _ _ _ h2]; rfl
theorem w3_below (w : World) (t1 t2 t3 x1 x2 y1 y2 : Value) : Below w.heap.size w (w3 w t1 t2 t3 x1 x2 y1 y2) := (((Below.refl _ w).alloc (Nat.le_refl _) _).alloc (by simp) _).alloc (by simp; omega) _
theorem w3_size (w : World) (t1 t2 t3 x1 x2 y1 y2 : Value) : (w3 w t1 t2 t3 x1 x2 y1 y2).heap.size = w.heap.size + 3 := by simp [w3]
theorem w3_le {w : World} {t1 t2 t3 x1 x2 y1 y2 : Value} : w.heap.size ≤ (w3 w t1 t2 t3 x1 x2 y1 y2).heap.size := by rw [w3_size]; omega
theorem w3_le3 {w : World} {t1 t2 t3 x1 x2 y1 y2 : Value} : w.heap.size + 3 ≤ (w3 w t1 t2 t3 x1 x2 y1 y2).heap.size := by rw [w3_size]; omega
def cpErr (xs ys : List Int) (vs : List (List Int)) (x y : Int × Int) : Int :=
  if tabB xs ys vs then (if spErr [x, y] != 0 then spErr [x, y] else if liesB xs x && liesB ys y then 0 else 1) else 11
set_option maxHeartbeats 1000000 in
theorem checkPoints_any (xs ys : List Int) (vs : List (List Int)) (X Y V : Option Addr) (cx cy cv : Nat) (x y : Int × Int) (w : World) (hS : TSz xs ys vs) (hR : TabR w X Y V cx cy cv xs ys vs) :
   Calls Try.prog 76 #[.agg #[.slice X xs.length cx, .slice Y ys.length cy, .slice V vs.length cv], .agg #[.int .i64 x.1, .int .i64 x.2], .agg #[.int .i64 y.1, .int .i64 y.2]] w fun e w' => e = .returned (.int .i64 (cpErr xs ys vs x y)) ∧ Below w.heap.size w w' := by
  obtain ⟨xl, xh⟩ := x
  obtain ⟨yl, yh⟩ := y
  have HRR := Lib.hid hR
  have HS := Lib.hid hS
  have HB0 := Lib.hid (w3_below w (.slice X xs.length cx) (.slice Y ys.length cy) (.slice V vs.length cv) (.int .i64 xl) (.int .i64 xh) (.int .i64 yl) (.int .i64 yh))
  clear hR hS
  show Calls Try.prog 76 #[.agg #[.slice X xs.length cx, .slice Y ys.length cy, .slice V vs.length cv], .agg #[.int .i64 xl, .int .i64 xh], .agg #[.int .i64 yl, .int .i64 yh]] w _
  by_cases ht : tabB xs ys vs = true
  · have HT := Lib.hid ht
    have HTe : Hid (tabErr xs ys vs = 0) := by unfold Hid tabErr; rw [if_pos ht]
    have hC : cpErr xs ys vs (xl, xh) (yl, yh) = if spErr [(xl, xh), (yl, yh)] != 0 then spErr [(xl, xh), (yl, yh)] else if liesB xs (xl, xh) && liesB ys (yl, yh) then 0 else 1 := by unfold cpErr; rw [if_pos ht]
    have HC := Lib.hid hC
    have hx2 := (tbl_of ht).ax.two
    have hx12 := (tbl_of ht).ax.twelve
    have hy2 := (tbl_of ht).ay.two
    have hy12 := (tbl_of ht).ay.twelve
    clear ht hC
    go_enter Try.func76, Try.ntmps76
    go_wp2_with fail
    refine (checkTableR xs ys vs X Y V cx cy cv _ HS.out (HRR.out.below HB0.out)).mono ?_
    rintro e w1 ⟨rfl, hb1⟩
    rw [HTe.out]
    have HB1 := Lib.hid hb1
    obtain ⟨⟨a1, a2, a3⟩, ⟨a4, a5⟩, ⟨a6, a7⟩, hz⟩ := boxes3 (N := w.heap.size + 3) (hb1.mono w3_le3) (by omega)
    clear hb1
    go_wp2_with fail
    refine (spanned_any _ [(xl, xh), (yl, yh)] 2 _ (by simp) (sps_new2 _ _ _ _ _ _ _ rfl)).mono ?_
    rintro e w2 ⟨rfl, hb2⟩
    have hb3 : Below w1.heap.size w1 w2 := ((Below.refl _ w1).alloc (Nat.le_refl _) _).trans (hb2.mono (by simp))
    have HB2 := Lib.hid (HB1.out.trans (hb3.mono HB1.out.size))
    clear a1 a2 a3 a4 a5 a6 a7 hz hb2 hb3
    obtain ⟨⟨a1, a2, a3⟩, ⟨a4, a5⟩, ⟨a6, a7⟩, hz⟩ := boxes3 (N := w.heap.size + 3) (HB2.out.mono w3_le3) (by omega)
    by_cases hs : (spErr [(xl, xh), (yl, yh)] != 0) = true
    · have R : Hid (cpErr xs ys vs (xl, xh) (yl, yh) = spErr [(xl, xh), (yl, yh)]) := by unfold Hid; rw [HC.out, if_pos hs]
      generalize spErr [(xl, xh), (yl, yh)] = sp at *
      go_wp2_with fail
      go_ret
      exact ⟨by rw [R.out]; rfl, HB0.out.trans (HB2.out.mono w3_le)⟩
    · have hs0 : (spErr [(xl, xh), (yl, yh)] != 0) = false := by simpa using hs
      have R : Hid (cpErr xs ys vs (xl, xh) (yl, yh) = if liesB xs (xl, xh) && liesB ys (yl, yh) then 0 else 1) := by unfold Hid; rw [HC.out, if_neg hs]
      have hs1 : spErr [(xl, xh), (yl, yh)] = 0 := by simpa using hs0
      rw [hs1]
      clear hs hs0 hs1 HC
      go_wp2_with fail
      refine (lies_any X xs cx xl xh _ (by omega) (by omega) ((HRR.out.hX.below HB0.out).below HB2.out)).mono ?_
      rintro e w4 ⟨rfl, hb3⟩
      have HB4 := Lib.hid (HB2.out.trans (hb3.mono HB2.out.size))
      clear a1 a2 a3 a4 a5 a6 a7 hz hb3
      obtain ⟨⟨a1, a2, a3⟩, ⟨a4, a5⟩, ⟨a6, a7⟩, hz⟩ := boxes3 (N := w.heap.size + 3) (HB4.out.mono w3_le3) (by omega)
      by_cases h1 : liesB xs (xl, xh) = true
      · rw [h1]
        have H1 := Lib.hid h1
        clear h1
        go_wp2_with fail
        refine (lies_any Y ys cy yl yh _ (by omega) (by omega) ((HRR.out.hY.below HB0.out).below HB4.out)).mono ?_
        rintro e w5 ⟨rfl, hb4⟩
        have HB5 := Lib.hid (HB4.out.trans (hb4.mono HB4.out.size))
        clear hb4
        by_cases h2 : liesB ys (yl, yh) = true
        · rw [h2]
          have H2 := Lib.hid h2
          clear h2
          go_wp2_with fail
          go_ret
          exact ⟨by rw [R.out, H1.out, H2.out]; rfl, HB0.out.trans (HB5.out.mono w3_le)⟩
        · have h2' : liesB ys (yl, yh) = false := by simpa using h2
          rw [h2']
          have H2 := Lib.hid h2'
          clear h2 h2'
          go_wp2_with fail
          go_ret
          exact ⟨by rw [R.out, H1.out, H2.out]; rfl, HB0.out.trans (HB5.out.mono w3_le)⟩
      · have h1' : liesB xs (xl, xh) = false := by simpa using h1
        rw [h1']
        have H1 := Lib.hid h1'
        clear h1 h1'
        go_wp2_with fail
        go_ret
        exact ⟨by rw [R.out, H1.out]; rfl, HB0.out.trans (HB4.out.mono w3_le)⟩
  · have ht' : tabB xs ys vs = false := by simpa using ht
    have HTe : Hid (tabErr xs ys vs = 11) := by unfold Hid tabErr; rw [if_neg ht]
    have HC : Hid (cpErr xs ys vs (xl, xh) (yl, yh) = 11) := by unfold Hid cpErr; rw [if_neg ht]
    clear ht ht'
    go_enter Try.func76, Try.ntmps76
    go_wp2_with fail
    refine (checkTableR xs ys vs X Y V cx cy cv _ HS.out (HRR.out.below HB0.out)).mono ?_
    rintro e w1 ⟨rfl, hb1⟩
    rw [HTe.out]
    have HB1 := Lib.hid (HB0.out.trans (hb1.mono w3_le))
    clear hb1
    go_wp2_with fail
    go_ret
    exact ⟨by rw [HC.out]; rfl, HB1.out⟩
end Go.Proofs.Ythohcimmoobaoaa
/- Arguments of plain make, opened: aggregates of ints; tables. -/
namespace Go.Proofs.Ythohcimmoobaoaa
open Go.ChangeShapes Go.WideShapes Go.ChangeAt Go.RowKit Go.Joins Go.Deep

theorem Try.own : ownKnob Try.prog.godebug = none := by kernel_rfl
theorem Try.laidOut : laidOutB Try.prog = true := by kernel_rfl
section
variable {P : Program}
end
section
variable {H : Type} {enc : TypeId × Value → H} {P : Program} {w : World} {r : Reach} {b0 base : Nat} {spare : Nat → Bool} {held : Bool} {v : Value} {d : DataW H} {ps : List MemPlace}
theorem agg_struct {t : TypeId} {fs : Array Field} (ht : P.underlying t = some (.struct fs)) (hv : Value.okWide P w r b0 t v) : ∃ cs, v = .agg cs := by
  obtain ⟨cs, h, _⟩ := okWide_struct ht hv
  exact ⟨cs, h⟩
end
/-- no length beyond what memory holds -/
structure TSm (xs ys : List Int) (vs : List (List Int)) : Prop where
  x : xs.length ≤ maxLen
  y : ys.length ≤ maxLen
  v : vs.length ≤ maxLen
  r : ∀ r ∈ vs, r.length ≤ maxLen
end Go.Proofs.Ythohcimmoobaoaa
/- Arguments that came in: what their cells are. No conditions. -/
namespace Go.Proofs.Ythohcimmoobaoaa
open Go.RowKit Lift

theorem in_ints {l : List (List D)} (h : ∀ x ∈ l, CfL [.int] x) : ∃ xs, l = ints xs ∧ ∀ x ∈ xs, -9223372036854775808 ≤ x ∧ x ≤ 9223372036854775807 := by
  induction l with
  | nil => exact ⟨[], rfl, by simp⟩
  | cons x l ih =>
    obtain ⟨xs, rfl, hx⟩ := ih fun y hy => h y (List.mem_cons_of_mem _ hy)
    have h0 := h x (List.mem_cons_self ..)
    cases h0 with
    | int n ss ds h1 h2 h3 =>
      cases h3
      exact ⟨n :: xs, rfl, fun y hy => by
        rcases List.mem_cons.1 hy with rfl | hy
        · exact ⟨h1, h2⟩
        · exact hx y hy⟩
theorem in_rows {l : List (List D)} (h : ∀ x ∈ l, CfL [.sl [.int]] x) : ∃ vs, l = rows vs ∧ ∀ r ∈ vs, r.length ≤ maxLen := by
  induction l with
  | nil => exact ⟨[], rfl, by simp⟩
  | cons x l ih =>
    obtain ⟨vs, rfl, hx⟩ := ih fun y hy => h y (List.mem_cons_of_mem _ hy)
    have h0 := h x (List.mem_cons_self ..)
    cases h0 with
    | sl e k ss ds h1 h2 h3 =>
      cases h3
      obtain ⟨xs, rfl, _⟩ := in_ints h2
      exact ⟨xs :: vs, rfl, fun y hy => by
        rcases List.mem_cons.1 hy with rfl | hy
        · simpa [ints] using h1
        · exact hx y hy⟩
theorem in_2 {ds : List D} (h : CfL [.int, .int] ds) : ∃ a b : Int, ds = [dI a, dI b] ∧ (-9223372036854775808 ≤ a ∧ a ≤ 9223372036854775807) ∧ -9223372036854775808 ≤ b ∧ b ≤ 9223372036854775807 := by
  cases h with
  | int a ss ds h1 h2 h =>
    cases h with
    | int b ss ds h3 h4 h => cases h; exact ⟨a, b, rfl, ⟨h1, h2⟩, h3, h4⟩
end Go.Proofs.Ythohcimmoobaoaa
/- Boxes that came in. No conditions. -/
namespace Go.Proofs.Ythohcimmoobaoaa
open Go.RowKit Lift Go.ChangeShapes Go.WideShapes Go.ChangeAt Go.Joins

theorem notagg_slice {P : Program} {w : World} {r : Reach} {b0 : Nat} {t e : TypeId} {v : Value} (ht : P.underlying t = some (.slice e)) (hv : Value.okWide P w r b0 t v) : ∀ cs, v ≠ .agg cs := by
  rintro cs rfl
  simp [Value.okWide, Cell.okWide, Cell.ok, ht] at hv
theorem in_sps {l : List (List D)} (h : ∀ x ∈ l, CfL [.int, .int] x) : ∃ b, l = sps b ∧ ∀ x ∈ b, (-9223372036854775808 ≤ x.1 ∧ x.1 ≤ 9223372036854775807) ∧ -9223372036854775808 ≤ x.2 ∧ x.2 ≤ 9223372036854775807 := by
  induction l with
  | nil => exact ⟨[], rfl, by simp⟩
  | cons x l ih =>
    obtain ⟨b, rfl, hb⟩ := ih fun y hy => h y (List.mem_cons_of_mem _ hy)
    obtain ⟨u, v, rfl, hu, hv⟩ := in_2 (h x (List.mem_cons_self ..))
    exact ⟨(u, v) :: b, rfl, fun y hy => by
      rcases List.mem_cons.1 hy with rfl | hy
      · exact ⟨hu, hv⟩
      · exact hb y hy⟩
theorem in_box {ds : List D} (h : CfL [.sl [.int, .int]] ds) : ∃ b : Bx, ds = [.list (sps b)] ∧ b.length ≤ maxLen ∧ ∀ x ∈ b, (-9223372036854775808 ≤ x.1 ∧ x.1 ≤ 9223372036854775807) ∧ -9223372036854775808 ≤ x.2 ∧ x.2 ≤ 9223372036854775807 := by
  cases h with
  | sl e l ss ds h1 h2 h3 =>
    cases h3
    obtain ⟨b, rfl, hb⟩ := in_sps h2
    exact ⟨b, rfl, by simpa [sps] using h1, hb⟩
end Go.Proofs.Ythohcimmoobaoaa
/- The functions' bodies, translated. Written by a program; no conditions. -/
namespace Go.Proofs.Ythohcimmoobaoaa
open Go.RowKit Lift

/-- sling_CheckHoist -/
def csling_CheckHoist : ACode :=
  (.seq
   (.region false [⟨some 1, .box (.tmp 0), none, []⟩,
     ⟨some 2, .mv (.const (.int .i64 0)), none, []⟩] [])
  (.seq
   (.region false [⟨some 4, .fad 1 (.tmp 1), none, []⟩,
     ⟨some 5, .fad 0 (.tmp 4), none, []⟩,
     ⟨some 6, .load1 (.tmp 5), none, []⟩,
     ⟨some 3, .mv (.tmp 6), none, []⟩] [4, 5, 6])
  (.seq
   (.seq
    (.region true [⟨some 7, .fad 0 (.tmp 1), none, []⟩,
      ⟨some 8, .load1 (.tmp 7), none, [0]⟩,
      ⟨some 9, .call (.func 53) [(.tmp 8), (.const (.int .i64 1)), (.const (.int .i64 100))], none, [1, 0]⟩,
      ⟨some 10, .un .not (.tmp 9), none, [2, 1, 0]⟩,
      ⟨some 11, .mv (.tmp 10), none, [3, 2, 1, 0]⟩,
      ⟨some 12, .fad 1 (.tmp 1), (some (some 11, false)), [4, 3, 2, 1, 0]⟩,
      ⟨some 13, .loadN 3 (.tmp 12), (some (some 11, false)), [5, 4, 3, 2, 1, 0]⟩,
      ⟨some 14, .call (.func 63) [(.tmp 13)], (some (some 11, false)), [6, 5, 4, 3, 2, 1, 0]⟩,
      ⟨some 15, .bin .neq (.tmp 14) (.const (.int .i64 0)), (some (some 11, false)), [7, 6, 5, 4, 3, 2, 1, 0]⟩,
      ⟨some 16, .pick (.tmp 11) (.const (.bool true)) (.tmp 15), none, [4, 3, 2, 1, 0, 8, 7, 6, 5]⟩,
      ⟨some 17, .mv (.tmp 16), none, [9, 4, 3, 2, 1, 0, 8, 7, 6, 5]⟩,
      ⟨some 18, .mv (.tmp 3), (some (some 17, false)), [10, 9, 4, 3, 2, 1, 0, 8, 7, 6, 5]⟩,
      ⟨some 19, .iadS 1 (.tmp 18) (.const (.int .i64 0)), (some (some 17, false)), [11, 10, 9, 4, 3, 2, 1, 0, 8, 7, 6, 5]⟩,
      ⟨some 20, .load1 (.tmp 19), (some (some 17, false)), [12, 11, 10, 9, 4, 3, 2, 1, 0, 8, 7, 6, 5]⟩,
      ⟨some 21, .bin .gtr (.tmp 20) (.const (.int .i64 0)), (some (some 17, false)), [13, 12, 11, 10, 9, 4, 3, 2, 1, 0, 8, 7, 6, 5]⟩,
      ⟨some 22, .pick (.tmp 17) (.const (.bool true)) (.tmp 21), none, [10, 9, 4, 3, 2, 1, 0, 8, 7, 6, 5, 14, 13, 12, 11]⟩,
      ⟨some 23, .mv (.tmp 22), none, [15, 10, 9, 4, 3, 2, 1, 0, 8, 7, 6, 5, 14, 13, 12, 11]⟩,
      ⟨some 24, .mv (.tmp 3), (some (some 23, false)), [16, 15, 10, 9, 4, 3, 2, 1, 0, 8, 7, 6, 5, 14, 13, 12, 11]⟩,
      ⟨some 25, .mv (.tmp 3), (some (some 23, false)), [16, 15, 10, 9, 4, 3, 2, 1, 0, 8, 7, 6, 5, 14, 13, 12, 11]⟩,
      ⟨some 26, .len_ (.tmp 25), (some (some 23, false)), [18, 16, 15, 10, 9, 4, 3, 2, 1, 0, 8, 7, 6, 5, 14, 13, 12, 11]⟩,
      ⟨some 27, .bin .sub (.tmp 26) (.const (.int .i64 1)), (some (some 23, false)), [19, 18, 16, 15, 10, 9, 4, 3, 2, 1, 0, 8, 7, 6, 5, 14, 13, 12, 11]⟩,
      ⟨some 28, .iadS 1 (.tmp 24) (.tmp 27), (some (some 23, false)), [17, 16, 15, 10, 9, 4, 3, 2, 1, 0, 8, 7, 6, 5, 14, 13, 12, 11, 20, 19, 18]⟩,
      ⟨some 29, .load1 (.tmp 28), (some (some 23, false)), [21, 17, 16, 15, 10, 9, 4, 3, 2, 1, 0, 8, 7, 6, 5, 14, 13, 12, 11, 20, 19, 18]⟩,
      ⟨some 30, .fad 0 (.tmp 1), (some (some 23, false)), [16, 15, 10, 9, 4, 3, 2, 1, 0, 8, 7, 6, 5, 14, 13, 12, 11]⟩,
      ⟨some 31, .load1 (.tmp 30), (some (some 23, false)), [23, 16, 15, 10, 9, 4, 3, 2, 1, 0, 8, 7, 6, 5, 14, 13, 12, 11]⟩,
      ⟨some 32, .bin .lss (.tmp 29) (.tmp 31), (some (some 23, false)), [22, 21, 17, 16, 15, 10, 9, 4, 3, 2, 1, 0, 8, 7, 6, 5, 14, 13, 12, 11, 20, 19, 18, 24, 23]⟩,
      ⟨some 33, .pick (.tmp 23) (.const (.bool true)) (.tmp 32), none, [16, 15, 10, 9, 4, 3, 2, 1, 0, 8, 7, 6, 5, 14, 13, 12, 11, 25, 22, 21, 17, 20, 19, 18, 24, 23]⟩,
      ⟨some 34, .mv (.tmp 33), none, [26, 16, 15, 10, 9, 4, 3, 2, 1, 0, 8, 7, 6, 5, 14, 13, 12, 11, 25, 22, 21, 17, 20, 19, 18, 24, 23]⟩,
      ⟨some 35, .fad 4 (.tmp 1), (some (some 34, false)), [27, 26, 16, 15, 10, 9, 4, 3, 2, 1, 0, 8, 7, 6, 5, 14, 13, 12, 11, 25, 22, 21, 17, 20, 19, 18, 24, 23]⟩,
      ⟨some 36, .load1 (.tmp 35), (some (some 34, false)), [28, 27, 26, 16, 15, 10, 9, 4, 3, 2, 1, 0, 8, 7, 6, 5, 14, 13, 12, 11, 25, 22, 21, 17, 20, 19, 18, 24, 23]⟩,
      ⟨some 37, .call (.func 53) [(.tmp 36), (.const (.int .i64 0)), (.const (.int .i64 100))], (some (some 34, false)), [29, 28, 27, 26, 16, 15, 10, 9, 4, 3, 2, 1, 0, 8, 7, 6, 5, 14, 13, 12, 11, 25, 22, 21, 17, 20, 19, 18, 24, 23]⟩,
      ⟨some 38, .un .not (.tmp 37), (some (some 34, false)), [30, 29, 28, 27, 26, 16, 15, 10, 9, 4, 3, 2, 1, 0, 8, 7, 6, 5, 14, 13, 12, 11, 25, 22, 21, 17, 20, 19, 18, 24, 23]⟩,
      ⟨some 39, .pick (.tmp 34) (.const (.bool true)) (.tmp 38), none, [27, 26, 16, 15, 10, 9, 4, 3, 2, 1, 0, 8, 7, 6, 5, 14, 13, 12, 11, 25, 22, 21, 17, 20, 19, 18, 24, 23, 31, 30, 29, 28]⟩] [7, 8, 9, 10, 11, 12, 13, 14, 15, 16, 17, 18, 19, 20, 21, 22, 23, 24, 25, 26, 27, 28, 29, 30, 31, 32, 33, 34, 35, 36, 37, 38])
   (.cond (.tmp 39)
     (.seq
      (.region false [⟨some 2, .mv (.const (.int .i64 71)), none, []⟩] [])
     .ret)
     .skip))
  (.seq
   (.region false [⟨some 2, .mv (.const (.int .i64 0)), none, []⟩] [])
  .ret))))
set_option maxRecDepth 100000 in
theorem ksling_CheckHoist : IsCode Try.prog 30 40 csling_CheckHoist [.tmp 2] :=
  ⟨Try.f30, _, [39, 0, 1, 3, 2], Try.func30, rfl, by decide, rfl, by kernel_rfl, by kernel_rfl⟩
/-- sling_newWinch -/
def csling_newWinch : ACode :=
  (.seq
   (.region false [⟨some 2, .box (.tmp 0), none, []⟩,
     ⟨some 3, .box (.tmp 1), none, []⟩,
     ⟨some 4, .mv (.const (.pointer none)), none, []⟩,
     ⟨some 5, .mv (.const (.bool false)), none, []⟩,
     ⟨some 6, .mv (.const (.int .i64 0)), none, []⟩] [])
  (.seq
   (.seq
    (.region false [⟨some 10, .loadN 5 (.tmp 2), none, []⟩,
      ⟨some 11, .call (.func 30) [(.tmp 10)], none, []⟩,
      ⟨some 7, .mv (.tmp 11), none, []⟩] [10, 11])
   (.seq
    (.region false [⟨some 12, .mv (.tmp 7), none, []⟩,
      ⟨some 13, .bin .neq (.tmp 12) (.const (.int .i64 0)), none, []⟩] [12])
   (.cond (.tmp 13)
     (.seq
      (.region false [⟨some 14, .mv (.tmp 7), none, []⟩,
        ⟨some 4, .mv (.const (.pointer none)), none, []⟩,
        ⟨some 5, .mv (.const (.bool false)), none, []⟩,
        ⟨some 6, .mv (.tmp 14), none, []⟩] [14])
     .ret)
     .skip)))
  (.seq
   (.seq
    (.region false [⟨some 15, .loadN 2 (.tmp 3), none, []⟩,
      ⟨some 16, .buildSl 2 1 [(.val (.int .i64 0)), (.val (.int .i64 0))] [(0, 2, (.tmp 15))], none, []⟩,
      ⟨some 17, .call (.func 72) [(.tmp 16)], none, []⟩,
      ⟨some 8, .mv (.tmp 17), none, []⟩] [15, 16, 17])
   (.seq
    (.region false [⟨some 18, .mv (.tmp 8), none, []⟩,
      ⟨some 19, .bin .neq (.tmp 18) (.const (.int .i64 0)), none, []⟩] [18])
   (.cond (.tmp 19)
     (.seq
      (.region false [⟨some 20, .mv (.tmp 8), none, []⟩,
        ⟨some 4, .mv (.const (.pointer none)), none, []⟩,
        ⟨some 5, .mv (.const (.bool false)), none, []⟩,
        ⟨some 6, .mv (.tmp 20), none, []⟩] [20])
     .ret)
     .skip)))
  (.seq
   (.region false [⟨some 21, .fad 1 (.tmp 2), none, []⟩,
     ⟨some 22, .fad 1 (.tmp 21), none, []⟩,
     ⟨some 23, .load1 (.tmp 22), none, []⟩,
     ⟨some 9, .mv (.tmp 23), none, []⟩] [21, 22, 23])
  (.seq
   (.region true [⟨some 24, .loadN 5 (.tmp 2), none, []⟩,
     ⟨some 25, .loadN 2 (.tmp 3), none, []⟩,
     ⟨some 26, .build [(.val (.int .i64 0)), (.val (.slice none 0 0)), (.val (.slice none 0 0)), (.val (.slice none 0 0)), (.val (.int .i64 0)), (.val (.int .i64 0)), (.val (.int .i64 0)), (.val (.int .i64 0)), (.val (.int .i64 0)), (.val (.int .i64 0)), (.val (.int .i64 0)), (.val (.bool false)), (.val (.bool false))] [(0, 5, (.tmp 24)), (5, 2, (.tmp 25))], none, [0, 1]⟩,
     ⟨some 27, .box (.tmp 26), none, [2, 0, 1]⟩,
     ⟨some 28, .fad 0 (.tmp 3), none, []⟩,
     ⟨some 29, .load1 (.tmp 28), none, [4]⟩,
     ⟨some 30, .mv (.tmp 9), none, []⟩,
     ⟨some 31, .iadS 1 (.tmp 30) (.const (.int .i64 0)), none, [6]⟩,
     ⟨some 32, .load1 (.tmp 31), none, [7, 6]⟩,
     ⟨some 33, .bin .geq (.tmp 29) (.tmp 32), none, [5, 4, 8, 7, 6]⟩,
     ⟨some 34, .mv (.tmp 33), none, [9, 5, 4, 8, 7, 6]⟩,
     ⟨some 35, .fad 1 (.tmp 3), (some (some 34, true)), [10, 9, 5, 4, 8, 7, 6]⟩,
     ⟨some 36, .load1 (.tmp 35), (some (some 34, true)), [11, 10, 9, 5, 4, 8, 7, 6]⟩,
     ⟨some 37, .mv (.tmp 9), (some (some 34, true)), [10, 9, 5, 4, 8, 7, 6]⟩,
     ⟨some 38, .mv (.tmp 9), (some (some 34, true)), [10, 9, 5, 4, 8, 7, 6]⟩,
     ⟨some 39, .len_ (.tmp 38), (some (some 34, true)), [14, 10, 9, 5, 4, 8, 7, 6]⟩,
     ⟨some 40, .bin .sub (.tmp 39) (.const (.int .i64 1)), (some (some 34, true)), [15, 14, 10, 9, 5, 4, 8, 7, 6]⟩,
     ⟨some 41, .iadS 1 (.tmp 37) (.tmp 40), (some (some 34, true)), [13, 10, 9, 5, 4, 8, 7, 6, 16, 15, 14]⟩,
     ⟨some 42, .load1 (.tmp 41), (some (some 34, true)), [17, 13, 10, 9, 5, 4, 8, 7, 6, 16, 15, 14]⟩,
     ⟨some 43, .bin .leq (.tmp 36) (.tmp 42), (some (some 34, true)), [12, 11, 10, 9, 5, 4, 8, 7, 6, 18, 17, 13, 16, 15, 14]⟩,
     ⟨some 44, .pick (.tmp 34) (.tmp 43) (.const (.bool false)), none, [10, 9, 5, 4, 8, 7, 6, 19, 12, 11, 18, 17, 13, 16, 15, 14]⟩,
     ⟨some 4, .mv (.tmp 27), none, [3, 2, 0, 1, 10, 9, 5, 4, 8, 7, 6]⟩,
     ⟨some 5, .mv (.tmp 44), none, [20, 10, 9, 5, 4, 8, 7, 6, 19, 12, 11, 18, 17, 13, 16, 15, 14, 21, 3, 2, 0, 1]⟩,
     ⟨some 6, .mv (.const (.int .i64 0)), none, [22, 20, 10, 9, 5, 4, 8, 7, 6, 19, 12, 11, 18, 17, 13, 16, 15, 14, 21, 3, 2, 0, 1]⟩] [24, 25, 26, 27, 28, 29, 30, 31, 32, 33, 34, 35, 36, 37, 38, 39, 40, 41, 42, 43, 44])
  .ret)))))
set_option maxRecDepth 100000 in
theorem ksling_newWinch : IsCode Try.prog 57 45 csling_newWinch [.tmp 4, .tmp 5, .tmp 6] :=
  ⟨Try.f57, _, [19, 13, 0, 1, 2, 7, 3, 8, 9, 4, 5, 6], Try.func57, rfl, by decide, rfl, by kernel_rfl, by kernel_rfl⟩
/-- psling_winch_carries -/
def cpsling_winch_carries : ACode :=
  (.seq
   (.region false [⟨some 4, .box (.tmp 1), none, []⟩,
     ⟨some 6, .mv (.const (.bool false)), none, []⟩] [])
  (.seq
   (.seq
    (.region false [⟨some 9, .mv (.tmp 2), none, []⟩,
      ⟨some 10, .bin .eql (.tmp 9) (.const (.int .i64 0)), none, []⟩] [9])
   (.cond (.tmp 10)
     (.seq
      (.region false [⟨some 6, .mv (.const (.bool true)), none, []⟩] [])
     .ret)
     .skip))
  (.seq
   (.region true [⟨some 12, .mv (.tmp 0), none, []⟩,
     ⟨some 13, .nilc (.tmp 12), none, [0]⟩,
     ⟨some 14, .fad 0 (.tmp 13), none, [1, 0]⟩,
     ⟨some 15, .fad 1 (.tmp 14), none, [2, 1, 0]⟩,
     ⟨some 16, .loadN 3 (.tmp 15), none, [3, 2, 1, 0]⟩,
     ⟨some 17, .loadN 2 (.tmp 4), none, []⟩,
     ⟨some 18, .mv (.tmp 0), none, []⟩,
     ⟨some 19, .nilc (.tmp 18), none, [6]⟩,
     ⟨some 20, .fad 5 (.tmp 19), none, [7, 6]⟩,
     ⟨some 21, .loadN 2 (.tmp 20), none, [8, 7, 6]⟩,
     ⟨some 22, .call (.func 35) [(.tmp 16), (.tmp 17), (.tmp 21)], none, [4, 3, 2, 1, 0, 5, 9, 8, 7, 6]⟩,
     ⟨some 11, .mv (.tmp 22), none, [10, 4, 3, 2, 1, 0, 5, 9, 8, 7, 6]⟩,
     ⟨some 23, .ext (.tmp 11) 0, none, [11, 10, 4, 3, 2, 1, 0, 5, 9, 8, 7, 6]⟩,
     ⟨some 24, .ext (.tmp 11) 1, none, [11, 10, 4, 3, 2, 1, 0, 5, 9, 8, 7, 6]⟩,
     ⟨some 7, .mem [(.val (.int .i64 0)), (.val (.int .i64 0))], none, []⟩,
     ⟨none, .store 2 (.tmp 7) (.tmp 23), none, [14, 12, 11, 10, 4, 3, 2, 1, 0, 5, 9, 8, 7, 6]⟩,
     ⟨some 8, .mv (.tmp 24), none, [13, 11, 10, 4, 3, 2, 1, 0, 5, 9, 8, 7, 6, 15, 14, 12]⟩] [12, 13, 14, 15, 16, 17, 18, 19, 20, 21, 22, 11, 23, 24])
  (.seq
   (.region false [⟨some 25, .mv (.tmp 8), none, []⟩,
     ⟨some 26, .bin .eql (.tmp 25) (.const (.int .i64 0)), none, []⟩,
     ⟨some 27, .mv (.tmp 26), none, []⟩,
     ⟨some 28, .fad 0 (.tmp 7), (some (some 27, true)), []⟩,
     ⟨some 29, .load1 (.tmp 28), (some (some 27, true)), []⟩,
     ⟨some 30, .mv (.tmp 2), (some (some 27, true)), []⟩,
     ⟨some 31, .bin .geq (.tmp 29) (.tmp 30), (some (some 27, true)), []⟩,
     ⟨some 32, .pick (.tmp 27) (.tmp 31) (.const (.bool false)), none, []⟩,
     ⟨some 6, .mv (.tmp 32), none, []⟩] [25, 26, 27, 28, 29, 30, 31, 32])
  .ret))))
set_option maxRecDepth 100000 in
theorem kpsling_winch_carries : IsCode Try.prog 58 33 cpsling_winch_carries [.tmp 6] :=
  ⟨Try.f58, _, [10, 1, 2, 0, 4, 8, 7, 6], Try.func58, rfl, by decide, rfl, by kernel_rfl, by kernel_rfl⟩
/-- psling_winch_out -/
def cpsling_winch_out : ACode :=
  (.seq
   (.region false [⟨some 4, .mv (.const (.bool false)), none, []⟩] [])
  (.seq
   (.seq
    (.region true [⟨some 5, .mv (.tmp 0), none, []⟩,
      ⟨some 6, .nilc (.tmp 5), none, [0]⟩,
      ⟨some 7, .fad 7 (.tmp 6), none, [1, 0]⟩,
      ⟨some 8, .fad 0 (.tmp 7), none, [2, 1, 0]⟩,
      ⟨some 9, .load1 (.tmp 8), none, [3, 2, 1, 0]⟩,
      ⟨some 10, .mv (.tmp 1), none, []⟩,
      ⟨some 11, .bin .add (.tmp 9) (.tmp 10), none, [4, 3, 2, 1, 0, 5]⟩,
      ⟨some 12, .mv (.tmp 0), none, []⟩,
      ⟨some 13, .nilc (.tmp 12), none, [7]⟩,
      ⟨some 14, .fad 0 (.tmp 13), none, [8, 7]⟩,
      ⟨some 15, .fad 0 (.tmp 14), none, [9, 8, 7]⟩,
      ⟨some 16, .load1 (.tmp 15), none, [10, 9, 8, 7]⟩,
      ⟨some 17, .call (.func 53) [(.tmp 11), (.const (.int .i64 0)), (.tmp 16)], none, [6, 4, 3, 2, 1, 0, 5, 11, 10, 9, 8, 7]⟩,
      ⟨some 18, .un .not (.tmp 17), none, [12, 6, 4, 3, 2, 1, 0, 5, 11, 10, 9, 8, 7]⟩,
      ⟨some 19, .mv (.tmp 18), none, [13, 12, 6, 4, 3, 2, 1, 0, 5, 11, 10, 9, 8, 7]⟩,
      ⟨some 20, .mv (.tmp 0), (some (some 19, false)), [14, 13, 12, 6, 4, 3, 2, 1, 0, 5, 11, 10, 9, 8, 7]⟩,
      ⟨some 21, .mv (.tmp 0), (some (some 19, false)), [14, 13, 12, 6, 4, 3, 2, 1, 0, 5, 11, 10, 9, 8, 7]⟩,
      ⟨some 22, .nilc (.tmp 21), (some (some 19, false)), [16, 14, 13, 12, 6, 4, 3, 2, 1, 0, 5, 11, 10, 9, 8, 7]⟩,
      ⟨some 23, .fad 7 (.tmp 22), (some (some 19, false)), [17, 16, 14, 13, 12, 6, 4, 3, 2, 1, 0, 5, 11, 10, 9, 8, 7]⟩,
      ⟨some 24, .fad 0 (.tmp 23), (some (some 19, false)), [18, 17, 16, 14, 13, 12, 6, 4, 3, 2, 1, 0, 5, 11, 10, 9, 8, 7]⟩,
      ⟨some 25, .load1 (.tmp 24), (some (some 19, false)), [19, 18, 17, 16, 14, 13, 12, 6, 4, 3, 2, 1, 0, 5, 11, 10, 9, 8, 7]⟩,
      ⟨some 26, .mv (.tmp 1), (some (some 19, false)), [14, 13, 12, 6, 4, 3, 2, 1, 0, 5, 11, 10, 9, 8, 7]⟩,
      ⟨some 27, .bin .add (.tmp 25) (.tmp 26), (some (some 19, false)), [20, 19, 18, 17, 16, 14, 13, 12, 6, 4, 3, 2, 1, 0, 5, 11, 10, 9, 8, 7, 21]⟩,
      ⟨some 28, .call (.func 59) [(.tmp 27)], (some (some 19, false)), [22, 20, 19, 18, 17, 16, 14, 13, 12, 6, 4, 3, 2, 1, 0, 5, 11, 10, 9, 8, 7, 21]⟩,
      ⟨some 29, .mv (.tmp 0), (some (some 19, false)), [14, 13, 12, 6, 4, 3, 2, 1, 0, 5, 11, 10, 9, 8, 7]⟩,
      ⟨some 30, .nilc (.tmp 29), (some (some 19, false)), [24, 14, 13, 12, 6, 4, 3, 2, 1, 0, 5, 11, 10, 9, 8, 7]⟩,
      ⟨some 31, .fad 7 (.tmp 30), (some (some 19, false)), [25, 24, 14, 13, 12, 6, 4, 3, 2, 1, 0, 5, 11, 10, 9, 8, 7]⟩,
      ⟨some 32, .fad 1 (.tmp 31), (some (some 19, false)), [26, 25, 24, 14, 13, 12, 6, 4, 3, 2, 1, 0, 5, 11, 10, 9, 8, 7]⟩,
      ⟨some 33, .load1 (.tmp 32), (some (some 19, false)), [27, 26, 25, 24, 14, 13, 12, 6, 4, 3, 2, 1, 0, 5, 11, 10, 9, 8, 7]⟩,
      ⟨some 34, .call (.func 58) [(.tmp 20), (.tmp 28), (.tmp 33)], (some (some 19, false)), [15, 14, 13, 12, 6, 4, 3, 2, 1, 0, 5, 11, 10, 9, 8, 7, 23, 22, 20, 19, 18, 17, 16, 21, 28, 27, 26, 25, 24]⟩,
      ⟨some 35, .un .not (.tmp 34), (some (some 19, false)), [29, 15, 14, 13, 12, 6, 4, 3, 2, 1, 0, 5, 11, 10, 9, 8, 7, 23, 22, 20, 19, 18, 17, 16, 21, 28, 27, 26, 25, 24]⟩,
      ⟨some 36, .pick (.tmp 19) (.const (.bool true)) (.tmp 35), none, [14, 13, 12, 6, 4, 3, 2, 1, 0, 5, 11, 10, 9, 8, 7, 30, 29, 15, 23, 22, 20, 19, 18, 17, 16, 21, 28, 27, 26, 25, 24]⟩] [5, 6, 7, 8, 9, 10, 11, 12, 13, 14, 15, 16, 17, 18, 19, 20, 21, 22, 23, 24, 25, 26, 27, 28, 29, 30, 31, 32, 33, 34, 35])
   (.cond (.tmp 36)
     (.seq
      (.region false [⟨some 4, .mv (.const (.bool false)), none, []⟩] [])
     .ret)
     .skip))
  (.seq
   (.region false [⟨some 37, .mv (.tmp 0), none, []⟩,
     ⟨some 38, .nilc (.tmp 37), none, []⟩,
     ⟨some 39, .fad 7 (.tmp 38), none, []⟩,
     ⟨some 40, .fad 0 (.tmp 39), none, []⟩,
     ⟨some 41, .load1 (.tmp 40), none, []⟩,
     ⟨some 42, .mv (.tmp 1), none, []⟩,
     ⟨some 43, .bin .add (.tmp 41) (.tmp 42), none, []⟩,
     ⟨some 44, .nilc (.tmp 37), none, []⟩,
     ⟨some 45, .fad 7 (.tmp 44), none, []⟩,
     ⟨some 46, .fad 0 (.tmp 45), none, []⟩,
     ⟨none, .store 1 (.tmp 46) (.tmp 43), none, []⟩] [37, 38, 39, 40, 41, 42, 43, 44, 45, 46])
  (.seq
   (.region false [⟨some 4, .mv (.const (.bool true)), none, []⟩] [])
  .ret))))
set_option maxRecDepth 100000 in
theorem kpsling_winch_out : IsCode Try.prog 103 47 cpsling_winch_out [.tmp 4] :=
  ⟨Try.f103, _, [36, 0, 1, 4], Try.func103, rfl, by decide, rfl, by kernel_rfl, by kernel_rfl⟩
/-- psling_winch_do -/
def cpsling_winch_do : ACode :=
  (.seq
   (.region false [⟨some 3, .box (.tmp 1), none, []⟩,
     ⟨some 4, .mv (.const (.bool false)), none, []⟩] [])
  (.seq
   (.region false [⟨some 5, .mv (.tmp 0), none, []⟩,
     ⟨some 6, .nilc (.tmp 5), none, []⟩,
     ⟨some 7, .fad 7 (.tmp 6), none, []⟩,
     ⟨some 8, .fad 2 (.tmp 7), none, []⟩,
     ⟨some 9, .load1 (.tmp 8), none, []⟩,
     ⟨some 10, .bin .add (.tmp 9) (.const (.int .i64 1)), none, []⟩,
     ⟨some 11, .nilc (.tmp 5), none, []⟩,
     ⟨some 12, .fad 7 (.tmp 11), none, []⟩,
     ⟨some 13, .fad 2 (.tmp 12), none, []⟩,
     ⟨none, .store 1 (.tmp 13) (.tmp 10), none, []⟩] [5, 6, 7, 8, 9, 10, 11, 12, 13])
  (.seq
   (.block 0
     (.seq
      (.region false [⟨some 15, .mv (.tmp 0), none, []⟩,
        ⟨some 16, .nilc (.tmp 15), none, []⟩,
        ⟨some 17, .fad 7 (.tmp 16), none, []⟩,
        ⟨some 18, .fad 4 (.tmp 17), none, []⟩,
        ⟨some 19, .load1 (.tmp 18), none, []⟩,
        ⟨some 14, .mv (.tmp 19), none, []⟩] [15, 16, 17, 18, 19])
     (.cond (.tmp 14)
       (.seq
        (.region false [⟨some 4, .mv (.const (.bool false)), none, []⟩] [])
       .ret)
       (.seq
        (.region false [⟨some 21, .fad 0 (.tmp 3), none, []⟩,
          ⟨some 22, .load1 (.tmp 21), none, []⟩,
          ⟨some 23, .bin .eql (.tmp 22) (.const (.int .i64 1)), none, []⟩,
          ⟨some 20, .mv (.tmp 23), none, []⟩] [21, 22, 23])
       (.cond (.tmp 20)
         (.seq
          (.region true [⟨some 24, .fad 1 (.tmp 3), none, []⟩,
            ⟨some 25, .load1 (.tmp 24), none, [0]⟩,
            ⟨some 26, .mv (.tmp 0), none, []⟩,
            ⟨some 27, .nilc (.tmp 26), none, [2]⟩,
            ⟨some 28, .fad 0 (.tmp 27), none, [3, 2]⟩,
            ⟨some 29, .fad 0 (.tmp 28), none, [4, 3, 2]⟩,
            ⟨some 30, .load1 (.tmp 29), none, [5, 4, 3, 2]⟩,
            ⟨some 31, .call (.func 53) [(.tmp 25), (.const (.int .i64 1)), (.tmp 30)], none, [1, 0, 6, 5, 4, 3, 2]⟩,
            ⟨some 32, .mv (.tmp 31), none, [7, 1, 0, 6, 5, 4, 3, 2]⟩,
            ⟨some 33, .mv (.tmp 0), (some (some 32, true)), [8, 7, 1, 0, 6, 5, 4, 3, 2]⟩,
            ⟨some 34, .fad 1 (.tmp 3), (some (some 32, true)), [8, 7, 1, 0, 6, 5, 4, 3, 2]⟩,
            ⟨some 35, .load1 (.tmp 34), (some (some 32, true)), [10, 8, 7, 1, 0, 6, 5, 4, 3, 2]⟩,
            ⟨some 36, .call (.func 103) [(.tmp 33), (.tmp 35)], (some (some 32, true)), [9, 8, 7, 1, 0, 6, 5, 4, 3, 2, 11, 10]⟩,
            ⟨some 37, .pick (.tmp 32) (.tmp 36) (.const (.bool false)), none, [8, 7, 1, 0, 6, 5, 4, 3, 2, 12, 9, 11, 10]⟩,
            ⟨some 4, .mv (.tmp 37), none, [13, 8, 7, 1, 0, 6, 5, 4, 3, 2, 12, 9, 11, 10]⟩] [24, 25, 26, 27, 28, 29, 30, 31, 32, 33, 34, 35, 36, 37])
         .ret)
         (.seq
          (.region false [⟨some 39, .fad 0 (.tmp 3), none, []⟩,
            ⟨some 40, .load1 (.tmp 39), none, []⟩,
            ⟨some 41, .bin .eql (.tmp 40) (.const (.int .i64 2)), none, []⟩,
            ⟨some 38, .mv (.tmp 41), none, []⟩] [39, 40, 41])
         (.cond (.tmp 38)
           (.seq
            (.region true [⟨some 42, .fad 1 (.tmp 3), none, []⟩,
              ⟨some 43, .load1 (.tmp 42), none, [0]⟩,
              ⟨some 44, .mv (.tmp 0), none, []⟩,
              ⟨some 45, .nilc (.tmp 44), none, [2]⟩,
              ⟨some 46, .fad 0 (.tmp 45), none, [3, 2]⟩,
              ⟨some 47, .fad 0 (.tmp 46), none, [4, 3, 2]⟩,
              ⟨some 48, .load1 (.tmp 47), none, [5, 4, 3, 2]⟩,
              ⟨some 49, .call (.func 53) [(.tmp 43), (.const (.int .i64 1)), (.tmp 48)], none, [1, 0, 6, 5, 4, 3, 2]⟩,
              ⟨some 50, .mv (.tmp 49), none, [7, 1, 0, 6, 5, 4, 3, 2]⟩,
              ⟨some 51, .mv (.tmp 0), (some (some 50, true)), [8, 7, 1, 0, 6, 5, 4, 3, 2]⟩,
              ⟨some 52, .fad 1 (.tmp 3), (some (some 50, true)), [8, 7, 1, 0, 6, 5, 4, 3, 2]⟩,
              ⟨some 53, .load1 (.tmp 52), (some (some 50, true)), [10, 8, 7, 1, 0, 6, 5, 4, 3, 2]⟩,
              ⟨some 54, .un .neg (.tmp 53), (some (some 50, true)), [11, 10, 8, 7, 1, 0, 6, 5, 4, 3, 2]⟩,
              ⟨some 55, .call (.func 103) [(.tmp 51), (.tmp 54)], (some (some 50, true)), [9, 8, 7, 1, 0, 6, 5, 4, 3, 2, 12, 11, 10]⟩,
              ⟨some 56, .pick (.tmp 50) (.tmp 55) (.const (.bool false)), none, [8, 7, 1, 0, 6, 5, 4, 3, 2, 13, 9, 12, 11, 10]⟩,
              ⟨some 4, .mv (.tmp 56), none, [14, 8, 7, 1, 0, 6, 5, 4, 3, 2, 13, 9, 12, 11, 10]⟩] [42, 43, 44, 45, 46, 47, 48, 49, 50, 51, 52, 53, 54, 55, 56])
           .ret)
           (.seq
            (.region false [⟨some 58, .fad 0 (.tmp 3), none, []⟩,
              ⟨some 59, .load1 (.tmp 58), none, []⟩,
              ⟨some 60, .bin .eql (.tmp 59) (.const (.int .i64 4)), none, []⟩,
              ⟨some 57, .mv (.tmp 60), none, []⟩] [58, 59, 60])
           (.cond (.tmp 57)
             (.seq
              (.seq
               (.region true [⟨some 61, .mv (.tmp 0), none, []⟩,
                 ⟨some 62, .nilc (.tmp 61), none, [0]⟩,
                 ⟨some 63, .fad 7 (.tmp 62), none, [1, 0]⟩,
                 ⟨some 64, .fad 1 (.tmp 63), none, [2, 1, 0]⟩,
                 ⟨some 65, .load1 (.tmp 64), none, [3, 2, 1, 0]⟩,
                 ⟨some 66, .bin .gtr (.tmp 65) (.const (.int .i64 0)), none, [4, 3, 2, 1, 0]⟩,
                 ⟨some 67, .mv (.tmp 66), none, [5, 4, 3, 2, 1, 0]⟩,
                 ⟨some 68, .mv (.tmp 0), (some (some 67, false)), [6, 5, 4, 3, 2, 1, 0]⟩,
                 ⟨some 69, .nilc (.tmp 68), (some (some 67, false)), [7, 6, 5, 4, 3, 2, 1, 0]⟩,
                 ⟨some 70, .fad 7 (.tmp 69), (some (some 67, false)), [8, 7, 6, 5, 4, 3, 2, 1, 0]⟩,
                 ⟨some 71, .fad 0 (.tmp 70), (some (some 67, false)), [9, 8, 7, 6, 5, 4, 3, 2, 1, 0]⟩,
                 ⟨some 72, .load1 (.tmp 71), (some (some 67, false)), [10, 9, 8, 7, 6, 5, 4, 3, 2, 1, 0]⟩,
                 ⟨some 73, .bin .eql (.tmp 72) (.const (.int .i64 0)), (some (some 67, false)), [11, 10, 9, 8, 7, 6, 5, 4, 3, 2, 1, 0]⟩,
                 ⟨some 74, .pick (.tmp 67) (.const (.bool true)) (.tmp 73), none, [6, 5, 4, 3, 2, 1, 0, 12, 11, 10, 9, 8, 7]⟩,
                 ⟨some 75, .mv (.tmp 74), none, [13, 6, 5, 4, 3, 2, 1, 0, 12, 11, 10, 9, 8, 7]⟩,
                 ⟨some 76, .mv (.tmp 0), (some (some 75, false)), [14, 13, 6, 5, 4, 3, 2, 1, 0, 12, 11, 10, 9, 8, 7]⟩,
                 ⟨some 77, .nilc (.tmp 76), (some (some 75, false)), [15, 14, 13, 6, 5, 4, 3, 2, 1, 0, 12, 11, 10, 9, 8, 7]⟩,
                 ⟨some 78, .fad 12 (.tmp 77), (some (some 75, false)), [16, 15, 14, 13, 6, 5, 4, 3, 2, 1, 0, 12, 11, 10, 9, 8, 7]⟩,
                 ⟨some 79, .load1 (.tmp 78), (some (some 75, false)), [17, 16, 15, 14, 13, 6, 5, 4, 3, 2, 1, 0, 12, 11, 10, 9, 8, 7]⟩,
                 ⟨some 80, .un .not (.tmp 79), (some (some 75, false)), [18, 17, 16, 15, 14, 13, 6, 5, 4, 3, 2, 1, 0, 12, 11, 10, 9, 8, 7]⟩,
                 ⟨some 81, .pick (.tmp 75) (.const (.bool true)) (.tmp 80), none, [14, 13, 6, 5, 4, 3, 2, 1, 0, 12, 11, 10, 9, 8, 7, 19, 18, 17, 16, 15]⟩,
                 ⟨some 82, .mv (.tmp 81), none, [20, 14, 13, 6, 5, 4, 3, 2, 1, 0, 12, 11, 10, 9, 8, 7, 19, 18, 17, 16, 15]⟩,
                 ⟨some 83, .mv (.tmp 0), (some (some 82, false)), [21, 20, 14, 13, 6, 5, 4, 3, 2, 1, 0, 12, 11, 10, 9, 8, 7, 19, 18, 17, 16, 15]⟩,
                 ⟨some 84, .nilc (.tmp 83), (some (some 82, false)), [22, 21, 20, 14, 13, 6, 5, 4, 3, 2, 1, 0, 12, 11, 10, 9, 8, 7, 19, 18, 17, 16, 15]⟩,
                 ⟨some 85, .fad 7 (.tmp 84), (some (some 82, false)), [23, 22, 21, 20, 14, 13, 6, 5, 4, 3, 2, 1, 0, 12, 11, 10, 9, 8, 7, 19, 18, 17, 16, 15]⟩,
                 ⟨some 86, .fad 2 (.tmp 85), (some (some 82, false)), [24, 23, 22, 21, 20, 14, 13, 6, 5, 4, 3, 2, 1, 0, 12, 11, 10, 9, 8, 7, 19, 18, 17, 16, 15]⟩,
                 ⟨some 87, .load1 (.tmp 86), (some (some 82, false)), [25, 24, 23, 22, 21, 20, 14, 13, 6, 5, 4, 3, 2, 1, 0, 12, 11, 10, 9, 8, 7, 19, 18, 17, 16, 15]⟩,
                 ⟨some 88, .mv (.tmp 0), (some (some 82, false)), [21, 20, 14, 13, 6, 5, 4, 3, 2, 1, 0, 12, 11, 10, 9, 8, 7, 19, 18, 17, 16, 15]⟩,
                 ⟨some 89, .nilc (.tmp 88), (some (some 82, false)), [27, 21, 20, 14, 13, 6, 5, 4, 3, 2, 1, 0, 12, 11, 10, 9, 8, 7, 19, 18, 17, 16, 15]⟩,
                 ⟨some 90, .fad 0 (.tmp 89), (some (some 82, false)), [28, 27, 21, 20, 14, 13, 6, 5, 4, 3, 2, 1, 0, 12, 11, 10, 9, 8, 7, 19, 18, 17, 16, 15]⟩,
                 ⟨some 91, .fad 4 (.tmp 90), (some (some 82, false)), [29, 28, 27, 21, 20, 14, 13, 6, 5, 4, 3, 2, 1, 0, 12, 11, 10, 9, 8, 7, 19, 18, 17, 16, 15]⟩,
                 ⟨some 92, .load1 (.tmp 91), (some (some 82, false)), [30, 29, 28, 27, 21, 20, 14, 13, 6, 5, 4, 3, 2, 1, 0, 12, 11, 10, 9, 8, 7, 19, 18, 17, 16, 15]⟩,
                 ⟨some 93, .bin .gtr (.tmp 87) (.tmp 92), (some (some 82, false)), [26, 25, 24, 23, 22, 21, 20, 14, 13, 6, 5, 4, 3, 2, 1, 0, 12, 11, 10, 9, 8, 7, 19, 18, 17, 16, 15, 31, 30, 29, 28, 27]⟩,
                 ⟨some 94, .pick (.tmp 82) (.const (.bool true)) (.tmp 93), none, [21, 20, 14, 13, 6, 5, 4, 3, 2, 1, 0, 12, 11, 10, 9, 8, 7, 19, 18, 17, 16, 15, 32, 26, 25, 24, 23, 22, 31, 30, 29, 28, 27]⟩,
                 ⟨some 95, .mv (.tmp 94), none, [33, 21, 20, 14, 13, 6, 5, 4, 3, 2, 1, 0, 12, 11, 10, 9, 8, 7, 19, 18, 17, 16, 15, 32, 26, 25, 24, 23, 22, 31, 30, 29, 28, 27]⟩,
                 ⟨some 96, .fad 1 (.tmp 3), (some (some 95, false)), [34, 33, 21, 20, 14, 13, 6, 5, 4, 3, 2, 1, 0, 12, 11, 10, 9, 8, 7, 19, 18, 17, 16, 15, 32, 26, 25, 24, 23, 22, 31, 30, 29, 28, 27]⟩,
                 ⟨some 97, .load1 (.tmp 96), (some (some 95, false)), [35, 34, 33, 21, 20, 14, 13, 6, 5, 4, 3, 2, 1, 0, 12, 11, 10, 9, 8, 7, 19, 18, 17, 16, 15, 32, 26, 25, 24, 23, 22, 31, 30, 29, 28, 27]⟩,
                 ⟨some 98, .call (.func 53) [(.tmp 97), (.const (.int .i64 1)), (.const (.int .i64 100000))], (some (some 95, false)), [36, 35, 34, 33, 21, 20, 14, 13, 6, 5, 4, 3, 2, 1, 0, 12, 11, 10, 9, 8, 7, 19, 18, 17, 16, 15, 32, 26, 25, 24, 23, 22, 31, 30, 29, 28, 27]⟩,
                 ⟨some 99, .un .not (.tmp 98), (some (some 95, false)), [37, 36, 35, 34, 33, 21, 20, 14, 13, 6, 5, 4, 3, 2, 1, 0, 12, 11, 10, 9, 8, 7, 19, 18, 17, 16, 15, 32, 26, 25, 24, 23, 22, 31, 30, 29, 28, 27]⟩,
                 ⟨some 100, .pick (.tmp 95) (.const (.bool true)) (.tmp 99), none, [34, 33, 21, 20, 14, 13, 6, 5, 4, 3, 2, 1, 0, 12, 11, 10, 9, 8, 7, 19, 18, 17, 16, 15, 32, 26, 25, 24, 23, 22, 31, 30, 29, 28, 27, 38, 37, 36, 35]⟩,
                 ⟨some 101, .mv (.tmp 100), none, [39, 34, 33, 21, 20, 14, 13, 6, 5, 4, 3, 2, 1, 0, 12, 11, 10, 9, 8, 7, 19, 18, 17, 16, 15, 32, 26, 25, 24, 23, 22, 31, 30, 29, 28, 27, 38, 37, 36, 35]⟩,
                 ⟨some 102, .mv (.tmp 0), (some (some 101, false)), [40, 39, 34, 33, 21, 20, 14, 13, 6, 5, 4, 3, 2, 1, 0, 12, 11, 10, 9, 8, 7, 19, 18, 17, 16, 15, 32, 26, 25, 24, 23, 22, 31, 30, 29, 28, 27, 38, 37, 36, 35]⟩,
                 ⟨some 103, .mv (.tmp 0), (some (some 101, false)), [40, 39, 34, 33, 21, 20, 14, 13, 6, 5, 4, 3, 2, 1, 0, 12, 11, 10, 9, 8, 7, 19, 18, 17, 16, 15, 32, 26, 25, 24, 23, 22, 31, 30, 29, 28, 27, 38, 37, 36, 35]⟩,
                 ⟨some 104, .nilc (.tmp 103), (some (some 101, false)), [42, 40, 39, 34, 33, 21, 20, 14, 13, 6, 5, 4, 3, 2, 1, 0, 12, 11, 10, 9, 8, 7, 19, 18, 17, 16, 15, 32, 26, 25, 24, 23, 22, 31, 30, 29, 28, 27, 38, 37, 36, 35]⟩,
                 ⟨some 105, .fad 7 (.tmp 104), (some (some 101, false)), [43, 42, 40, 39, 34, 33, 21, 20, 14, 13, 6, 5, 4, 3, 2, 1, 0, 12, 11, 10, 9, 8, 7, 19, 18, 17, 16, 15, 32, 26, 25, 24, 23, 22, 31, 30, 29, 28, 27, 38, 37, 36, 35]⟩,
                 ⟨some 106, .fad 0 (.tmp 105), (some (some 101, false)), [44, 43, 42, 40, 39, 34, 33, 21, 20, 14, 13, 6, 5, 4, 3, 2, 1, 0, 12, 11, 10, 9, 8, 7, 19, 18, 17, 16, 15, 32, 26, 25, 24, 23, 22, 31, 30, 29, 28, 27, 38, 37, 36, 35]⟩,
                 ⟨some 107, .load1 (.tmp 106), (some (some 101, false)), [45, 44, 43, 42, 40, 39, 34, 33, 21, 20, 14, 13, 6, 5, 4, 3, 2, 1, 0, 12, 11, 10, 9, 8, 7, 19, 18, 17, 16, 15, 32, 26, 25, 24, 23, 22, 31, 30, 29, 28, 27, 38, 37, 36, 35]⟩,
                 ⟨some 108, .call (.func 59) [(.tmp 107)], (some (some 101, false)), [46, 45, 44, 43, 42, 40, 39, 34, 33, 21, 20, 14, 13, 6, 5, 4, 3, 2, 1, 0, 12, 11, 10, 9, 8, 7, 19, 18, 17, 16, 15, 32, 26, 25, 24, 23, 22, 31, 30, 29, 28, 27, 38, 37, 36, 35]⟩,
                 ⟨some 109, .fad 1 (.tmp 3), (some (some 101, false)), [40, 39, 34, 33, 21, 20, 14, 13, 6, 5, 4, 3, 2, 1, 0, 12, 11, 10, 9, 8, 7, 19, 18, 17, 16, 15, 32, 26, 25, 24, 23, 22, 31, 30, 29, 28, 27, 38, 37, 36, 35]⟩,
                 ⟨some 110, .load1 (.tmp 109), (some (some 101, false)), [48, 40, 39, 34, 33, 21, 20, 14, 13, 6, 5, 4, 3, 2, 1, 0, 12, 11, 10, 9, 8, 7, 19, 18, 17, 16, 15, 32, 26, 25, 24, 23, 22, 31, 30, 29, 28, 27, 38, 37, 36, 35]⟩,
                 ⟨some 111, .call (.func 58) [(.tmp 102), (.tmp 108), (.tmp 110)], (some (some 101, false)), [41, 40, 39, 34, 33, 21, 20, 14, 13, 6, 5, 4, 3, 2, 1, 0, 12, 11, 10, 9, 8, 7, 19, 18, 17, 16, 15, 32, 26, 25, 24, 23, 22, 31, 30, 29, 28, 27, 38, 37, 36, 35, 47, 46, 45, 44, 43, 42, 49, 48]⟩,
                 ⟨some 112, .un .not (.tmp 111), (some (some 101, false)), [50, 41, 40, 39, 34, 33, 21, 20, 14, 13, 6, 5, 4, 3, 2, 1, 0, 12, 11, 10, 9, 8, 7, 19, 18, 17, 16, 15, 32, 26, 25, 24, 23, 22, 31, 30, 29, 28, 27, 38, 37, 36, 35, 47, 46, 45, 44, 43, 42, 49, 48]⟩,
                 ⟨some 113, .pick (.tmp 101) (.const (.bool true)) (.tmp 112), none, [40, 39, 34, 33, 21, 20, 14, 13, 6, 5, 4, 3, 2, 1, 0, 12, 11, 10, 9, 8, 7, 19, 18, 17, 16, 15, 32, 26, 25, 24, 23, 22, 31, 30, 29, 28, 27, 38, 37, 36, 35, 51, 50, 41, 47, 46, 45, 44, 43, 42, 49, 48]⟩] [61, 62, 63, 64, 65, 66, 67, 68, 69, 70, 71, 72, 73, 74, 75, 76, 77, 78, 79, 80, 81, 82, 83, 84, 85, 86, 87, 88, 89, 90, 91, 92, 93, 94, 95, 96, 97, 98, 99, 100, 101, 102, 103, 104, 105, 106, 107, 108, 109, 110, 111, 112])
              (.cond (.tmp 113)
                (.seq
                 (.region false [⟨some 4, .mv (.const (.bool false)), none, []⟩] [])
                .ret)
                .skip))
             (.region false [⟨some 114, .mv (.tmp 0), none, []⟩,
               ⟨some 115, .fad 1 (.tmp 3), none, []⟩,
               ⟨some 116, .load1 (.tmp 115), none, []⟩,
               ⟨some 117, .nilc (.tmp 114), none, []⟩,
               ⟨some 118, .fad 7 (.tmp 117), none, []⟩,
               ⟨some 119, .fad 1 (.tmp 118), none, []⟩,
               ⟨none, .store 1 (.tmp 119) (.tmp 116), none, []⟩] [114, 115, 116, 117, 118, 119]))
             (.seq
              (.region false [⟨some 121, .fad 1 (.tmp 3), none, []⟩,
                ⟨some 122, .load1 (.tmp 121), none, []⟩,
                ⟨some 123, .bin .neq (.tmp 122) (.const (.int .i64 0)), none, []⟩,
                ⟨some 120, .mv (.tmp 123), none, []⟩] [121, 122, 123])
             (.cond (.tmp 120)
               (.seq
                (.region false [⟨some 4, .mv (.const (.bool false)), none, []⟩] [])
               .ret)
               (.seq
                (.region false [⟨some 125, .fad 0 (.tmp 3), none, []⟩,
                  ⟨some 126, .load1 (.tmp 125), none, []⟩,
                  ⟨some 127, .bin .eql (.tmp 126) (.const (.int .i64 3)), none, []⟩,
                  ⟨some 128, .mv (.tmp 127), none, []⟩,
                  ⟨some 129, .mv (.tmp 0), (some (some 128, true)), []⟩,
                  ⟨some 130, .nilc (.tmp 129), (some (some 128, true)), []⟩,
                  ⟨some 131, .fad 7 (.tmp 130), (some (some 128, true)), []⟩,
                  ⟨some 132, .fad 0 (.tmp 131), (some (some 128, true)), []⟩,
                  ⟨some 133, .load1 (.tmp 132), (some (some 128, true)), []⟩,
                  ⟨some 134, .bin .gtr (.tmp 133) (.const (.int .i64 0)), (some (some 128, true)), []⟩,
                  ⟨some 135, .pick (.tmp 128) (.tmp 134) (.const (.bool false)), none, []⟩,
                  ⟨some 124, .mv (.tmp 135), none, []⟩] [125, 126, 127, 128, 129, 130, 131, 132, 133, 134, 135])
               (.cond (.tmp 124)
                 (.region false [⟨some 136, .mv (.tmp 0), none, []⟩,
                   ⟨some 137, .mv (.tmp 0), none, []⟩,
                   ⟨some 138, .nilc (.tmp 136), none, []⟩,
                   ⟨some 139, .fad 7 (.tmp 138), none, []⟩,
                   ⟨some 140, .fad 2 (.tmp 139), none, []⟩,
                   ⟨none, .store 1 (.tmp 140) (.const (.int .i64 0)), none, []⟩,
                   ⟨some 141, .nilc (.tmp 137), none, []⟩,
                   ⟨some 142, .fad 12 (.tmp 141), none, []⟩,
                   ⟨none, .store 1 (.tmp 142) (.const (.bool true)), none, []⟩] [136, 137, 138, 139, 140, 141, 142])
                 (.seq
                  (.region false [⟨some 144, .fad 0 (.tmp 3), none, []⟩,
                    ⟨some 145, .load1 (.tmp 144), none, []⟩,
                    ⟨some 146, .bin .eql (.tmp 145) (.const (.int .i64 5)), none, []⟩,
                    ⟨some 147, .mv (.tmp 146), none, []⟩,
                    ⟨some 148, .mv (.tmp 0), (some (some 147, true)), []⟩,
                    ⟨some 149, .nilc (.tmp 148), (some (some 147, true)), []⟩,
                    ⟨some 150, .fad 7 (.tmp 149), (some (some 147, true)), []⟩,
                    ⟨some 151, .fad 1 (.tmp 150), (some (some 147, true)), []⟩,
                    ⟨some 152, .load1 (.tmp 151), (some (some 147, true)), []⟩,
                    ⟨some 153, .bin .gtr (.tmp 152) (.const (.int .i64 0)), (some (some 147, true)), []⟩,
                    ⟨some 154, .pick (.tmp 147) (.tmp 153) (.const (.bool false)), none, []⟩,
                    ⟨some 143, .mv (.tmp 154), none, []⟩] [144, 145, 146, 147, 148, 149, 150, 151, 152, 153, 154])
                 (.cond (.tmp 143)
                   (.seq
                    (.region false [⟨some 155, .mv (.tmp 0), none, []⟩,
                      ⟨some 156, .nilc (.tmp 155), none, []⟩,
                      ⟨some 157, .fad 7 (.tmp 156), none, []⟩,
                      ⟨some 158, .fad 1 (.tmp 157), none, []⟩,
                      ⟨none, .store 1 (.tmp 158) (.const (.int .i64 0)), none, []⟩] [155, 156, 157, 158])
                   (.region false [⟨some 159, .mv (.tmp 0), none, []⟩,
                     ⟨some 160, .nilc (.tmp 159), none, []⟩,
                     ⟨some 161, .fad 7 (.tmp 160), none, []⟩,
                     ⟨some 162, .fad 3 (.tmp 161), none, []⟩,
                     ⟨some 163, .load1 (.tmp 162), none, []⟩,
                     ⟨some 164, .bin .add (.tmp 163) (.const (.int .i64 1)), none, []⟩,
                     ⟨some 165, .nilc (.tmp 159), none, []⟩,
                     ⟨some 166, .fad 7 (.tmp 165), none, []⟩,
                     ⟨some 167, .fad 3 (.tmp 166), none, []⟩,
                     ⟨none, .store 1 (.tmp 167) (.tmp 164), none, []⟩] [159, 160, 161, 162, 163, 164, 165, 166, 167]))
                   (.seq
                    (.region false [⟨some 169, .fad 0 (.tmp 3), none, []⟩,
                      ⟨some 170, .load1 (.tmp 169), none, []⟩,
                      ⟨some 171, .bin .eql (.tmp 170) (.const (.int .i64 6)), none, []⟩,
                      ⟨some 168, .mv (.tmp 171), none, []⟩] [169, 170, 171])
                   (.cond (.tmp 168)
                     (.region false [⟨some 172, .mv (.tmp 0), none, []⟩,
                       ⟨some 173, .mv (.tmp 0), none, []⟩,
                       ⟨some 174, .mv (.tmp 0), none, []⟩,
                       ⟨some 175, .nilc (.tmp 172), none, []⟩,
                       ⟨some 176, .fad 7 (.tmp 175), none, []⟩,
                       ⟨some 177, .fad 0 (.tmp 176), none, []⟩,
                       ⟨none, .store 1 (.tmp 177) (.const (.int .i64 0)), none, []⟩,
                       ⟨some 178, .nilc (.tmp 173), none, []⟩,
                       ⟨some 179, .fad 7 (.tmp 178), none, []⟩,
                       ⟨some 180, .fad 1 (.tmp 179), none, []⟩,
                       ⟨none, .store 1 (.tmp 180) (.const (.int .i64 0)), none, []⟩,
                       ⟨some 181, .nilc (.tmp 174), none, []⟩,
                       ⟨some 182, .fad 7 (.tmp 181), none, []⟩,
                       ⟨some 183, .fad 4 (.tmp 182), none, []⟩,
                       ⟨none, .store 1 (.tmp 183) (.const (.bool true)), none, []⟩] [172, 173, 174, 175, 176, 177, 178, 179, 180, 181, 182, 183])
                     (.seq
                      (.region false [⟨some 4, .mv (.const (.bool false)), none, []⟩] [])
                     .ret))))))))))))))))))
  (.seq
   (.region false [⟨some 4, .mv (.const (.bool true)), none, []⟩] [])
  .ret))))
set_option maxRecDepth 100000 in
theorem kpsling_winch_do : IsCode Try.prog 74 184 cpsling_winch_do [.tmp 4] :=
  ⟨Try.f74, _, [168, 143, 124, 120, 113, 57, 38, 20, 14, 1, 0, 3, 4], Try.func74, rfl, by decide, rfl, by kernel_rfl, by kernel_rfl⟩
/-- sling_at -/
def csling_at : ACode :=
  (.seq
   (.region false [⟨some 2, .mem [(.val (.int .i64 0)), (.val (.int .i64 0))], none, []⟩] [])
  (.seq
   (.region false [⟨some 3, .mv (.tmp 0), none, []⟩,
     ⟨some 4, .mv (.tmp 0), none, []⟩,
     ⟨some 5, .build [(.val (.int .i64 0)), (.val (.int .i64 0))] [(0, 1, (.tmp 3)), (1, 1, (.tmp 4))], none, []⟩,
     ⟨none, .store 2 (.tmp 2) (.tmp 5), none, []⟩] [3, 4, 5])
  .ret))
set_option maxRecDepth 100000 in
theorem ksling_at : IsCode Try.prog 59 6 csling_at [.cellN 2 2] :=
  ⟨Try.f59, _, [0, 2], Try.func59, rfl, by decide, rfl, by kernel_rfl, by kernel_rfl⟩
/-- sling_Haul -/
def csling_Haul : ACode :=
  (.seq
   (.region false [⟨some 3, .box (.tmp 0), none, []⟩,
     ⟨some 4, .box (.tmp 1), none, []⟩,
     ⟨some 6, .mem [(.val (.int .i64 0)), (.val (.int .i64 0)), (.val (.int .i64 0)), (.val (.int .i64 0)), (.val (.bool false))], none, []⟩,
     ⟨some 7, .mv (.const (.int .i64 0)), none, []⟩,
     ⟨some 8, .mv (.const (.int .i64 0)), none, []⟩] [])
  (.seq
   (.region false [⟨some 14, .loadN 5 (.tmp 3), none, []⟩,
     ⟨some 15, .loadN 2 (.tmp 4), none, []⟩,
     ⟨some 16, .call (.func 57) [(.tmp 14), (.tmp 15)], none, []⟩,
     ⟨some 13, .mv (.tmp 16), none, []⟩,
     ⟨some 17, .ext (.tmp 13) 0, none, []⟩,
     ⟨some 18, .ext (.tmp 13) 1, none, []⟩,
     ⟨some 19, .ext (.tmp 13) 2, none, []⟩,
     ⟨some 9, .mv (.tmp 17), none, []⟩,
     ⟨some 10, .mv (.tmp 18), none, []⟩,
     ⟨some 8, .mv (.tmp 19), none, []⟩] [14, 15, 16, 13, 17, 18, 19])
  (.seq
   (.block 0
     (.seq
      (.region false [⟨some 21, .mv (.tmp 8), none, []⟩,
        ⟨some 22, .bin .neq (.tmp 21) (.const (.int .i64 0)), none, []⟩,
        ⟨some 20, .mv (.tmp 22), none, []⟩] [21, 22])
     (.cond (.tmp 20)
       (.seq
        (.region false [⟨some 23, .build [(.val (.int .i64 0)), (.val (.int .i64 0)), (.val (.int .i64 0)), (.val (.int .i64 0)), (.val (.bool false))] [], none, []⟩,
          ⟨some 24, .mv (.tmp 8), none, []⟩,
          ⟨none, .store 5 (.tmp 6) (.tmp 23), none, []⟩,
          ⟨some 7, .mv (.const (.int .i64 0)), none, []⟩,
          ⟨some 8, .mv (.tmp 24), none, []⟩] [23, 24])
       .ret)
       (.seq
        (.region false [⟨some 26, .mv (.tmp 2), none, []⟩,
          ⟨some 27, .len_ (.tmp 26), none, []⟩,
          ⟨some 28, .bin .gtr (.tmp 27) (.const (.int .i64 100)), none, []⟩,
          ⟨some 25, .mv (.tmp 28), none, []⟩] [26, 27, 28])
       (.cond (.tmp 25)
         (.seq
          (.region false [⟨some 29, .build [(.val (.int .i64 0)), (.val (.int .i64 0)), (.val (.int .i64 0)), (.val (.int .i64 0)), (.val (.bool false))] [], none, []⟩,
            ⟨none, .store 5 (.tmp 6) (.tmp 29), none, []⟩,
            ⟨some 7, .mv (.const (.int .i64 0)), none, []⟩,
            ⟨some 8, .mv (.const (.int .i64 2)), none, []⟩] [29])
         .ret)
         (.seq
          (.region false [⟨some 31, .mv (.tmp 10), none, []⟩,
            ⟨some 32, .un .not (.tmp 31), none, []⟩,
            ⟨some 30, .mv (.tmp 32), none, []⟩] [31, 32])
         (.cond (.tmp 30)
           (.seq
            (.region false [⟨some 33, .build [(.val (.int .i64 0)), (.val (.int .i64 0)), (.val (.int .i64 0)), (.val (.int .i64 0)), (.val (.bool false))] [], none, []⟩,
              ⟨none, .store 5 (.tmp 6) (.tmp 33), none, []⟩,
              ⟨some 7, .mv (.const (.int .i64 0)), none, []⟩,
              ⟨some 8, .mv (.const (.int .i64 1)), none, []⟩] [33])
           .ret)
           .skip)))))))
  (.seq
   (.seq
    (.region false [⟨some 34, .mv (.tmp 2), none, []⟩,
      ⟨some 35, .len_ (.tmp 34), none, []⟩,
      ⟨some 36, .mv (.const (.int .i64 0)), none, []⟩] [])
   (.block 1
     (.loop
       (.seq
        (.region false [⟨some 37, .bin .lss (.tmp 36) (.tmp 35), none, []⟩] [])
       (.seq
        (.cond (.tmp 37)
          .skip
          (.exit 1))
       (.seq
        (.block 2
          (.seq
           (.region false [⟨some 38, .mv (.tmp 36), none, []⟩,
             ⟨some 39, .iadS 2 (.tmp 34) (.tmp 36), none, []⟩,
             ⟨some 40, .loadN 2 (.tmp 39), none, []⟩,
             ⟨some 12, .mem [(.val (.int .i64 0)), (.val (.int .i64 0))], none, []⟩,
             ⟨some 11, .mv (.tmp 38), none, []⟩,
             ⟨none, .store 2 (.tmp 12) (.tmp 40), none, []⟩] [38, 39, 40])
          (.seq
           (.region false [⟨some 41, .mv (.tmp 9), none, []⟩,
             ⟨some 42, .loadN 2 (.tmp 12), none, []⟩,
             ⟨some 43, .call (.func 74) [(.tmp 41), (.tmp 42)], none, []⟩,
             ⟨some 44, .un .not (.tmp 43), none, []⟩] [41, 42, 43])
          (.cond (.tmp 44)
            (.seq
             (.region false [⟨some 45, .build [(.val (.int .i64 0)), (.val (.int .i64 0)), (.val (.int .i64 0)), (.val (.int .i64 0)), (.val (.bool false))] [], none, []⟩,
               ⟨some 46, .mv (.tmp 11), none, []⟩,
               ⟨none, .store 5 (.tmp 6) (.tmp 45), none, []⟩,
               ⟨some 7, .mv (.tmp 46), none, []⟩,
               ⟨some 8, .mv (.const (.int .i64 72)), none, []⟩] [45, 46])
            .ret)
            .skip))))
       (.region false [⟨some 47, .bin .add (.tmp 36) (.const (.int .i64 1)), none, []⟩,
         ⟨some 36, .mv (.tmp 47), none, []⟩] [47])))))))
  (.seq
   (.region false [⟨some 48, .mv (.tmp 9), none, []⟩,
     ⟨some 49, .nilc (.tmp 48), none, []⟩,
     ⟨some 50, .fad 7 (.tmp 49), none, []⟩,
     ⟨some 51, .loadN 5 (.tmp 50), none, []⟩,
     ⟨none, .store 5 (.tmp 6) (.tmp 51), none, []⟩,
     ⟨some 7, .mv (.const (.int .i64 0)), none, []⟩,
     ⟨some 8, .mv (.const (.int .i64 0)), none, []⟩] [48, 49, 50, 51])
  .ret)))))
set_option maxRecDepth 100000 in
theorem ksling_Haul : IsCode Try.prog 32 52 csling_Haul [.cellN 6 5, .tmp 7, .tmp 8] :=
  ⟨Try.f32, _, [44, 37, 30, 25, 20, 0, 1, 3, 4, 8, 6, 2, 10, 36, 35, 34, 9, 12, 11, 7], Try.func32, rfl, by decide, rfl, by kernel_rfl, by kernel_rfl⟩
/-- sling_Carries -/
def csling_Carries : ACode :=
  (.seq
   (.region false [⟨some 4, .box (.tmp 0), none, []⟩,
     ⟨some 5, .box (.tmp 1), none, []⟩,
     ⟨some 8, .mv (.const (.bool false)), none, []⟩,
     ⟨some 9, .mv (.const (.int .i64 0)), none, []⟩] [])
  (.seq
   (.region false [⟨some 14, .loadN 5 (.tmp 4), none, []⟩,
     ⟨some 15, .loadN 2 (.tmp 5), none, []⟩,
     ⟨some 16, .call (.func 57) [(.tmp 14), (.tmp 15)], none, []⟩,
     ⟨some 13, .mv (.tmp 16), none, []⟩,
     ⟨some 17, .ext (.tmp 13) 0, none, []⟩,
     ⟨some 18, .ext (.tmp 13) 1, none, []⟩,
     ⟨some 19, .ext (.tmp 13) 2, none, []⟩,
     ⟨some 10, .mv (.tmp 17), none, []⟩,
     ⟨some 11, .mv (.tmp 18), none, []⟩,
     ⟨some 12, .mv (.tmp 19), none, []⟩] [14, 15, 16, 13, 17, 18, 19])
  (.seq
   (.block 0
     (.seq
      (.region false [⟨some 21, .mv (.tmp 12), none, []⟩,
        ⟨some 22, .bin .neq (.tmp 21) (.const (.int .i64 0)), none, []⟩,
        ⟨some 20, .mv (.tmp 22), none, []⟩] [21, 22])
     (.cond (.tmp 20)
       (.seq
        (.region false [⟨some 23, .mv (.tmp 12), none, []⟩,
          ⟨some 8, .mv (.const (.bool false)), none, []⟩,
          ⟨some 9, .mv (.tmp 23), none, []⟩] [23])
       .ret)
       (.seq
        (.seq
         (.region false [⟨some 25, .mv (.tmp 11), none, []⟩,
           ⟨some 26, .un .not (.tmp 25), none, []⟩,
           ⟨some 24, .mv (.tmp 26), none, []⟩] [25, 26])
        (.cond (.tmp 24)
          .skip
          (.seq
           (.region false [⟨some 27, .mv (.tmp 2), none, []⟩,
             ⟨some 28, .fad 0 (.tmp 4), none, []⟩,
             ⟨some 29, .load1 (.tmp 28), none, []⟩,
             ⟨some 30, .call (.func 53) [(.tmp 27), (.const (.int .i64 0)), (.tmp 29)], none, []⟩,
             ⟨some 31, .un .not (.tmp 30), none, []⟩,
             ⟨some 24, .mv (.tmp 31), none, []⟩] [27, 28, 29, 30, 31])
          (.cond (.tmp 24)
            .skip
            (.region false [⟨some 32, .mv (.tmp 3), none, []⟩,
              ⟨some 33, .call (.func 53) [(.tmp 32), (.const (.int .i64 1)), (.const (.int .i64 100000))], none, []⟩,
              ⟨some 34, .un .not (.tmp 33), none, []⟩,
              ⟨some 24, .mv (.tmp 34), none, []⟩] [32, 33, 34])))))
       (.cond (.tmp 24)
         (.seq
          (.region false [⟨some 8, .mv (.const (.bool false)), none, []⟩,
            ⟨some 9, .mv (.const (.int .i64 1)), none, []⟩] [])
         .ret)
         .skip)))))
  (.seq
   (.region false [⟨some 35, .mv (.tmp 10), none, []⟩,
     ⟨some 36, .mv (.tmp 2), none, []⟩,
     ⟨some 37, .call (.func 59) [(.tmp 36)], none, []⟩,
     ⟨some 38, .mv (.tmp 3), none, []⟩,
     ⟨some 39, .call (.func 58) [(.tmp 35), (.tmp 37), (.tmp 38)], none, []⟩,
     ⟨some 8, .mv (.tmp 39), none, []⟩,
     ⟨some 9, .mv (.const (.int .i64 0)), none, []⟩] [35, 36, 37, 38, 39])
  .ret))))
set_option maxRecDepth 100000 in
theorem ksling_Carries : IsCode Try.prog 19 40 csling_Carries [.tmp 8, .tmp 9] :=
  ⟨Try.f19, _, [24, 20, 0, 1, 4, 5, 12, 11, 2, 3, 10, 8, 9], Try.func19, rfl, by decide, rfl, by kernel_rfl, by kernel_rfl⟩
/-- sling_Deepest -/
def csling_Deepest : ACode :=
  (.seq
   (.region false [⟨some 3, .box (.tmp 0), none, []⟩,
     ⟨some 4, .box (.tmp 1), none, []⟩,
     ⟨some 6, .mv (.const (.int .i64 0)), none, []⟩,
     ⟨some 7, .mv (.const (.int .i64 0)), none, []⟩] [])
  (.seq
   (.region false [⟨some 13, .loadN 5 (.tmp 3), none, []⟩,
     ⟨some 14, .loadN 2 (.tmp 4), none, []⟩,
     ⟨some 15, .call (.func 57) [(.tmp 13), (.tmp 14)], none, []⟩,
     ⟨some 12, .mv (.tmp 15), none, []⟩,
     ⟨some 16, .ext (.tmp 12) 0, none, []⟩,
     ⟨some 17, .ext (.tmp 12) 1, none, []⟩,
     ⟨some 18, .ext (.tmp 12) 2, none, []⟩,
     ⟨some 8, .mv (.tmp 16), none, []⟩,
     ⟨some 9, .mv (.tmp 17), none, []⟩,
     ⟨some 10, .mv (.tmp 18), none, []⟩] [13, 14, 15, 12, 16, 17, 18])
  (.seq
   (.block 0
     (.seq
      (.region false [⟨some 20, .mv (.tmp 10), none, []⟩,
        ⟨some 21, .bin .neq (.tmp 20) (.const (.int .i64 0)), none, []⟩,
        ⟨some 19, .mv (.tmp 21), none, []⟩] [20, 21])
     (.cond (.tmp 19)
       (.seq
        (.region false [⟨some 22, .mv (.tmp 10), none, []⟩,
          ⟨some 6, .mv (.const (.int .i64 0)), none, []⟩,
          ⟨some 7, .mv (.tmp 22), none, []⟩] [22])
       .ret)
       (.seq
        (.seq
         (.region false [⟨some 24, .mv (.tmp 9), none, []⟩,
           ⟨some 25, .un .not (.tmp 24), none, []⟩,
           ⟨some 23, .mv (.tmp 25), none, []⟩] [24, 25])
        (.cond (.tmp 23)
          .skip
          (.region false [⟨some 26, .mv (.tmp 2), none, []⟩,
            ⟨some 27, .call (.func 53) [(.tmp 26), (.const (.int .i64 1)), (.const (.int .i64 100000))], none, []⟩,
            ⟨some 28, .un .not (.tmp 27), none, []⟩,
            ⟨some 23, .mv (.tmp 28), none, []⟩] [26, 27, 28])))
       (.cond (.tmp 23)
         (.seq
          (.region false [⟨some 6, .mv (.const (.int .i64 0)), none, []⟩,
            ⟨some 7, .mv (.const (.int .i64 1)), none, []⟩] [])
         .ret)
         .skip)))))
  (.seq
   (.seq
    (.region false [⟨some 29, .fad 0 (.tmp 3), none, []⟩,
      ⟨some 30, .load1 (.tmp 29), none, []⟩,
      ⟨some 11, .mv (.tmp 30), none, []⟩] [29, 30])
   (.block 1
     (.loop
       (.seq
        (.seq
         (.region false [⟨some 31, .mv (.tmp 11), none, []⟩,
           ⟨some 32, .bin .geq (.tmp 31) (.const (.int .i64 0)), none, []⟩] [31])
        (.cond (.tmp 32)
          .skip
          (.exit 1)))
       (.seq
        (.block 2
          (.seq
           (.region false [⟨some 35, .mv (.tmp 8), none, []⟩,
             ⟨some 36, .mv (.tmp 11), none, []⟩,
             ⟨some 37, .build [(.val (.int .i64 0)), (.val (.int .i64 0))] [(1, 1, (.tmp 36))], none, []⟩,
             ⟨some 38, .mv (.tmp 2), none, []⟩,
             ⟨some 39, .call (.func 58) [(.tmp 35), (.tmp 37), (.tmp 38)], none, []⟩] [35, 36, 37, 38])
          (.cond (.tmp 39)
            (.seq
             (.region false [⟨some 40, .mv (.tmp 11), none, []⟩,
               ⟨some 6, .mv (.tmp 40), none, []⟩,
               ⟨some 7, .mv (.const (.int .i64 0)), none, []⟩] [40])
            .ret)
            .skip)))
       (.region false [⟨some 33, .mv (.tmp 11), none, []⟩,
         ⟨some 34, .bin .sub (.tmp 33) (.const (.int .i64 1)), none, []⟩,
         ⟨some 11, .mv (.tmp 34), none, []⟩] [33, 34]))))))
  (.seq
   (.region false [⟨some 6, .mv (.const (.int .i64 0)), none, []⟩,
     ⟨some 7, .mv (.const (.int .i64 3)), none, []⟩] [])
  .ret)))))
set_option maxRecDepth 100000 in
theorem ksling_Deepest : IsCode Try.prog 21 41 csling_Deepest [.tmp 6, .tmp 7] :=
  ⟨Try.f21, _, [39, 32, 23, 19, 0, 1, 3, 4, 10, 9, 2, 11, 8, 6, 7], Try.func21, rfl, by decide, rfl, by kernel_rfl, by kernel_rfl⟩
/-- ref07_CheckHoist -/
def cref07_CheckHoist : ACode :=
  (.seq
   (.region false [⟨some 1, .box (.tmp 0), none, []⟩,
     ⟨some 2, .mv (.const (.int .i64 0)), none, []⟩] [])
  (.seq
   (.seq
    (.region false [⟨some 4, .fad 0 (.tmp 1), none, []⟩,
      ⟨some 5, .load1 (.tmp 4), none, []⟩,
      ⟨some 6, .call (.func 56) [(.tmp 5), (.const (.int .i64 1)), (.const (.int .i64 100))], none, []⟩,
      ⟨some 7, .un .not (.tmp 6), none, []⟩,
      ⟨some 8, .mv (.tmp 7), none, []⟩,
      ⟨some 9, .fad 4 (.tmp 1), (some (some 8, false)), []⟩,
      ⟨some 10, .load1 (.tmp 9), (some (some 8, false)), []⟩,
      ⟨some 11, .call (.func 56) [(.tmp 10), (.const (.int .i64 0)), (.const (.int .i64 100))], (some (some 8, false)), []⟩,
      ⟨some 12, .un .not (.tmp 11), (some (some 8, false)), []⟩,
      ⟨some 13, .pick (.tmp 8) (.const (.bool true)) (.tmp 12), none, []⟩,
      ⟨some 14, .mv (.tmp 13), none, []⟩,
      ⟨some 15, .fad 1 (.tmp 1), (some (some 14, false)), []⟩,
      ⟨some 16, .loadN 3 (.tmp 15), (some (some 14, false)), []⟩,
      ⟨some 17, .call (.func 73) [(.tmp 16)], (some (some 14, false)), []⟩,
      ⟨some 18, .bin .neq (.tmp 17) (.const (.int .i64 0)), (some (some 14, false)), []⟩,
      ⟨some 19, .pick (.tmp 14) (.const (.bool true)) (.tmp 18), none, []⟩] [4, 5, 6, 7, 8, 9, 10, 11, 12, 13, 14, 15, 16, 17, 18])
   (.cond (.tmp 19)
     (.seq
      (.region false [⟨some 2, .mv (.const (.int .i64 71)), none, []⟩] [])
     .ret)
     .skip))
  (.seq
   (.region false [⟨some 20, .fad 1 (.tmp 1), none, []⟩,
     ⟨some 21, .fad 0 (.tmp 20), none, []⟩,
     ⟨some 22, .load1 (.tmp 21), none, []⟩,
     ⟨some 3, .mv (.tmp 22), none, []⟩] [20, 21, 22])
  (.seq
   (.seq
    (.region true [⟨some 23, .mv (.tmp 3), none, []⟩,
      ⟨some 24, .iadS 1 (.tmp 23) (.const (.int .i64 0)), none, [0]⟩,
      ⟨some 25, .load1 (.tmp 24), none, [1, 0]⟩,
      ⟨some 26, .bin .gtr (.tmp 25) (.const (.int .i64 0)), none, [2, 1, 0]⟩,
      ⟨some 27, .mv (.tmp 26), none, [3, 2, 1, 0]⟩,
      ⟨some 28, .mv (.tmp 3), (some (some 27, false)), [4, 3, 2, 1, 0]⟩,
      ⟨some 29, .mv (.tmp 3), (some (some 27, false)), [4, 3, 2, 1, 0]⟩,
      ⟨some 30, .len_ (.tmp 29), (some (some 27, false)), [6, 4, 3, 2, 1, 0]⟩,
      ⟨some 31, .bin .sub (.tmp 30) (.const (.int .i64 1)), (some (some 27, false)), [7, 6, 4, 3, 2, 1, 0]⟩,
      ⟨some 32, .iadS 1 (.tmp 28) (.tmp 31), (some (some 27, false)), [5, 4, 3, 2, 1, 0, 8, 7, 6]⟩,
      ⟨some 33, .load1 (.tmp 32), (some (some 27, false)), [9, 5, 4, 3, 2, 1, 0, 8, 7, 6]⟩,
      ⟨some 34, .fad 0 (.tmp 1), (some (some 27, false)), [4, 3, 2, 1, 0]⟩,
      ⟨some 35, .load1 (.tmp 34), (some (some 27, false)), [11, 4, 3, 2, 1, 0]⟩,
      ⟨some 36, .bin .lss (.tmp 33) (.tmp 35), (some (some 27, false)), [10, 9, 5, 4, 3, 2, 1, 0, 8, 7, 6, 12, 11]⟩,
      ⟨some 37, .pick (.tmp 27) (.const (.bool true)) (.tmp 36), none, [4, 3, 2, 1, 0, 13, 10, 9, 5, 8, 7, 6, 12, 11]⟩] [23, 24, 25, 26, 27, 28, 29, 30, 31, 32, 33, 34, 35, 36])
   (.cond (.tmp 37)
     (.seq
      (.region false [⟨some 2, .mv (.const (.int .i64 71)), none, []⟩] [])
     .ret)
     .skip))
  (.seq
   (.region false [⟨some 2, .mv (.const (.int .i64 0)), none, []⟩] [])
  .ret)))))
set_option maxRecDepth 100000 in
theorem kref07_CheckHoist : IsCode Try.prog 31 38 cref07_CheckHoist [.tmp 2] :=
  ⟨Try.f31, _, [37, 19, 0, 1, 3, 2], Try.func31, rfl, by decide, rfl, by kernel_rfl, by kernel_rfl⟩
/-- ref07_CheckWinds -/
def cref07_CheckWinds : ACode :=
  (.seq
   (.region false [⟨some 2, .box (.tmp 0), none, []⟩,
     ⟨some 3, .box (.tmp 1), none, []⟩,
     ⟨some 4, .mv (.const (.int .i64 0)), none, []⟩] [])
  (.seq
   (.seq
    (.region false [⟨some 6, .loadN 5 (.tmp 2), none, []⟩,
      ⟨some 7, .call (.func 31) [(.tmp 6)], none, []⟩,
      ⟨some 5, .mv (.tmp 7), none, []⟩] [6, 7])
   (.seq
    (.region false [⟨some 8, .mv (.tmp 5), none, []⟩,
      ⟨some 9, .bin .neq (.tmp 8) (.const (.int .i64 0)), none, []⟩] [8])
   (.cond (.tmp 9)
     (.seq
      (.region false [⟨some 10, .mv (.tmp 5), none, []⟩,
        ⟨some 4, .mv (.tmp 10), none, []⟩] [10])
     .ret)
     .skip)))
  (.seq
   (.seq
    (.region false [⟨some 11, .loadN 2 (.tmp 3), none, []⟩,
      ⟨some 12, .call (.func 61) [(.tmp 11)], none, []⟩,
      ⟨some 13, .un .not (.tmp 12), none, []⟩] [11, 12])
   (.cond (.tmp 13)
     (.seq
      (.region false [⟨some 4, .mv (.const (.int .i64 10)), none, []⟩] [])
     .ret)
     .skip))
  (.seq
   (.seq
    (.region false [⟨some 14, .fad 1 (.tmp 2), none, []⟩,
      ⟨some 15, .fad 1 (.tmp 14), none, []⟩,
      ⟨some 16, .load1 (.tmp 15), none, []⟩,
      ⟨some 17, .loadN 2 (.tmp 3), none, []⟩,
      ⟨some 18, .call (.func 62) [(.tmp 16), (.tmp 17)], none, []⟩,
      ⟨some 19, .un .not (.tmp 18), none, []⟩] [14, 15, 16, 17, 18])
   (.cond (.tmp 19)
     (.seq
      (.region false [⟨some 4, .mv (.const (.int .i64 1)), none, []⟩] [])
     .ret)
     .skip))
  (.seq
   (.region false [⟨some 4, .mv (.const (.int .i64 0)), none, []⟩] [])
  .ret)))))
set_option maxRecDepth 100000 in
theorem kref07_CheckWinds : IsCode Try.prog 23 20 cref07_CheckWinds [.tmp 4] :=
  ⟨Try.f23, _, [19, 13, 9, 0, 1, 2, 5, 3, 4], Try.func23, rfl, by decide, rfl, by kernel_rfl, by kernel_rfl⟩
/-- law07_Example -/
def claw07_Example : ACode :=
  (.seq
   (.region false [⟨some 0, .mem [(.val (.int .i64 0)), (.val (.slice none 0 0)), (.val (.slice none 0 0)), (.val (.slice none 0 0)), (.val (.int .i64 0))], none, []⟩] [])
  (.seq
   (.region false [⟨some 1, .buildSl 1 2 [(.val (.int .i64 0)), (.val (.int .i64 0))] [(0, 1, (.const (.int .i64 0))), (1, 1, (.const (.int .i64 50)))], none, []⟩,
     ⟨some 2, .buildSl 1 2 [(.val (.int .i64 0)), (.val (.int .i64 0))] [(0, 1, (.const (.int .i64 0))), (1, 1, (.const (.int .i64 20)))], none, []⟩,
     ⟨some 3, .buildSl 1 2 [(.val (.int .i64 0)), (.val (.int .i64 0))] [(0, 1, (.const (.int .i64 300))), (1, 1, (.const (.int .i64 200)))], none, []⟩,
     ⟨some 4, .buildSl 1 2 [(.val (.int .i64 0)), (.val (.int .i64 0))] [(0, 1, (.const (.int .i64 200))), (1, 1, (.const (.int .i64 100)))], none, []⟩,
     ⟨some 5, .buildSl 1 2 [(.val (.slice none 0 0)), (.val (.slice none 0 0))] [(0, 1, (.tmp 3)), (1, 1, (.tmp 4))], none, []⟩,
     ⟨some 6, .build [(.val (.slice none 0 0)), (.val (.slice none 0 0)), (.val (.slice none 0 0))] [(0, 1, (.tmp 1)), (1, 1, (.tmp 2)), (2, 1, (.tmp 5))], none, []⟩,
     ⟨some 7, .build [(.val (.int .i64 0)), (.val (.slice none 0 0)), (.val (.slice none 0 0)), (.val (.slice none 0 0)), (.val (.int .i64 0))] [(0, 1, (.const (.int .i64 50))), (4, 1, (.const (.int .i64 2))), (1, 3, (.tmp 6))], none, []⟩,
     ⟨none, .store 5 (.tmp 0) (.tmp 7), none, []⟩] [1, 2, 3, 4, 5, 6, 7])
  .ret))
set_option maxRecDepth 100000 in
theorem klaw07_Example : IsCode Try.prog 49 8 claw07_Example [.cellN 0 5] :=
  ⟨Try.f49, _, [0], Try.func49, rfl, by decide, rfl, by kernel_rfl, by kernel_rfl⟩
/-- law07_works -/
def claw07_works : ACode :=
  (.seq
   (.region false [⟨some 0, .mv (.const (.bool false)), none, []⟩] [])
  (.seq
   (.region false [⟨some 6, .build [(.val (.int .i64 0)), (.val (.int .i64 0)), (.val (.int .i64 0))] [(0, 1, (.const (.int .i64 1))), (1, 1, (.const (.int .i64 1))), (2, 1, (.const (.int .i64 2)))], none, []⟩,
     ⟨some 7, .build [(.val (.int .i64 0)), (.val (.int .i64 0))] [(0, 1, (.const (.int .i64 1))), (1, 1, (.const (.int .i64 1)))], none, []⟩,
     ⟨some 8, .buildSl 1 2 [(.val (.int .i64 0)), (.val (.int .i64 0))] [(0, 1, (.const (.int .i64 0))), (1, 1, (.const (.int .i64 1)))], none, []⟩,
     ⟨some 9, .call (.func 16) [(.tmp 6), (.tmp 7), (.tmp 8)], none, []⟩,
     ⟨some 5, .mv (.tmp 9), none, []⟩,
     ⟨some 10, .ext (.tmp 5) 0, none, []⟩,
     ⟨some 11, .ext (.tmp 5) 1, none, []⟩,
     ⟨some 1, .mv (.tmp 10), none, []⟩,
     ⟨some 2, .mv (.tmp 11), none, []⟩] [6, 7, 8, 9, 5, 10, 11])
  (.seq
   (.region false [⟨some 13, .call (.func 49) [], none, []⟩,
     ⟨some 14, .build [(.val (.int .i64 0)), (.val (.int .i64 0))] [(1, 1, (.const (.int .i64 10)))], none, []⟩,
     ⟨some 15, .call (.func 21) [(.tmp 13), (.tmp 14), (.const (.int .i64 200))], none, []⟩,
     ⟨some 12, .mv (.tmp 15), none, []⟩,
     ⟨some 16, .ext (.tmp 12) 0, none, []⟩,
     ⟨some 17, .ext (.tmp 12) 1, none, []⟩,
     ⟨some 3, .mv (.tmp 16), none, []⟩,
     ⟨some 4, .mv (.tmp 17), none, []⟩] [13, 14, 15, 12, 16, 17])
  (.seq
   (.region false [⟨some 18, .mv (.tmp 2), none, []⟩,
     ⟨some 19, .bin .eql (.tmp 18) (.const (.int .i64 0)), none, []⟩,
     ⟨some 20, .mv (.tmp 19), none, []⟩,
     ⟨some 21, .mv (.tmp 4), (some (some 20, true)), []⟩,
     ⟨some 22, .bin .eql (.tmp 21) (.const (.int .i64 0)), (some (some 20, true)), []⟩,
     ⟨some 23, .pick (.tmp 20) (.tmp 22) (.const (.bool false)), none, []⟩,
     ⟨some 24, .mv (.tmp 23), none, []⟩,
     ⟨some 25, .mv (.tmp 3), (some (some 24, true)), []⟩,
     ⟨some 26, .bin .eql (.tmp 25) (.const (.int .i64 25)), (some (some 24, true)), []⟩,
     ⟨some 27, .pick (.tmp 24) (.tmp 26) (.const (.bool false)), none, []⟩,
     ⟨some 28, .mv (.tmp 27), none, []⟩,
     ⟨some 29, .mv (.tmp 1), (some (some 28, true)), []⟩,
     ⟨some 30, .build [(.val (.int .i64 0)), (.val (.int .i64 0))] [(0, 1, (.const (.int .i64 1))), (1, 1, (.const (.int .i64 1)))], (some (some 28, true)), []⟩,
     ⟨some 31, .build [(.val (.int .i64 0)), (.val (.int .i64 0))] [(0, 1, (.const (.int .i64 3))), (1, 1, (.const (.int .i64 2)))], (some (some 28, true)), []⟩,
     ⟨some 32, .buildSl 2 2 [(.val (.int .i64 0)), (.val (.int .i64 0)), (.val (.int .i64 0)), (.val (.int .i64 0))] [(0, 2, (.tmp 30)), (2, 2, (.tmp 31))], (some (some 28, true)), []⟩,
     ⟨some 33, .call (.func 27) [(.tmp 29), (.tmp 32)], (some (some 28, true)), []⟩,
     ⟨some 34, .pick (.tmp 28) (.tmp 33) (.const (.bool false)), none, []⟩,
     ⟨some 0, .mv (.tmp 34), none, []⟩] [18, 19, 20, 21, 22, 23, 24, 25, 26, 27, 28, 29, 30, 31, 32, 33, 34])
  .ret))))
set_option maxRecDepth 100000 in
theorem klaw07_works : IsCode Try.prog 15 35 claw07_works [.tmp 0] :=
  ⟨Try.f15, _, [2, 4, 3, 1, 0], Try.func15, rfl, by decide, rfl, by kernel_rfl, by kernel_rfl⟩
end Go.Proofs.Ythohcimmoobaoaa
/- The functions' bodies, translated. Written by a program; no conditions. -/
namespace Go.Proofs.Ythohcimmoobaoaa
open Go.RowKit Lift

/-- sling_Swing -/
def csling_Swing : ACode :=
  (.seq
   (.region false [⟨some 3, .box (.tmp 0), none, []⟩,
     ⟨some 4, .box (.tmp 1), none, []⟩,
     ⟨some 6, .mv (.const (.slice none 0 0)), none, []⟩,
     ⟨some 7, .mv (.const (.int .i64 0)), none, []⟩] [])
  (.seq
   (.seq
    (.region false [⟨some 12, .loadN 3 (.tmp 3), none, []⟩,
      ⟨some 13, .call (.func 25) [(.tmp 12)], none, []⟩,
      ⟨some 8, .mv (.tmp 13), none, []⟩] [12, 13])
   (.seq
    (.region false [⟨some 14, .mv (.tmp 8), none, []⟩,
      ⟨some 15, .bin .neq (.tmp 14) (.const (.int .i64 0)), none, []⟩] [14])
   (.cond (.tmp 15)
     (.seq
      (.region false [⟨some 16, .mv (.tmp 8), none, []⟩,
        ⟨some 6, .mv (.const (.slice none 0 0)), none, []⟩,
        ⟨some 7, .mv (.tmp 16), none, []⟩] [16])
     .ret)
     .skip)))
  (.seq
   (.seq
    (.region false [⟨some 17, .mv (.tmp 2), none, []⟩,
      ⟨some 18, .len_ (.tmp 17), none, []⟩,
      ⟨some 19, .bin .gtr (.tmp 18) (.const (.int .i64 16)), none, []⟩] [17, 18])
   (.cond (.tmp 19)
     (.seq
      (.region false [⟨some 6, .mv (.const (.slice none 0 0)), none, []⟩,
        ⟨some 7, .mv (.const (.int .i64 2)), none, []⟩] [])
     .ret)
     .skip))
  (.seq
   (.seq
    (.region false [⟨some 20, .loadN 2 (.tmp 4), none, []⟩,
      ⟨some 21, .call (.func 50) [(.tmp 20)], none, []⟩,
      ⟨some 22, .un .not (.tmp 21), none, []⟩,
      ⟨some 23, .mv (.tmp 22), none, []⟩,
      ⟨some 24, .mv (.tmp 2), (some (some 23, false)), []⟩,
      ⟨some 25, .call (.func 51) [(.tmp 24), (.func 52)], (some (some 23, false)), []⟩,
      ⟨some 26, .pick (.tmp 23) (.const (.bool true)) (.tmp 25), none, []⟩] [20, 21, 22, 23, 24, 25])
   (.cond (.tmp 26)
     (.seq
      (.region false [⟨some 6, .mv (.const (.slice none 0 0)), none, []⟩,
        ⟨some 7, .mv (.const (.int .i64 1)), none, []⟩] [])
     .ret)
     .skip))
  (.seq
   (.region false [⟨some 27, .loadN 3 (.tmp 3), none, []⟩,
     ⟨some 28, .iadA 2 1 (.tmp 4) (.const (.int .i64 0)), none, []⟩,
     ⟨some 29, .load1 (.tmp 28), none, []⟩,
     ⟨some 30, .iadA 2 1 (.tmp 4) (.const (.int .i64 1)), none, []⟩,
     ⟨some 31, .load1 (.tmp 30), none, []⟩,
     ⟨some 32, .build [(.val (.int .i64 0)), (.val (.int .i64 0)), (.val (.int .i64 0)), (.val (.int .i64 0)), (.val (.int .i64 0)), (.val (.int .i64 0))] [(0, 3, (.tmp 27)), (3, 1, (.tmp 29)), (4, 1, (.tmp 31)), (5, 1, (.const (.int .i64 1)))], none, []⟩,
     ⟨some 33, .box (.tmp 32), none, []⟩,
     ⟨some 9, .mv (.tmp 33), none, []⟩] [27, 28, 29, 30, 31, 32, 33])
  (.seq
   (.seq
    (.region false [⟨some 34, .mv (.tmp 2), none, []⟩,
      ⟨some 35, .len_ (.tmp 34), none, []⟩,
      ⟨some 36, .mv (.const (.int .i64 0)), none, []⟩] [])
   (.block 0
     (.loop
       (.seq
        (.region false [⟨some 37, .bin .lss (.tmp 36) (.tmp 35), none, []⟩] [])
       (.seq
        (.cond (.tmp 37)
          .skip
          (.exit 0))
       (.seq
        (.block 1
          (.seq
           (.region false [⟨some 38, .iadS 1 (.tmp 34) (.tmp 36), none, []⟩,
             ⟨some 39, .load1 (.tmp 38), none, []⟩,
             ⟨some 11, .mv (.tmp 39), none, []⟩] [38, 39])
          (.seq
           (.region false [⟨some 40, .mv (.tmp 9), none, []⟩,
             ⟨some 41, .mv (.tmp 11), none, []⟩,
             ⟨some 42, .call (.func 54) [(.tmp 40), (.tmp 41)], none, []⟩] [40, 41, 42])
          (.region false [⟨some 43, .mv (.tmp 6), none, []⟩,
            ⟨some 44, .mv (.tmp 9), none, []⟩,
            ⟨some 45, .call (.func 55) [(.tmp 44)], none, []⟩,
            ⟨some 46, .buildSl 2 1 [(.val (.int .i64 0)), (.val (.int .i64 0))] [(0, 2, (.tmp 45))], none, []⟩,
            ⟨some 47, .app 2 16 (.tmp 43) (.tmp 46), none, []⟩,
            ⟨some 6, .mv (.tmp 47), none, []⟩] [43, 44, 45, 46, 47]))))
       (.region false [⟨some 48, .bin .add (.tmp 36) (.const (.int .i64 1)), none, []⟩,
         ⟨some 36, .mv (.tmp 48), none, []⟩] [48])))))))
  (.seq
   (.region false [⟨some 49, .mv (.tmp 6), none, []⟩,
     ⟨some 6, .mv (.tmp 49), none, []⟩,
     ⟨some 7, .mv (.const (.int .i64 0)), none, []⟩] [49])
  .ret)))))))
set_option maxRecDepth 100000 in
theorem ksling_Swing : IsCode Try.prog 16 50 csling_Swing [.tmp 6, .tmp 7] :=
  ⟨Try.f16, _, [37, 26, 19, 15, 0, 1, 3, 8, 2, 4, 36, 35, 34, 9, 11, 6, 7], Try.func16, rfl, by decide, rfl, by kernel_rfl, by kernel_rfl⟩
end Go.Proofs.Ythohcimmoobaoaa
