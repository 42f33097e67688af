/- Texts of the law TopDescends, part 4. No conditions. -/
import Derived.Test.YtbncpngjclabhaaGreatPTopDescends03
import Derived.ProofKit
import Derived.OpenShut
import Derived.ChangeOld
import Derived.Below
import Derived.Lib.SmallJoins
import Derived.Deep.Matrix
set_option maxRecDepth 100000
set_option maxHeartbeats 16000000
/- The contract of spans.extremes: the corners with the least and the greatest value; old memory stays. -/
namespace Go.Proofs.YtbncpngjclabhaaGreat
open Go.RowKit Go.Shelf
attribute [local go_sem] Oper.semAt_some

theorem corners_any (t1 t2 t3 x1 x2 y1 y2 : Value) (w : World) :
    Calls Tryz.prog 63 #[.agg #[t1,t2,t3],.agg #[x1,x2],.agg #[y1,y2]] w fun e w' => e = .returned (.func (.func 88) #[] #[.pointer (some ⟨w.heap.size,0,none⟩),.pointer (some ⟨w.heap.size + 1,0,none⟩),.pointer (some ⟨w.heap.size + 2,0,none⟩)]) ∧
      ((w.alloc (.cells #[t1,t2,t3] 25)).alloc (.cells #[x1,x2] 31)).alloc (.cells #[y1,y2] 31) = w' := by
  go_enter Tryz.func63,Tryz.ntmps63
  go_wp2_with fail
  go_ret
  exact ⟨rfl,rfl⟩
theorem corners_stops (n : Nat) (hn : 3 ≤ n) (bt n1 n2 : Nat) (xs ys : List Int) (vs : List (List Int)) (X Y V : Option Addr) (cx cy cv : Nat) (xl xh yl yh : Int)
    (hT : Tbl xs ys vs) (hx1 : xs[0]?.getD 0 ≤ xl) (hx2 : xh ≤ xs[xs.length-1]?.getD 0) (hx : xl ≤ xh) (hy1 : ys[0]?.getD 0 ≤ yl) (hy2 : yh ≤ ys[ys.length-1]?.getD 0) (hy : yl ≤ yh)
    (w0 W : World) (hR : TabR w0 X Y V cx cy cv xs ys vs) (hw0 : w0.heap.size ≤ n1) (hn2 : n2 ≤ bt) (hKW : KB n1 n2 w0 W) (hbt : bt + 2 < W.heap.size)
    (ht : W.heap[bt]? = some (.cells #[.slice X xs.length cx,.slice Y ys.length cy,.slice V vs.length cv] 25)) (hbx : W.heap[bt + 1]? = some (.cells #[.int .i64 xl,.int .i64 xh] 31)) (hby : W.heap[bt + 2]? = some (.cells #[.int .i64 yl,.int .i64 yh] 31)) :
    SeqStopsK Fence.wide n Tryz.prog 88 #[.pointer (some ⟨bt,0,none⟩),.pointer (some ⟨bt + 1,0,none⟩),.pointer (some ⟨bt + 2,0,none⟩)] encP (KB n1 n2)
      (fun ps => ps = allPts xs ys vs (stopsL xs xl xh) (stopsL ys yl yh)) (fun pre => pre <+: allPts xs ys vs (stopsL xs xl xh) (stopsL ys yl yh)) (allPts xs ys vs (stopsL xs xl xh) (stopsL ys yl yh)).length W := by
  intro l J Jx W' hb hJ hJx hYd h0
  have hc : ∀ {b : Nat} {cs : Array Value} {t : TypeId} {v : Value} (o : Nat),W.heap[b]? = some (.cells cs t) → cs[o]? = some v → b < W.heap.size → W'.cell? ⟨b,o,none⟩ = some v := fun o h1 h2 h3 => by
    rw [hb.cell (p := ⟨_,o,none⟩) h3,cell_of_row W _ o _ _ _ h1]; exact h2
  exact corners1_in n hn l bt (bt + 1) (bt + 2) n1 n2 xs ys vs X Y V cx cy cv xl xh yl yh hT hx1 hx2 hx hy1 hy2 hy w0 W' hR hw0 hn2 (by omega) (by omega) (hKW.trans (KB.of_below hb)) (by have := hb.size; omega)
    (hc 0 ht rfl (by omega)) (hc 1 ht rfl (by omega)) (hc 2 ht rfl (by omega)) (hc 0 hbx rfl (by omega)) (hc 1 hbx rfl (by omega)) (hc 0 hby rfl (by omega)) (hc 1 hby rfl (by omega)) J Jx hJ hJx hYd h0

def stepE (o : Option (Pt × Pt)) (p : Pt) : Option (Pt × Pt) :=
  match o with
  | none => some (p,p)
  | some (l,m) => some (if cmpV p.n p.d l.n l.d < 0 then p else l,if 0 < cmpV p.n p.d m.n m.d then p else m)
theorem stepE_some (l m p : Pt) : stepE (some (l,m)) p = some (if cmpV p.n p.d l.n l.d < 0 then p else l,if 0 < cmpV p.n p.d m.n m.d then p else m) := rfl
def extrE (ps : List Pt) : Option (Pt × Pt) := ps.foldl stepE none
theorem extrE_snoc (ps : List Pt) (p : Pt) : extrE (ps ++ [p]) = stepE (extrE ps) p := by simp [extrE]
theorem extrE_ne (ps : List Pt) (h : ps ≠ []) : ∃ l m,extrE ps = some (l,m) := by
  have key : ∀ (ps : List Pt) (o : Option (Pt × Pt)),(o ≠ none ∨ ps ≠ []) → ps.foldl stepE o ≠ none := by
    intro ps
    induction ps with
    | nil => intro o h; rcases h with h | h
             · exact h
             · exact absurd rfl h
    | cons p ps ih => intro o _; exact ih _ (.inl (by cases o <;> simp [stepE]))
  have h1 := key ps none (.inr h)
  unfold extrE
  cases e : ps.foldl stepE none with
  | none => exact absurd e h1
  | some lm => exact ⟨lm.1,lm.2,rfl⟩
theorem allPts_ne (xs ys : List Int) (vs : List (List Int)) (xl xh yl yh : Int) : allPts xs ys vs (stopsL xs xl xh) (stopsL ys yl yh) ≠ [] := by
  simp [allPts,stopsL,rowPts]
def vP (p : Pt) : Array Value := #[.int .i64 p.x,.int .i64 p.y,.int .i64 p.n,.int .i64 p.d]
def v0 : Array Value := #[.int .i64 0,.int .i64 0,.int .i64 0,.int .i64 0]
def lowV : Option (Pt × Pt) → Array Value
  | none => v0
  | some (l,_) => vP l
def topV : Option (Pt × Pt) → Array Value
  | none => v0
  | some (_,m) => vP m
def Ext3 (B : Nat) (cl cm : Array Value) (f : Bool) (W : World) : Prop :=
  W.heap[B]? = some (.cells cl 94) ∧ W.heap[B + 1]? = some (.cells cm 94) ∧ W.heap[B + 1 + 1]? = some (.cells #[.bool f] 4)
def ExtSt (B : Nat) (o : Option (Pt × Pt)) (W : World) : Prop := Ext3 B (lowV o) (topV o) o.isSome W
theorem extSt_own (B : Nat) {β : Type} (f : β → Option (Pt × Pt)) : Own (fun s W => ExtSt B (f s) W) := fun _ _ _ _ hs hg hr =>
  ⟨(grownBy_keeps_cells hg hr hs.1 rfl).trans hs.1,(grownBy_keeps_cells hg hr hs.2.1 rfl).trans hs.2.1,(grownBy_keeps_cells hg hr hs.2.2 rfl).trans hs.2.2⟩
theorem heap_set_same {W : World} {B : Nat} {cs : Array Value} {t : TypeId} (o : Nat) (v : Value) (h : W.heap[B]? = some (.cells cs t)) : (W.setCell ⟨B,o,none⟩ v).heap[B]? = some (.cells (cs.setIfInBounds o v) t) := by
  obtain ⟨hlt,hk⟩ := Array.getElem?_eq_some_iff.1 h
  show (W.heap.modify B _)[B]? = _
  rw [Array.getElem?_eq_getElem (by rw [Array.size_modify]; exact hlt),Array.getElem_modify_self,hk]
  rfl
theorem heap_set_other {W : World} {B k : Nat} {ob : Obj} (o : Nat) (v : Value) (hne : k ≠ B) (h : W.heap[k]? = some ob) : (W.setCell ⟨B,o,none⟩ v).heap[k]? = some ob := (Below.heap_setCell W ⟨B,o,none⟩ v k hne).trans h
def put4 (W : World) (B : Nat) (a b c d : Value) : World := (((W.setCell ⟨B,0,none⟩ a).setCell ⟨B,1,none⟩ b).setCell ⟨B,2,none⟩ c).setCell ⟨B,3,none⟩ d
theorem put4_same {W : World} {B : Nat} {x0 x1 x2 x3 : Value} {t : TypeId} (a b c d : Value) (h : W.heap[B]? = some (.cells #[x0,x1,x2,x3] t)) : (put4 W B a b c d).heap[B]? = some (.cells #[a,b,c,d] t) :=
  heap_set_same 3 d (heap_set_same 2 c (heap_set_same 1 b (heap_set_same 0 a h)))
theorem put4_other {W : World} {B k : Nat} {ob : Obj} (a b c d : Value) (hne : k ≠ B) (h : W.heap[k]? = some ob) : (put4 W B a b c d).heap[k]? = some ob :=
  heap_set_other _ _ hne (heap_set_other _ _ hne (heap_set_other _ _ hne (heap_set_other _ _ hne h)))
theorem Ext3.low {B : Nat} {x0 x1 x2 x3 : Value} {cm : Array Value} {f : Bool} {W : World} (a b c d : Value) (h : Ext3 B #[x0,x1,x2,x3] cm f W) : Ext3 B #[a,b,c,d] cm f (put4 W B a b c d) :=
  ⟨put4_same _ _ _ _ h.1,put4_other _ _ _ _ (by omega) h.2.1,put4_other _ _ _ _ (by omega) h.2.2⟩
theorem Ext3.top {B : Nat} {x0 x1 x2 x3 : Value} {cl : Array Value} {f : Bool} {W : World} (a b c d : Value) (h : Ext3 B cl #[x0,x1,x2,x3] f W) : Ext3 B cl #[a,b,c,d] f (put4 W (B + 1) a b c d) :=
  ⟨put4_other _ _ _ _ (by omega) h.1,put4_same _ _ _ _ h.2.1,put4_other _ _ _ _ (by omega) h.2.2⟩
theorem Ext3.flag {B : Nat} {cl cm : Array Value} {f : Bool} {W : World} (g : Bool) (h : Ext3 B cl cm f W) : Ext3 B cl cm g (W.setCell ⟨B + 1 + 1,0,none⟩ (.bool g)) :=
  ⟨heap_set_other _ _ (by omega) h.1,heap_set_other _ _ (by omega) h.2.1,heap_set_same 0 _ h.2.2⟩
theorem Ext3.below {B : Nat} {cl cm : Array Value} {f : Bool} {W W' : World} (h : Ext3 B cl cm f W) (hb : Below W.heap.size W W') : Ext3 B cl cm f W' :=
  have q : ∀ {k : Nat} {ob : Obj},W.heap[k]? = some ob → W'.heap[k]? = some ob := fun hk => (hb.block _ (Array.getElem?_eq_some_iff.1 hk).1).trans hk
  ⟨q h.1,q h.2.1,q h.2.2⟩
theorem keeps_below {W W' : World} (h : Below W.heap.size W W') : KeepsOthers W W' := ⟨h.size,fun k _ hk _ => (h.block k (Array.getElem?_eq_some_iff.1 hk).1).trans hk⟩
structure Rnd (B n1 n2 n₀ : Nat) (W W' : World) : Prop where
  kf : KeepsFrom B W W'
  kb : KB n1 n2 W W'
  bl : Below n₀ W W'
theorem Rnd.refl (B n1 n2 n₀ : Nat) (W : World) : Rnd B n1 n2 n₀ W W := ⟨KeepsFrom.refl _ _,KB.refl _ _ _,Below.refl _ _⟩
theorem Rnd.trans {B n1 n2 n₀ : Nat} {W W' W'' : World} (h : Rnd B n1 n2 n₀ W W') (h' : Rnd B n1 n2 n₀ W' W'') : Rnd B n1 n2 n₀ W W'' := ⟨h.kf.trans h'.kf,h.kb.trans h'.kb,h.bl.trans h'.bl⟩
theorem Rnd.below {B n1 n2 n₀ : Nat} {W W' : World} (h : Below W.heap.size W W') (hn : n₀ ≤ W.heap.size) : Rnd B n1 n2 n₀ W W' := ⟨(keeps_below h).from _,KB.of_below h,h.mono hn⟩
theorem Rnd.set {B n1 n2 n₀ : Nat} (W : World) (b o : Nat) (v : Value) (h1 : n1 ≤ b) (h2 : b < n2) (h3 : n₀ ≤ b) : Rnd B n1 n2 n₀ W (W.setCell ⟨b,o,none⟩ v) :=
  ⟨(KeepsOthers.setCell _ _ _).from _,KB.setCell _ _ _ ⟨h1,h2⟩,(Below.refl _ _).setCell h3 _⟩
theorem Rnd.put4 {B n1 n2 n₀ : Nat} (W : World) (b : Nat) (x y z u : Value) (h1 : n1 ≤ b) (h2 : b < n2) (h3 : n₀ ≤ b) : Rnd B n1 n2 n₀ W (put4 W b x y z u) :=
  (((Rnd.set W b 0 x h1 h2 h3).trans (Rnd.set _ b 1 y h1 h2 h3)).trans (Rnd.set _ b 2 z h1 h2 h3)).trans (Rnd.set _ b 3 u h1 h2 h3)
theorem heap_alloc_at (w : World) (o : Obj) (k : Nat) : (w.alloc o).heap[k]? = if k = w.heap.size then some o else w.heap[k]? := by
  show (w.heap.push o)[k]? = _
  rw [Array.getElem?_push]
theorem cells4 {W : World} {B : Nat} {t : TypeId} {a b c d : Value} (h : W.heap[B]? = some (.cells #[a,b,c,d] t)) :
    (W.cell? ⟨B,0,none⟩ = some a ∧ W.cell? ⟨B,1,none⟩ = some b ∧ W.cell? ⟨B,2,none⟩ = some c ∧ W.cell? ⟨B,3,none⟩ = some d) ∧
    (W.frozen? ⟨B,0,none⟩ = false ∧ W.frozen? ⟨B,1,none⟩ = false ∧ W.frozen? ⟨B,2,none⟩ = false ∧ W.frozen? ⟨B,3,none⟩ = false) := by
  refine ⟨⟨?_,?_,?_,?_⟩,?_,?_,?_,?_⟩
  · rw [cell_of_row W _ 0 _ _ _ h]; rfl
  · rw [cell_of_row W _ 1 _ _ _ h]; rfl
  · rw [cell_of_row W _ 2 _ _ _ h]; rfl
  · rw [cell_of_row W _ 3 _ _ _ h]; rfl
  all_goals simp [World.frozen?,h]
def ExtPost (ps : List Pt) (w : World) (e : Ending) (w' : World) : Prop := ∃ l m,extrE ps = some (l,m) ∧ e = .returned (.tuple #[.agg (vP l),.agg (vP m)]) ∧ Below w.heap.size w w'
theorem extremes_any (xs ys : List Int) (vs : List (List Int)) (X Y V : Option Addr) (cx cy cv : Nat) (xl xh yl yh : Int) (w : World)
    (hT : Tbl xs ys vs) (hx1 : xs[0]?.getD 0 ≤ xl) (hx2 : xh ≤ xs[xs.length-1]?.getD 0) (hx : xl ≤ xh) (hy1 : ys[0]?.getD 0 ≤ yl) (hy2 : yh ≤ ys[ys.length-1]?.getD 0) (hy : yl ≤ yh)
    (hR : TabR w X Y V cx cy cv xs ys vs) :
    Calls Tryz.prog 35 #[.agg #[.slice X xs.length cx,.slice Y ys.length cy,.slice V vs.length cv],.agg #[.int .i64 xl,.int .i64 xh],.agg #[.int .i64 yl,.int .i64 yh]] w
      (ExtPost (allPts xs ys vs (stopsL xs xl xh) (stopsL ys yl yh)) w) := by
  refine (callsIn_wide (n := 9)).1 ?_
  refine callsIn_of_wp_marks Tryz.func35 rfl trivial ?_ rfl
  simp only [Tryz.ntmps35,List.size_toArray,List.length_cons,List.length_nil,Nat.reduceAdd,Nat.reduceSub,Array.replicate_succ,Array.replicate_zero,List.push_toArray,List.append_toArray,List.nil_append,List.cons_append]
  gi_wp2_with fail
  refine ⟨trivial,(callsIn_wide.2 (corners_any _ _ _ _ _ _ _ _)).mono ?_⟩
  rintro e W0 ⟨rfl,hW0⟩
  simp only [World.size_alloc] at hW0 ⊢
  have hsz : W0.heap.size = w.heap.size + 9 := by rw [← hW0]; simp
  have hB0 : Below w.heap.size w W0 := by
    rw [← hW0]
    repeat (first | exact Below.refl _ _ | refine Below.alloc ?_ (by simp <;> omega) _)
  have h3 : ExtSt (w.heap.size + 1 + 1 + 1) (extrE []) W0 := by
    rw [← hW0]
    refine ⟨?_,?_,?_⟩
    · simp only [heap_alloc_at,World.size_alloc]
      repeat (first | rw [if_pos trivial] | rw [if_neg (by omega)])
      rfl
    · simp only [heap_alloc_at,World.size_alloc]
      repeat (first | rw [if_pos trivial] | rw [if_neg (by omega)])
      rfl
    · simp only [heap_alloc_at,World.size_alloc]
      repeat (first | rw [if_pos trivial] | rw [if_neg (by omega)])
      rfl
  have k0 : W0.heap[w.heap.size + 1 + 1 + 1 + 1 + 1 + 1]? = some (.cells #[.slice X xs.length cx,.slice Y ys.length cy,.slice V vs.length cv] 25) := by
    rw [← hW0]; simp only [heap_alloc_at,World.size_alloc]; repeat (first | rw [if_pos trivial] | rw [if_neg (by omega)])
  have k1 : W0.heap[w.heap.size + 1 + 1 + 1 + 1 + 1 + 1 + 1]? = some (.cells #[.int .i64 xl,.int .i64 xh] 31) := by
    rw [← hW0]; simp only [heap_alloc_at,World.size_alloc]; repeat (first | rw [if_pos trivial] | rw [if_neg (by omega)])
  have k2 : W0.heap[w.heap.size + 1 + 1 + 1 + 1 + 1 + 1 + 2]? = some (.cells #[.int .i64 yl,.int .i64 yh] 31) := by
    rw [← hW0]; simp only [heap_alloc_at,World.size_alloc]; repeat (first | rw [if_pos trivial] | rw [if_neg (by omega)])
  have hsq := corners_stops 8 (by omega) (w.heap.size + 1 + 1 + 1 + 1 + 1 + 1) (w.heap.size + 1 + 1 + 1) (w.heap.size + 1 + 1 + 1 + 1 + 1 + 1) xs ys vs X Y V cx cy cv xl xh yl yh hT hx1 hx2 hx hy1 hy2 hy w W0 hR (by omega) (by omega) (KB.of_below hB0) (by omega) k0 k1 k2
  have HSQ := Lib.hid hsq
  have H3 := Lib.hid h3
  have HSZ := Lib.hid hsz
  have HB0 := Lib.hid hB0
  clear hsq h3 hsz hB0 k0 k1 k2 hW0 hR hT hx1 hx2 hx hy1 hy2 hy
  gi_wp2_with fail
  refine wpIn_rangeFunc_ownH (F := Fence.wide) (n := 9) rfl (by omega) (gf := 88) rfl trivial (enters_of Tryz.func88 (by kernel_rfl) rfl) HSQ.out KB.trans (fun W l o o' _ h hc _ => KB.putObj o' h hc) (Below.refl _ _) (fun _ => rfl)
    (fun pre W => ExtSt (w.heap.size + 1 + 1 + 1) (extrE pre) W ∧ Below w.heap.size w W) (fun _ _ _ => False)
    (OwnFrom.and (Own.from (extSt_own _ _) _) (ownFrom_below (Nat.le_refl _) (by have := HSZ.out; omega))) (fun _ _ _ _ _ h _ _ => h) ⟨H3.out,HB0.out⟩
    (fun p a' W => ∃ Bx,w.heap.size + 1 + 1 + 1 + 1 + 1 + 1 ≤ Bx ∧ W.heap[Bx]? = some (.cells (vP p) 94) ∧ a' = { tmps := #[.agg #[.slice X xs.length cx,.slice Y ys.length cy,.slice V vs.length cv],.agg #[.int .i64 xl,.int .i64 xh],.agg #[.int .i64 yl,.int .i64 yh],
      .pointer (some ⟨w.heap.size,0,none⟩),.pointer (some ⟨w.heap.size + 1,0,none⟩),.pointer (some ⟨w.heap.size + 1 + 1,0,none⟩),.pointer (some ⟨w.heap.size + 1 + 1 + 1,0,none⟩),.pointer (some ⟨w.heap.size + 1 + 1 + 1 + 1,0,none⟩),.pointer (some ⟨w.heap.size + 1 + 1 + 1 + 1 + 1,0,none⟩),
      .pointer (some ⟨Bx,0,none⟩),.agg #[.slice X xs.length cx,.slice Y ys.length cy,.slice V vs.length cv],.agg #[.int .i64 xl,.int .i64 xh],.agg #[.int .i64 yl,.int .i64 yh],
      .func (.func 88) #[] #[.pointer (some ⟨w.heap.size + 1 + 1 + 1 + 1 + 1 + 1,0,none⟩),.pointer (some ⟨w.heap.size + 1 + 1 + 1 + 1 + 1 + 1 + 1,0,none⟩),.pointer (some ⟨w.heap.size + 1 + 1 + 1 + 1 + 1 + 1 + 2,0,none⟩)],
      .agg #[.int .i64 p.x,.int .i64 p.y,.int .i64 p.n,.int .i64 p.d],undef,undef,undef,undef,undef,undef,undef,undef,undef,undef,undef,undef,undef,undef,undef,undef,undef,undef,undef,undef,undef,undef,undef,undef],defers := [] })
    ?hAx ?assign ?body ?done ?stop
  case hAx =>
    rintro p a' _ W W' row ⟨Bx,h1,h2,h3⟩ hg hr
    exact ⟨Bx,h1,(grownBy_keeps_cells hg (fun r e => (hr r e).2) h2 rfl).trans h2,h3⟩
  case assign =>
    rintro l pre p W K ⟨hE,hB⟩ hK
    have HE := Lib.hid hE
    have HB := Lib.hid hB
    have HK := Lib.hid hK
    clear hE hB hK
    unfold encP
    gi_wp2_with fail
    have hE := HE.out
    have hB := HB.out
    refine HK.out _ _ ((KeepsOthers.alloc _ _).from _) (KB.of_below ((Below.refl _ _).alloc (Nat.le_refl _) _)) ⟨(extSt_own _ _).alloc _ hE,hB.alloc hB.size _⟩ ⟨W.heap.size,?_,World.alloc_heap_new _ _,rfl⟩
    have := (Array.getElem?_eq_some_iff.1 hE.2.2).1
    omega
  case body =>
    rintro l pre p a' W hl hrec ⟨hE,hB⟩ ⟨Bx,hBx,hbox,rfl⟩ hlen
    have HE := Lib.hid hE
    have HB := Lib.hid hB
    have HBOX := Lib.hid hbox
    have HES := Lib.hid (extrE_snoc pre p)
    clear hE hB hbox hrec hlen
    generalize extrE pre = o at *
    generalize hoe : extrE (pre ++ [p]) = o' at HES
    have HOE := Lib.hid hoe
    clear hoe
    cases o with
    | none =>
      obtain ⟨h1,h2,h3⟩ := HE.out
      have c0 : W.cell? ⟨w.heap.size + 1 + 1 + 1 + 1 + 1,0,none⟩ = some (.bool false) := by rw [cell_of_row W _ 0 _ _ _ h3]; rfl
      have f0 : W.frozen? ⟨w.heap.size + 1 + 1 + 1 + 1 + 1,0,none⟩ = false := by simp [World.frozen?,h3]
      obtain ⟨⟨b0,b1,b2,b3⟩,_⟩ := cells4 HBOX.out
      obtain ⟨⟨l0,l1,l2,l3⟩,l4,l5,l6,l7⟩ := cells4 h1
      obtain ⟨⟨m0,m1,m2,m3⟩,m4,m5,m6,m7⟩ := cells4 h2
      clear h1 h2 h3
      gi_wp2_with fail
      refine ⟨trivial,?_⟩
      gi_wp2_with fail
      refine ⟨trivial,?_⟩
      gi_wp2_with fail
      refine (fun (h : Rnd W0.heap.size (w.heap.size + 1 + 1 + 1) (w.heap.size + 1 + 1 + 1 + 1 + 1 + 1) w.heap.size W _ ∧ Ext3 (w.heap.size + 1 + 1 + 1) (vP p) (vP p) true _) => ⟨h.1.kf,h.1.kb,⟨by rw [HOE.out,HES.out]; exact h.2,HB.out.trans h.1.bl⟩⟩) ⟨?_,?_⟩
      · exact ((Rnd.put4 W _ _ _ _ _ (by omega) (by omega) (by omega)).trans (Rnd.put4 _ _ _ _ _ _ (by omega) (by omega) (by omega))).trans (Rnd.set _ _ _ _ (by omega) (by omega) (by omega))
      · exact ((Ext3.low _ _ _ _ HE.out).top _ _ _ _).flag true
    | some lm =>
      obtain ⟨lo,mo⟩ := lm
      obtain ⟨hp1,hp2,hp3,hp4⟩ := p.ok
      obtain ⟨hl1,hl2,hl3,hl4⟩ := lo.ok
      obtain ⟨hm1,hm2,hm3,hm4⟩ := mo.ok
      obtain ⟨h1,h2,h3⟩ := HE.out
      have c0 : W.cell? ⟨w.heap.size + 1 + 1 + 1 + 1 + 1,0,none⟩ = some (.bool true) := by rw [cell_of_row W _ 0 _ _ _ h3]; rfl
      obtain ⟨⟨b0,b1,b2,b3⟩,_⟩ := cells4 HBOX.out
      obtain ⟨⟨l0,l1,l2,l3⟩,_⟩ := cells4 h1
      clear h1 h2 h3
      gi_wp2_with fail
      refine ⟨trivial,?_⟩
      refine (CallsIn.inRound l (callsIn_wide.2 (compare_any p.n p.d lo.n lo.d W hp1 hp2 hl1 hl2 hp3 hp4 hl3 hl4))).mono ?_
      rintro e W1 ⟨rfl,hb1⟩
      have HE1 : Hid (Ext3 (w.heap.size + 1 + 1 + 1) (vP lo) (vP mo) true W1) := Ext3.below HE.out hb1
      have HX1 := Lib.hid ((hb1.block _ (Array.getElem?_eq_some_iff.1 HBOX.out).1).trans HBOX.out)
      have HR1 : Hid (Rnd W0.heap.size (w.heap.size + 1 + 1 + 1) (w.heap.size + 1 + 1 + 1 + 1 + 1 + 1) w.heap.size W W1) := Rnd.below hb1 HB.out.size
      clear c0 b0 b1 b2 b3 l0 l1 l2 l3 hb1
      obtain ⟨h1,h2,h3⟩ := HE1.out
      have c0 : W1.cell? ⟨w.heap.size + 1 + 1 + 1 + 1 + 1,0,none⟩ = some (.bool true) := by rw [cell_of_row W1 _ 0 _ _ _ h3]; rfl
      obtain ⟨⟨b0,b1,b2,b3⟩,_⟩ := cells4 HX1.out
      obtain ⟨⟨l0,l1,l2,l3⟩,l4,l5,l6,l7⟩ := cells4 h1
      obtain ⟨⟨m0,m1,m2,m3⟩,_⟩ := cells4 h2
      clear h1 h2 h3
      generalize hc1 : cmpV p.n p.d lo.n lo.d = c1
      have HC1 := Lib.hid hc1
      clear hc1
      by_cases g1 : c1 < 0
      · have tok : True := trivial
        gi_wp2_with fail
        refine ⟨trivial,?_⟩
        refine (CallsIn.inRound l (callsIn_wide.2 (compare_any p.n p.d mo.n mo.d (put4 W1 (w.heap.size + 1 + 1 + 1) (.int .i64 p.x) (.int .i64 p.y) (.int .i64 p.n) (.int .i64 p.d)) hp1 hp2 hm1 hm2 hp3 hp4 hm3 hm4))).mono ?_
        rintro e W3 ⟨rfl,hb3⟩
        have HE2 : Hid (Ext3 (w.heap.size + 1 + 1 + 1) (vP p) (vP mo) true (put4 W1 (w.heap.size + 1 + 1 + 1) (.int .i64 p.x) (.int .i64 p.y) (.int .i64 p.n) (.int .i64 p.d))) := Ext3.low _ _ _ _ HE1.out
        have HRm : Hid (Rnd W0.heap.size (w.heap.size + 1 + 1 + 1) (w.heap.size + 1 + 1 + 1 + 1 + 1 + 1) w.heap.size W (put4 W1 (w.heap.size + 1 + 1 + 1) (.int .i64 p.x) (.int .i64 p.y) (.int .i64 p.n) (.int .i64 p.d))) := HR1.out.trans (Rnd.put4 W1 _ _ _ _ _ (by omega) (by omega) (by omega))
        have HX2 : Hid (((put4 W1 (w.heap.size + 1 + 1 + 1) (.int .i64 p.x) (.int .i64 p.y) (.int .i64 p.n) (.int .i64 p.d))).heap[Bx]? = some (.cells (vP p) 94)) := put4_other _ _ _ _ (by omega) HX1.out
        have HE3 := Lib.hid (HE2.out.below hb3)
        have HX3 := Lib.hid ((hb3.block _ (Array.getElem?_eq_some_iff.1 HX2.out).1).trans HX2.out)
        have HR3 := Lib.hid (HRm.out.trans (Rnd.below hb3 (by have := HRm.out.bl.size; have := HB.out.size; omega)))
        obtain ⟨h1,h2,h3⟩ := HE3.out
        have c0 : W3.cell? ⟨w.heap.size + 1 + 1 + 1 + 1 + 1,0,none⟩ = some (.bool true) := by rw [cell_of_row W3 _ 0 _ _ _ h3]; rfl
        have f0 : W3.frozen? ⟨w.heap.size + 1 + 1 + 1 + 1 + 1,0,none⟩ = false := by simp [World.frozen?,h3]
        obtain ⟨⟨b0,b1,b2,b3⟩,_⟩ := cells4 HX3.out
        obtain ⟨⟨m0,m1,m2,m3⟩,m4,m5,m6,m7⟩ := cells4 h2
        clear h1 h2 h3 hb3
        generalize hc2 : cmpV p.n p.d mo.n mo.d = c2
        have HC2 := Lib.hid hc2
        clear hc2
        by_cases g2 : 0 < c2
        · gi_wp2_with fail
          refine (fun (h : Rnd W0.heap.size (w.heap.size + 1 + 1 + 1) (w.heap.size + 1 + 1 + 1 + 1 + 1 + 1) w.heap.size W _ ∧ Ext3 (w.heap.size + 1 + 1 + 1) (vP p) (vP p) true _) => ⟨h.1.kf,h.1.kb,⟨by rw [HOE.out,HES.out,stepE_some,HC1.out,HC2.out,if_pos g1,if_pos g2]; exact h.2,HB.out.trans h.1.bl⟩⟩) ⟨?_,?_⟩
          · exact (HR3.out.trans (Rnd.put4 _ _ _ _ _ _ (by omega) (by omega) (by omega))).trans (Rnd.set _ _ _ _ (by omega) (by omega) (by omega))
          · exact (Ext3.top _ _ _ _ HE3.out).flag true
        · gi_wp2_with fail
          refine (fun (h : Rnd W0.heap.size (w.heap.size + 1 + 1 + 1) (w.heap.size + 1 + 1 + 1 + 1 + 1 + 1) w.heap.size W _ ∧ Ext3 (w.heap.size + 1 + 1 + 1) (vP p) (vP mo) true _) => ⟨h.1.kf,h.1.kb,⟨by rw [HOE.out,HES.out,stepE_some,HC1.out,HC2.out,if_pos g1,if_neg (by omega)]; exact h.2,HB.out.trans h.1.bl⟩⟩) ⟨?_,?_⟩
          · exact HR3.out.trans (Rnd.set _ _ _ _ (by omega) (by omega) (by omega))
          · exact HE3.out.flag true
      · have tok : True := trivial
        gi_wp2_with fail
        refine ⟨trivial,?_⟩
        refine (CallsIn.inRound l (callsIn_wide.2 (compare_any p.n p.d mo.n mo.d W1 hp1 hp2 hm1 hm2 hp3 hp4 hm3 hm4))).mono ?_
        rintro e W3 ⟨rfl,hb3⟩
        have HE2 := HE1
        have HRm := HR1
        have HX2 := HX1
        have HE3 := Lib.hid (HE2.out.below hb3)
        have HX3 := Lib.hid ((hb3.block _ (Array.getElem?_eq_some_iff.1 HX2.out).1).trans HX2.out)
        have HR3 := Lib.hid (HRm.out.trans (Rnd.below hb3 (by have := HRm.out.bl.size; have := HB.out.size; omega)))
        obtain ⟨h1,h2,h3⟩ := HE3.out
        have c0 : W3.cell? ⟨w.heap.size + 1 + 1 + 1 + 1 + 1,0,none⟩ = some (.bool true) := by rw [cell_of_row W3 _ 0 _ _ _ h3]; rfl
        have f0 : W3.frozen? ⟨w.heap.size + 1 + 1 + 1 + 1 + 1,0,none⟩ = false := by simp [World.frozen?,h3]
        obtain ⟨⟨b0,b1,b2,b3⟩,_⟩ := cells4 HX3.out
        obtain ⟨⟨m0,m1,m2,m3⟩,m4,m5,m6,m7⟩ := cells4 h2
        clear h1 h2 h3 hb3
        generalize hc2 : cmpV p.n p.d mo.n mo.d = c2
        have HC2 := Lib.hid hc2
        clear hc2
        by_cases g2 : 0 < c2
        · gi_wp2_with fail
          refine (fun (h : Rnd W0.heap.size (w.heap.size + 1 + 1 + 1) (w.heap.size + 1 + 1 + 1 + 1 + 1 + 1) w.heap.size W _ ∧ Ext3 (w.heap.size + 1 + 1 + 1) (vP lo) (vP p) true _) => ⟨h.1.kf,h.1.kb,⟨by rw [HOE.out,HES.out,stepE_some,HC1.out,HC2.out,if_neg (by omega),if_pos g2]; exact h.2,HB.out.trans h.1.bl⟩⟩) ⟨?_,?_⟩
          · exact (HR3.out.trans (Rnd.put4 _ _ _ _ _ _ (by omega) (by omega) (by omega))).trans (Rnd.set _ _ _ _ (by omega) (by omega) (by omega))
          · exact (Ext3.top _ _ _ _ HE3.out).flag true
        · gi_wp2_with fail
          refine (fun (h : Rnd W0.heap.size (w.heap.size + 1 + 1 + 1) (w.heap.size + 1 + 1 + 1 + 1 + 1 + 1) w.heap.size W _ ∧ Ext3 (w.heap.size + 1 + 1 + 1) (vP lo) (vP mo) true _) => ⟨h.1.kf,h.1.kb,⟨by rw [HOE.out,HES.out,stepE_some,HC1.out,HC2.out,if_neg (by omega),if_neg (by omega)]; exact h.2,HB.out.trans h.1.bl⟩⟩) ⟨?_,?_⟩
          · exact HR3.out.trans (Rnd.set _ _ _ _ (by omega) (by omega) (by omega))
          · exact HE3.out.flag true
  case done =>
    rintro D ps W hD rfl ⟨hE,hB⟩ hK
    obtain ⟨lo,mo,hlm⟩ := extrE_ne _ (allPts_ne xs ys vs xl xh yl yh)
    rw [hlm] at hE
    have HLM := Lib.hid hlm
    have HB := Lib.hid hB
    have HK := Lib.hid hK
    obtain ⟨h1,h2,h3⟩ := hE
    obtain ⟨⟨l0,l1,l2,l3⟩,l4,l5,l6,l7⟩ := cells4 h1
    obtain ⟨⟨m0,m1,m2,m3⟩,m4,m5,m6,m7⟩ := cells4 h2
    have H1 := Lib.hid h1
    have H2 := Lib.hid h2
    clear h1 h2 h3 hB hK hlm
    gi_wp2_with fail
    gi_region
    gi_wp2_with fail
    have hDs := HSZ.out
    obtain ⟨Wf,hWf⟩ : ∃ Wf,(put4 (put4 W (w.heap.size + 1 + 1 + 1) (.int .i64 lo.x) (.int .i64 lo.y) (.int .i64 lo.n) (.int .i64 lo.d)) (w.heap.size + 1 + 1 + 1 + 1) (.int .i64 mo.x) (.int .i64 mo.y) (.int .i64 mo.n) (.int .i64 mo.d)) = Wf := ⟨_,rfl⟩
    have hK2 : Wf.heap[D]? = some (.deferred (some [])) := by rw [← hWf]; exact put4_other _ _ _ _ (by omega) (put4_other _ _ _ _ (by omega) HK.out)
    have q1 : Wf.heap[w.heap.size + 1 + 1 + 1]? = some (.cells (vP lo) 94) := by rw [← hWf]; exact put4_other _ _ _ _ (by omega) (put4_same _ _ _ _ H1.out)
    have q2 : Wf.heap[w.heap.size + 1 + 1 + 1 + 1]? = some (.cells (vP mo) 94) := by rw [← hWf]; exact put4_same _ _ _ _ (put4_other _ _ _ _ (by omega) H2.out)
    have hBf : Below w.heap.size w Wf := by
      rw [← hWf]
      exact (HB.out.trans (Rnd.put4 (B := 0) (n1 := 0) (n2 := w.heap.size + 9) W _ _ _ _ _ (by omega) (by omega) (by omega)).bl).trans (Rnd.put4 (B := 0) (n1 := 0) (n2 := w.heap.size + 9) _ _ _ _ _ _ (by omega) (by omega) (by omega)).bl
    unfold put4 at hWf
    rw [hWf]
    clear hWf l0 l1 l2 l3 l4 l5 l6 l7 m0 m1 m2 m3 m4 m5 m6 m7
    have r1 : (Wf.drew.putObj D (.deferred none)).heap[w.heap.size + 1 + 1 + 1]? = some (.cells (vP lo) 94) := (World.putObj_heap_other (by omega)).trans q1
    have r2 : (Wf.drew.putObj D (.deferred none)).heap[w.heap.size + 1 + 1 + 1 + 1]? = some (.cells (vP mo) 94) := (World.putObj_heap_other (by omega)).trans q2
    have hBg : Below w.heap.size w (Wf.drew.putObj D (.deferred none)) := hBf.drew.trans (belowK_b (w := w) (Nat.le_refl _) Wf.drew D _ _ (by omega) hK2 rfl rfl)
    refine ⟨by simp,.inl ⟨_,_,rfl,run_takeDeferred (w := Wf.drew) hK2,?_⟩⟩
    generalize Wf.drew.putObj D (.deferred none) = Wg at *
    obtain ⟨⟨l0,l1,l2,l3⟩,_⟩ := cells4 r1
    obtain ⟨⟨m0,m1,m2,m3⟩,_⟩ := cells4 r2
    refine ⟨.tuple #[.agg (vP lo),.agg (vP mo)],?_,⟨lo,mo,HLM.out,rfl,hBg⟩⟩
    simp [results,Tryz.results35,go_sem,vP,l0,l1,l2,l3,m0,m1,m2,m3]
  case stop =>
    rintro D c pre W _ _ h _
    exact h.elim
end Go.Proofs.YtbncpngjclabhaaGreat
/- The contracts of spans.lies and spans.checkPoints. -/
namespace Go.Proofs.YtbncpngjclabhaaGreat
open Go.RowKit

def liesB (l : List Int) (x : Int × Int) : Bool := decide (l[0]?.getD 0 ≤ x.1) && decide (x.2 ≤ l[l.length - 1]?.getD 0)
theorem lies_any (A : Option Addr) (l : List Int) (c : Nat) (lo hi : Int) (w : World) (h1 : 1 ≤ l.length) (hl : l.length ≤ 1000000) (hA : Ints w A l) :
    Calls Tryz.prog 62 #[.slice A l.length c,.agg #[.int .i64 lo,.int .i64 hi]] w fun e w' => e = .returned (.bool (liesB l (lo,hi))) ∧ Below w.heap.size w w' := by
  obtain ⟨b,off,rfl,hbl,hc⟩ := hA (by omega)
  have c0 := hc 0 (by omega)
  have c1 := hc (l.length - 1) (by omega)
  simp only [Nat.add_zero] at c0
  have hR : liesB l (lo,hi) = (decide (l[0]?.getD 0 ≤ lo) && decide (hi ≤ l[l.length - 1]?.getD 0)) := rfl
  generalize l[0]?.getD 0 = a at *
  generalize l[l.length - 1]?.getD 0 = z at *
  have t1 : ((l.length : Int) - 1).toNat = l.length - 1 := by omega
  have t2 : (0 : Int) ≤ (l.length : Int) - 1 := by omega
  have t3 : (l.length : Int) - 1 < (l.length : Int) := by omega
  have t4 : (0 : Int) < (l.length : Int) := by omega
  have u1 : IntKind.i64.wrap ((l.length : Int) - 1) = (l.length : Int) - 1 := IntWalk.i64_in _ (by omega)
  have HR := Lib.hid hR
  have hB : ∀ (o : Obj) (n : Nat),Below w.heap.size w ((w.alloc o).drewN n) := fun o n => Below.drewN' ((Below.refl _ w).alloc (Nat.le_refl _) _) n
  have HB := Lib.hid hB
  clear hR hc hA hB
  by_cases g1 : a ≤ lo
  · have g1' : decide (a ≤ lo) = true := by simpa using g1
    by_cases g2 : hi ≤ z
    · have g2' : decide (hi ≤ z) = true := by simpa using g2
      go_enter Tryz.func62,Tryz.ntmps62
      go_wp2_with fail
      go_quiet (fail)
      go_wp2_with fail
      go_ret
      exact ⟨by rw [HR.out,g1',g2']; rfl,HB.out _ _⟩
    · have g2' : decide (hi ≤ z) = false := by simpa using g2
      go_enter Tryz.func62,Tryz.ntmps62
      go_wp2_with fail
      go_quiet (fail)
      go_wp2_with fail
      go_ret
      exact ⟨by rw [HR.out,g1',g2']; rfl,HB.out _ _⟩
  · have g1' : decide (a ≤ lo) = false := by simpa using g1
    go_enter Tryz.func62,Tryz.ntmps62
    go_wp2_with fail
    go_quiet (fail)
    go_wp2_with fail
    go_ret
    exact ⟨by rw [HR.out,g1']; rfl,HB.out _ _⟩

structure TSz (xs ys : List Int) (vs : List (List Int)) : Prop where
  x : xs.length ≤ 4611686018427387904
  y : ys.length ≤ 4611686018427387904
  v : vs.length ≤ 4611686018427387904
  r : RowsLe vs
theorem checkTableR (xs ys : List Int) (vs : List (List Int)) (X Y V : Option Addr) (cx cy cv : Nat) (w : World) (hS : TSz xs ys vs) (hR : TabR w X Y V cx cy cv xs ys vs) :
   Calls Tryz.prog 60 #[.agg #[.slice X xs.length cx,.slice Y ys.length cy,.slice V vs.length cv]] w fun e w' => e = .returned (.int .i64 (tabErr xs ys vs)) ∧ Below w.heap.size w w' :=
  checkTable_any xs ys vs X Y V cx cy cv w hS.x hS.y hS.v hS.r hR.hX hR.hY hR.hV
theorem sps_new2 (w : World) (a b c d : Int) (t : TypeId) (B : Nat) (hB : B = w.heap.size) : Sps (w.alloc (.cells #[.int .i64 a,.int .i64 b,.int .i64 c,.int .i64 d] t)) (some ⟨B,0,none⟩) [(a,b),(c,d)] := fun _ => by
  subst hB
  refine ⟨_,0,rfl,by simp,fun k hk => ?_⟩
  match k,hk with
  | 0,_ => simp
  | 1,_ => simp
def w3 (w : World) (t1 t2 t3 x1 x2 y1 y2 : Value) : World := ((w.alloc (.cells #[t1,t2,t3] 25)).alloc (.cells #[x1,x2] 31)).alloc (.cells #[y1,y2] 31)
theorem boxes3 {w w1 : World} {t1 t2 t3 x1 x2 y1 y2 : Value} {N : Nat} (hb : Below N (w3 w t1 t2 t3 x1 x2 y1 y2) w1) (hN : w.heap.size + 3 ≤ N) :
    (w1.cell? ⟨w.heap.size,0,none⟩ = some t1 ∧ w1.cell? ⟨w.heap.size,1,none⟩ = some t2 ∧ w1.cell? ⟨w.heap.size,2,none⟩ = some t3) ∧
    (w1.cell? ⟨w.heap.size + 1,0,none⟩ = some x1 ∧ w1.cell? ⟨w.heap.size + 1,1,none⟩ = some x2) ∧ (w1.cell? ⟨w.heap.size + 1 + 1,0,none⟩ = some y1 ∧ w1.cell? ⟨w.heap.size + 1 + 1,1,none⟩ = some y2) ∧ w.heap.size + 1 + 1 + 1 ≤ w1.heap.size := by
  have hs := hb.size
  have h0 : w1.heap[w.heap.size]? = some (.cells #[t1,t2,t3] 25) := (hb.block _ (by omega)).trans (by
    simp only [w3,heap_alloc_at,World.size_alloc]; repeat (first | rw [if_pos trivial] | rw [if_neg (by omega)]))
  have h1 : w1.heap[w.heap.size + 1]? = some (.cells #[x1,x2] 31) := (hb.block _ (by omega)).trans (by
    simp only [w3,heap_alloc_at,World.size_alloc]; repeat (first | rw [if_pos trivial] | rw [if_neg (by omega)]))
  have h2 : w1.heap[w.heap.size + 1 + 1]? = some (.cells #[y1,y2] 31) := (hb.block _ (by omega)).trans (by
    simp only [w3,heap_alloc_at,World.size_alloc]; repeat (first | rw [if_pos trivial] | rw [if_neg (by omega)]))
  refine ⟨⟨?_,?_,?_⟩,⟨?_,?_⟩,⟨?_,?_⟩,by simpa [w3] using hs⟩
  · rw [cell_of_row w1 _ 0 _ _ _ h0]; rfl
  · rw [cell_of_row w1 _ 1 _ _ _ h0]; rfl
  · rw [cell_of_row w1 _ 2 _ _ _ h0]; rfl
  · rw [cell_of_row w1 _ 0 _ _ _ h1]; rfl
  · rw [cell_of_row w1 _ 1 _ _ _ h1]; rfl
  · rw [cell_of_row w1 _ 0 _ _ _ h2]; rfl
  · rw [cell_of_row w1 _ 1 _ _ _ h2]; rfl
theorem w3_below (w : World) (t1 t2 t3 x1 x2 y1 y2 : Value) : Below w.heap.size w (w3 w t1 t2 t3 x1 x2 y1 y2) := (((Below.refl _ w).alloc (Nat.le_refl _) _).alloc (by simp) _).alloc (by simp; omega) _
theorem w3_size (w : World) (t1 t2 t3 x1 x2 y1 y2 : Value) : (w3 w t1 t2 t3 x1 x2 y1 y2).heap.size = w.heap.size + 3 := by simp [w3]
theorem w3_le {w : World} {t1 t2 t3 x1 x2 y1 y2 : Value} : w.heap.size ≤ (w3 w t1 t2 t3 x1 x2 y1 y2).heap.size := by rw [w3_size]; omega
theorem w3_le3 {w : World} {t1 t2 t3 x1 x2 y1 y2 : Value} : w.heap.size + 3 ≤ (w3 w t1 t2 t3 x1 x2 y1 y2).heap.size := by rw [w3_size]; omega
def cpErr (xs ys : List Int) (vs : List (List Int)) (x y : Int × Int) : Int :=
  if tabB xs ys vs then (if spErr [x,y] != 0 then spErr [x,y] else if liesB xs x && liesB ys y then 0 else 1) else 11
theorem checkPoints_any (xs ys : List Int) (vs : List (List Int)) (X Y V : Option Addr) (cx cy cv : Nat) (x y : Int × Int) (w : World) (hS : TSz xs ys vs) (hR : TabR w X Y V cx cy cv xs ys vs) :
   Calls Tryz.prog 34 #[.agg #[.slice X xs.length cx,.slice Y ys.length cy,.slice V vs.length cv],.agg #[.int .i64 x.1,.int .i64 x.2],.agg #[.int .i64 y.1,.int .i64 y.2]] w fun e w' => e = .returned (.int .i64 (cpErr xs ys vs x y)) ∧ Below w.heap.size w w' := by
  obtain ⟨xl,xh⟩ := x
  obtain ⟨yl,yh⟩ := y
  have HRR := Lib.hid hR
  have HS := Lib.hid hS
  have HB0 := Lib.hid (w3_below w (.slice X xs.length cx) (.slice Y ys.length cy) (.slice V vs.length cv) (.int .i64 xl) (.int .i64 xh) (.int .i64 yl) (.int .i64 yh))
  clear hR hS
  show Calls Tryz.prog 34 #[.agg #[.slice X xs.length cx,.slice Y ys.length cy,.slice V vs.length cv],.agg #[.int .i64 xl,.int .i64 xh],.agg #[.int .i64 yl,.int .i64 yh]] w _
  by_cases ht : tabB xs ys vs = true
  · have HT := Lib.hid ht
    have HTe : Hid (tabErr xs ys vs = 0) := by unfold Hid tabErr; rw [if_pos ht]
    have hC : cpErr xs ys vs (xl,xh) (yl,yh) = if spErr [(xl,xh),(yl,yh)] != 0 then spErr [(xl,xh),(yl,yh)] else if liesB xs (xl,xh) && liesB ys (yl,yh) then 0 else 1 := by unfold cpErr; rw [if_pos ht]
    have HC := Lib.hid hC
    have hx2 := (tbl_of ht).ax.two
    have hx12 := (tbl_of ht).ax.twelve
    have hy2 := (tbl_of ht).ay.two
    have hy12 := (tbl_of ht).ay.twelve
    clear ht hC
    go_enter Tryz.func34,Tryz.ntmps34
    go_wp2_with fail
    refine (checkTableR xs ys vs X Y V cx cy cv _ HS.out (HRR.out.below HB0.out)).mono ?_
    rintro e w1 ⟨rfl,hb1⟩
    rw [HTe.out]
    have HB1 := Lib.hid hb1
    obtain ⟨⟨a1,a2,a3⟩,⟨a4,a5⟩,⟨a6,a7⟩,hz⟩ := boxes3 (N := w.heap.size + 3) (hb1.mono w3_le3) (by omega)
    clear hb1
    go_wp2_with fail
    refine (spanned_any _ [(xl,xh),(yl,yh)] 2 _ (by simp) (sps_new2 _ _ _ _ _ _ _ rfl)).mono ?_
    rintro e w2 ⟨rfl,hb2⟩
    have hb3 : Below w1.heap.size w1 w2 := ((Below.refl _ w1).alloc (Nat.le_refl _) _).trans (hb2.mono (by simp))
    have HB2 := Lib.hid (HB1.out.trans (hb3.mono HB1.out.size))
    clear a1 a2 a3 a4 a5 a6 a7 hz hb2 hb3
    obtain ⟨⟨a1,a2,a3⟩,⟨a4,a5⟩,⟨a6,a7⟩,hz⟩ := boxes3 (N := w.heap.size + 3) (HB2.out.mono w3_le3) (by omega)
    by_cases hs : (spErr [(xl,xh),(yl,yh)] != 0) = true
    · have R : Hid (cpErr xs ys vs (xl,xh) (yl,yh) = spErr [(xl,xh),(yl,yh)]) := by unfold Hid; rw [HC.out,if_pos hs]
      generalize spErr [(xl,xh),(yl,yh)] = sp at *
      go_wp2_with fail
      go_ret
      exact ⟨by rw [R.out]; rfl,HB0.out.trans (HB2.out.mono w3_le)⟩
    · have hs0 : (spErr [(xl,xh),(yl,yh)] != 0) = false := by simpa using hs
      have R : Hid (cpErr xs ys vs (xl,xh) (yl,yh) = if liesB xs (xl,xh) && liesB ys (yl,yh) then 0 else 1) := by unfold Hid; rw [HC.out,if_neg hs]
      have hs1 : spErr [(xl,xh),(yl,yh)] = 0 := by simpa using hs0
      rw [hs1]
      clear hs hs0 hs1 HC
      go_wp2_with fail
      refine (lies_any X xs cx xl xh _ (by omega) (by omega) ((HRR.out.hX.below HB0.out).below HB2.out)).mono ?_
      rintro e w4 ⟨rfl,hb3⟩
      have HB4 := Lib.hid (HB2.out.trans (hb3.mono HB2.out.size))
      clear a1 a2 a3 a4 a5 a6 a7 hz hb3
      obtain ⟨⟨a1,a2,a3⟩,⟨a4,a5⟩,⟨a6,a7⟩,hz⟩ := boxes3 (N := w.heap.size + 3) (HB4.out.mono w3_le3) (by omega)
      by_cases h1 : liesB xs (xl,xh) = true
      · rw [h1]
        have H1 := Lib.hid h1
        clear h1
        go_wp2_with fail
        refine (lies_any Y ys cy yl yh _ (by omega) (by omega) ((HRR.out.hY.below HB0.out).below HB4.out)).mono ?_
        rintro e w5 ⟨rfl,hb4⟩
        have HB5 := Lib.hid (HB4.out.trans (hb4.mono HB4.out.size))
        clear hb4
        by_cases h2 : liesB ys (yl,yh) = true
        · rw [h2]
          have H2 := Lib.hid h2
          clear h2
          go_wp2_with fail
          go_ret
          exact ⟨by rw [R.out,H1.out,H2.out]; rfl,HB0.out.trans (HB5.out.mono w3_le)⟩
        · have h2' : liesB ys (yl,yh) = false := by simpa using h2
          rw [h2']
          have H2 := Lib.hid h2'
          clear h2 h2'
          go_wp2_with fail
          go_ret
          exact ⟨by rw [R.out,H1.out,H2.out]; rfl,HB0.out.trans (HB5.out.mono w3_le)⟩
      · have h1' : liesB xs (xl,xh) = false := by simpa using h1
        rw [h1']
        have H1 := Lib.hid h1'
        clear h1 h1'
        go_wp2_with fail
        go_ret
        exact ⟨by rw [R.out,H1.out]; rfl,HB0.out.trans (HB4.out.mono w3_le)⟩
  · have ht' : tabB xs ys vs = false := by simpa using ht
    have HTe : Hid (tabErr xs ys vs = 11) := by unfold Hid tabErr; rw [if_neg ht]
    have HC : Hid (cpErr xs ys vs (xl,xh) (yl,yh) = 11) := by unfold Hid cpErr; rw [if_neg ht]
    clear ht ht'
    go_enter Tryz.func34,Tryz.ntmps34
    go_wp2_with fail
    refine (checkTableR xs ys vs X Y V cx cy cv _ HS.out (HRR.out.below HB0.out)).mono ?_
    rintro e w1 ⟨rfl,hb1⟩
    rw [HTe.out]
    have HB1 := Lib.hid (HB0.out.trans (hb1.mono w3_le))
    clear hb1
    go_wp2_with fail
    go_ret
    exact ⟨by rw [HC.out]; rfl,HB1.out⟩
end Go.Proofs.YtbncpngjclabhaaGreat
/- Arguments of plain make, opened: aggregates of ints; tables. -/
namespace Go.Proofs.YtbncpngjclabhaaGreat
open Go.ChangeShapes Go.WideShapes Go.ChangeAt Go.RowKit Go.Joins Go.Deep

theorem Tryz.own : ownKnob Tryz.prog.godebug = none := by kernel_rfl
theorem Tryz.laidOut : laidOutB Tryz.prog = true := by kernel_rfl
section
variable {P : Program}
end
section
variable {H : Type} {enc : TypeId × Value → H} {P : Program} {w : World} {r : Reach} {b0 base : Nat} {spare : Nat → Bool} {held : Bool} {v : Value} {d : DataW H} {ps : List MemPlace}
theorem agg_struct {t : TypeId} {fs : Array Field} (ht : P.underlying t = some (.struct fs)) (hv : Value.okWide P w r b0 t v) : ∃ cs,v = .agg cs := by
  obtain ⟨cs,h,_⟩ := okWide_struct ht hv
  exact ⟨cs,h⟩
end
structure TSm (xs ys : List Int) (vs : List (List Int)) : Prop where
  x : xs.length ≤ maxLen
  y : ys.length ≤ maxLen
  v : vs.length ≤ maxLen
  r : ∀ r ∈ vs,r.length ≤ maxLen
end Go.Proofs.YtbncpngjclabhaaGreat
/- The contracts of spans.Bound and spans.Worst. -/
namespace Go.Proofs.YtbncpngjclabhaaGreat
open Go.RowKit

def pts (xs ys : List Int) (vs : List (List Int)) (x y : Int × Int) : List Pt := allPts xs ys vs (stopsL xs x.1 x.2) (stopsL ys y.1 y.2)
def bnd (xs ys : List Int) (vs : List (List Int)) (x y : Int × Int) : Int × Int :=
  match extrE (pts xs ys vs x y) with
  | some (l,m) => (l.n / l.d, -(-m.n / m.d))
  | none => (0,0)
def wst (xs ys : List Int) (vs : List (List Int)) (x y : Int × Int) : Int × Int :=
  match extrE (pts xs ys vs x y) with
  | some (_,m) => (m.x,m.y)
  | none => (0,0)
theorem bnd_eq {xs ys : List Int} {vs : List (List Int)} {x y : Int × Int} {l m : Pt} (h : extrE (pts xs ys vs x y) = some (l,m)) : bnd xs ys vs x y = (l.n / l.d, -(-m.n / m.d)) := by unfold bnd; rw [h]
theorem vB_iff {x : Int × Int} : vB x = true ↔ -1000000 ≤ x.1 ∧ x.1 ≤ x.2 ∧ x.2 ≤ 1000000 := by simp [vB,wB,and_assoc]
structure OnT (xs ys : List Int) (vs : List (List Int)) (x y : Int × Int) : Prop where
  t : Tbl xs ys vs
  x1 : xs[0]?.getD 0 ≤ x.1
  x2 : x.2 ≤ xs[xs.length-1]?.getD 0
  x3 : x.1 ≤ x.2
  y1 : ys[0]?.getD 0 ≤ y.1
  y2 : y.2 ≤ ys[ys.length-1]?.getD 0
  y3 : y.1 ≤ y.2
theorem liesB_iff {l : List Int} {x : Int × Int} : liesB l x = true ↔ l[0]?.getD 0 ≤ x.1 ∧ x.2 ≤ l[l.length - 1]?.getD 0 := by simp [liesB]
theorem cp_zero {xs ys : List Int} {vs : List (List Int)} {x y : Int × Int} (h : cpErr xs ys vs x y = 0) : OnT xs ys vs x y := by
  unfold cpErr at h
  by_cases ht : tabB xs ys vs = true
  · rw [if_pos ht] at h
    by_cases hs : (spErr [x,y] != 0) = true
    · rw [if_pos hs] at h
      simp at hs
      exact absurd h hs
    · rw [if_neg hs] at h
      by_cases hl : (liesB xs x && liesB ys y) = true
      · simp only [Bool.and_eq_true] at hl
        have h1 := liesB_iff.1 hl.1
        have h2 := liesB_iff.1 hl.2
        have hs' : spErr [x,y] = 0 := by simpa using hs
        unfold spErr at hs'
        by_cases ha : [x,y].any (fun x => !vB x) = true
        · rw [if_pos ha] at hs'; omega
        · have ha' : [x,y].any (fun x => !vB x) = false := by simpa using ha
          simp at ha'
          have v1 := vB_iff.1 ha'.1
          have v2 := vB_iff.1 ha'.2
          exact ⟨tbl_of ht,h1.1,h1.2,v1.2.1,h2.1,h2.2,v2.2.1⟩
      · rw [if_neg hl] at h; omega
  · rw [if_neg ht] at h; omega
theorem extremesR {xs ys : List Int} {vs : List (List Int)} {x y : Int × Int} {X Y V : Option Addr} {cx cy cv : Nat} {w : World} (h : OnT xs ys vs x y) (hR : TabR w X Y V cx cy cv xs ys vs) :
    Calls Tryz.prog 35 #[.agg #[.slice X xs.length cx,.slice Y ys.length cy,.slice V vs.length cv],.agg #[.int .i64 x.1,.int .i64 x.2],.agg #[.int .i64 y.1,.int .i64 y.2]] w (ExtPost (pts xs ys vs x y) w) :=
  extremes_any xs ys vs X Y V cx cy cv x.1 x.2 y.1 y.2 w h.t h.x1 h.x2 h.x3 h.y1 h.y2 h.y3 hR
def boundR (xs ys : List Int) (vs : List (List Int)) (x y : Int × Int) : (Int × Int) × Int := if cpErr xs ys vs x y != 0 then ((0,0),cpErr xs ys vs x y) else (bnd xs ys vs x y,0)
theorem bound_any (xs ys : List Int) (vs : List (List Int)) (X Y V : Option Addr) (cx cy cv : Nat) (x y : Int × Int) (w : World) (hS : TSz xs ys vs) (hR : TabR w X Y V cx cy cv xs ys vs) :
   Calls Tryz.prog 15 #[.agg #[.slice X xs.length cx,.slice Y ys.length cy,.slice V vs.length cv],.agg #[.int .i64 x.1,.int .i64 x.2],.agg #[.int .i64 y.1,.int .i64 y.2]] w fun e w' =>
     e = .returned (.tuple #[.agg #[.int .i64 (boundR xs ys vs x y).1.1,.int .i64 (boundR xs ys vs x y).1.2],.int .i64 (boundR xs ys vs x y).2]) ∧ Below w.heap.size w w' := by
  obtain ⟨xl,xh⟩ := x
  obtain ⟨yl,yh⟩ := y
  show Calls Tryz.prog 15 #[.agg #[.slice X xs.length cx,.slice Y ys.length cy,.slice V vs.length cv],.agg #[.int .i64 xl,.int .i64 xh],.agg #[.int .i64 yl,.int .i64 yh]] w _
  have HRR := Lib.hid hR
  have HS := Lib.hid hS
  obtain ⟨W,hW⟩ : ∃ W,(w3 w (.slice X xs.length cx) (.slice Y ys.length cy) (.slice V vs.length cv) (.int .i64 xl) (.int .i64 xh) (.int .i64 yl) (.int .i64 yh)).alloc (.cells #[.int .i64 0,.int .i64 0] 31) = W := ⟨_,rfl⟩
  have hWz : W.heap.size = w.heap.size + 4 := by rw [← hW]; simp [w3]
  have hWb : Below w.heap.size w W := by rw [← hW]; exact (w3_below w _ _ _ _ _ _ _).alloc w3_le _
  have hW3 : Below (w.heap.size + 3) (w3 w (.slice X xs.length cx) (.slice Y ys.length cy) (.slice V vs.length cv) (.int .i64 xl) (.int .i64 xh) (.int .i64 yl) (.int .i64 yh)) W := by rw [← hW]; exact (Below.refl _ _).alloc w3_le3 _
  have hWc : W.heap[w.heap.size + 1 + 1 + 1]? = some (.cells #[.int .i64 0,.int .i64 0] 31) := by rw [← hW,heap_alloc_at,w3_size,if_pos (by omega)]
  have HWz := Lib.hid hWz
  have HWb := Lib.hid hWb
  have HW3 := Lib.hid hW3
  have HWc := Lib.hid hWc
  have HW := Lib.hid hW
  clear hR hS hWz hWb hW3 hWc hW
  go_enter Tryz.func15,Tryz.ntmps15
  go_wp2_with fail
  have hW := HW.out
  unfold w3 at hW
  rw [hW]
  clear hW
  refine (checkPoints_any xs ys vs X Y V cx cy cv (xl,xh) (yl,yh) W HS.out (HRR.out.below HWb.out)).mono ?_
  rintro e w1 ⟨rfl,hb1⟩
  have hz1 := HWz.out
  obtain ⟨⟨a1,a2,a3⟩,⟨a4,a5⟩,⟨a6,a7⟩,hz⟩ := boxes3 (N := w.heap.size + 3) (HW3.out.trans (hb1.mono (by omega))) (by omega)
  have hc := (hb1.block (w.heap.size + 1 + 1 + 1) (by omega)).trans HWc.out
  have r0 : w1.cell? ⟨w.heap.size + 1 + 1 + 1,0,none⟩ = some (.int .i64 0) := by rw [cell_of_row w1 _ 0 _ _ _ hc]; rfl
  have r1 : w1.cell? ⟨w.heap.size + 1 + 1 + 1,1,none⟩ = some (.int .i64 0) := by rw [cell_of_row w1 _ 1 _ _ _ hc]; rfl
  have f0 : w1.frozen? ⟨w.heap.size + 1 + 1 + 1,0,none⟩ = false := by simp [World.frozen?,hc]
  have f1 : w1.frozen? ⟨w.heap.size + 1 + 1 + 1,1,none⟩ = false := by simp [World.frozen?,hc]
  have HB1 := Lib.hid hb1
  have HC1 := Lib.hid hc
  have hz4 : w.heap.size + 1 + 1 + 1 < w1.heap.size := by have := hb1.size; omega
  clear hz1 hc hb1
  by_cases he : (cpErr xs ys vs (xl,xh) (yl,yh) != 0) = true
  · have R : Hid (boundR xs ys vs (xl,xh) (yl,yh) = ((0,0),cpErr xs ys vs (xl,xh) (yl,yh))) := by unfold Hid boundR; rw [if_pos he]
    generalize cpErr xs ys vs (xl,xh) (yl,yh) = ce at *
    go_wp2_with fail
    refine bodyPost_ret (v := .tuple #[.agg #[.int .i64 0,.int .i64 0],.int .i64 ce]) (by simp [results,Tryz.results15,go_sem,r0,r1]) rfl ⟨by rw [R.out],?_⟩
    exact ((HWb.out.trans (HB1.out.mono HWb.out.size)).setCell (p := ⟨w.heap.size + 1 + 1 + 1,0,none⟩) (by show _ ≤ _ + 1 + 1 + 1; omega) _).setCell (p := ⟨w.heap.size + 1 + 1 + 1,1,none⟩) (by show _ ≤ _ + 1 + 1 + 1; omega) _
  · have he' : (cpErr xs ys vs (xl,xh) (yl,yh) != 0) = false := by simpa using he
    have h0 : cpErr xs ys vs (xl,xh) (yl,yh) = 0 := by simpa using he'
    have HO := Lib.hid (cp_zero h0)
    have R : Hid (boundR xs ys vs (xl,xh) (yl,yh) = (bnd xs ys vs (xl,xh) (yl,yh),0)) := by unfold Hid boundR; rw [if_neg he]
    rw [h0]
    clear he he' h0
    go_wp2_with fail
    refine (extremesR HO.out ((HRR.out.below HWb.out).below HB1.out)).mono ?_
    rintro e w2 ⟨lo,mo,hlm,rfl,hb2⟩
    have HLM := Lib.hid hlm
    have HB2 := Lib.hid hb2
    clear hlm hb2 a1 a2 a3 a4 a5 a6 a7 r0 r1 f0 f1
    have hc := (HB2.out.block (w.heap.size + 1 + 1 + 1) (by omega)).trans HC1.out
    have r0 : w2.cell? ⟨w.heap.size + 1 + 1 + 1,0,none⟩ = some (.int .i64 0) := by rw [cell_of_row w2 _ 0 _ _ _ hc]; rfl
    have r1 : w2.cell? ⟨w.heap.size + 1 + 1 + 1,1,none⟩ = some (.int .i64 0) := by rw [cell_of_row w2 _ 1 _ _ _ hc]; rfl
    have f0 : w2.frozen? ⟨w.heap.size + 1 + 1 + 1,0,none⟩ = false := by simp [World.frozen?,hc]
    have f1 : w2.frozen? ⟨w.heap.size + 1 + 1 + 1,1,none⟩ = false := by simp [World.frozen?,hc]
    have hz2 : w.heap.size + 1 + 1 + 1 < w2.heap.size := by have := HB2.out.size; omega
    have HC2 := Lib.hid hc
    obtain ⟨hl1,hl2,hl3,hl4⟩ := lo.ok
    obtain ⟨hm1,hm2,hm3,hm4⟩ := mo.ok
    clear hc
    unfold vP
    go_wp2_with fail
    refine wp_region_tail 9 (by kernel_rfl) (by kernel_rfl) ?_
    simp only [List.take_succ_cons,List.take_zero,List.drop_succ_cons,List.drop_zero]
    iterate 6 still_step
    still_call (floor_any _ _ _ (by omega) (by omega) (by omega) (by omega))
    iterate 2 still_step
    refine wpStill_nil ?_
    go_wp2_with fail
    refine (up_any mo.n mo.d _ (by omega) (by omega) (by omega) (by omega)).mono ?_
    rintro e w4 ⟨rfl,hb4⟩
    have hb5 : Below w2.heap.size w2 w4 := ((((Below.refl _ w2).alloc (Nat.le_refl _) _).alloc (by simp) _).drew).trans (hb4.mono (by simp; omega))
    have hc := (hb5.block (w.heap.size + 1 + 1 + 1) (by omega)).trans HC2.out
    clear r0 r1 f0 f1
    have r0 : w4.cell? ⟨w.heap.size + 1 + 1 + 1,0,none⟩ = some (.int .i64 0) := by rw [cell_of_row w4 _ 0 _ _ _ hc]; rfl
    have r1 : w4.cell? ⟨w.heap.size + 1 + 1 + 1,1,none⟩ = some (.int .i64 0) := by rw [cell_of_row w4 _ 1 _ _ _ hc]; rfl
    have f0 : w4.frozen? ⟨w.heap.size + 1 + 1 + 1,0,none⟩ = false := by simp [World.frozen?,hc]
    have f1 : w4.frozen? ⟨w.heap.size + 1 + 1 + 1,1,none⟩ = false := by simp [World.frozen?,hc]
    have HB4 := Lib.hid ((HWb.out.trans (HB1.out.mono HWb.out.size)).trans ((HB2.out.trans (hb5.mono HB2.out.size)).mono (by have := HWb.out.size; have := HB1.out.size; omega)))
    clear hb4 hb5 hc
    go_wp2_with fail
    refine bodyPost_ret (v := .tuple #[.agg #[.int .i64 (lo.n / lo.d),.int .i64 (-(-mo.n / mo.d))],.int .i64 0]) (by simp [results,Tryz.results15,go_sem,r0,r1]) rfl ⟨by rw [R.out,bnd_eq HLM.out],?_⟩
    exact (HB4.out.setCell (p := ⟨w.heap.size + 1 + 1 + 1,0,none⟩) (by show _ ≤ _ + 1 + 1 + 1; omega) _).setCell (p := ⟨w.heap.size + 1 + 1 + 1,1,none⟩) (by show _ ≤ _ + 1 + 1 + 1; omega) _
end Go.Proofs.YtbncpngjclabhaaGreat
/- The contracts of Meet and Hull, and of what the reference has for them. -/
namespace Go.Proofs.YtbncpngjclabhaaGreat
open Go.RowKit

theorem from_any (a b c : Int) (w : World) :
    Calls Tryz.prog 77 #[.int .i64 a,.int .i64 b,.int .i64 c] w fun e w' => e = .returned (.bool (wB a b c)) ∧ w' = w := by
  by_cases h1 : b ≤ a <;> by_cases h2 : a ≤ c
  all_goals
    go_enter Tryz.func77,Tryz.ntmps77
    go_wp2
    go_ret
    simp [wB,h1,h2]
theorem vB_eq (lo hi : Int) : vB (lo,hi) = (wB lo (-1000000) 1000000 && wB hi lo 1000000) := by
  rw [Bool.eq_iff_iff,vB_iff,Bool.and_eq_true,wB_iff,wB_iff]
  constructor
  · rintro ⟨h1,h2,h3⟩; simp only at h1 h2 h3; omega
  · rintro ⟨⟨h1,h2⟩,h3,h4⟩; simp only; omega
theorem rvalid_any (x : Int × Int) (w : World) :
    Calls Tryz.prog 57 #[.agg #[.int .i64 x.1,.int .i64 x.2]] w fun e w' => e = .returned (.bool (vB x)) ∧ Below w.heap.size w w' := by
  obtain ⟨lo,hi⟩ := x
  show Calls Tryz.prog 57 #[.agg #[.int .i64 lo,.int .i64 hi]] w _
  have key : ∀ b : Bool,wB lo (-1000000) 1000000 = b → Calls Tryz.prog 57 #[.agg #[.int .i64 lo,.int .i64 hi]] w fun e w' => e = .returned (.bool (b && wB hi lo 1000000)) ∧ Below w.heap.size w w' := by
    intro b hb
    have H := Lib.hid hb
    clear hb
    cases b
    all_goals
      go_enter Tryz.func57,Tryz.ntmps57
      go_wp2_with fail
      refine (from_any _ _ _ _).mono ?_
      rintro e w' ⟨rfl,rfl⟩
      rw [H.out]
    · go_wp2_with fail
      go_ret
      exact ⟨by simp,(Below.refl _ _).alloc (Nat.le_refl _) _⟩
    · go_wp2_with fail
      refine (from_any _ _ _ _).mono ?_
      rintro e w' ⟨rfl,rfl⟩
      go_wp2_with fail
      go_ret
      exact ⟨by simp,(Below.refl _ _).alloc (Nat.le_refl _) _⟩
  rw [vB_eq]
  exact key _ rfl
theorem spErr2 (a b : Int × Int) : spErr [a,b] = if vB a && vB b then 0 else 10 := by
  unfold spErr
  cases h1 : vB a <;> cases h2 : vB b <;> simp [h1,h2]
theorem two_any (a b : Int × Int) (w : World) :
    Calls Tryz.prog 127 #[.agg #[.int .i64 a.1,.int .i64 a.2],.agg #[.int .i64 b.1,.int .i64 b.2]] w fun e w' => e = .returned (.int .i64 (spErr [a,b])) ∧ Below w.heap.size w w' := by
  obtain ⟨a1,a2⟩ := a
  obtain ⟨b1,b2⟩ := b
  show Calls Tryz.prog 127 #[.agg #[.int .i64 a1,.int .i64 a2],.agg #[.int .i64 b1,.int .i64 b2]] w _
  have HE := Lib.hid (spErr2 (a1,a2) (b1,b2))
  have HB0 := Lib.hid (show Below w.heap.size w ((w.alloc (.cells #[.int .i64 a1,.int .i64 a2] 31)).alloc (.cells #[.int .i64 b1,.int .i64 b2] 31)) from ((Below.refl _ w).alloc (Nat.le_refl _) _).alloc (by simp) _)
  go_enter Tryz.func127,Tryz.ntmps127
  go_wp2_with fail
  refine (rvalid_any (a1,a2) _).mono ?_
  rintro e w1 ⟨rfl,hb1⟩
  have c0 : w1.cell? ⟨w.heap.size + 1,0,none⟩ = some (.int .i64 b1) := (hb1.cell (p := ⟨w.heap.size + 1,0,none⟩) (by simp)).trans (by simp)
  have c1 : w1.cell? ⟨w.heap.size + 1,1,none⟩ = some (.int .i64 b2) := (hb1.cell (p := ⟨w.heap.size + 1,1,none⟩) (by simp)).trans (by simp)
  have HB1 := Lib.hid (HB0.out.trans (hb1.mono HB0.out.size))
  clear hb1
  by_cases h1 : vB (a1,a2) = true
  · rw [h1] at HE ⊢
    clear h1
    go_wp2_with fail
    refine (rvalid_any (b1,b2) _).mono ?_
    rintro e w2 ⟨rfl,hb2⟩
    have HB2 := Lib.hid (HB1.out.trans (hb2.mono HB1.out.size))
    clear hb2
    by_cases h2 : vB (b1,b2) = true
    · rw [h2] at HE ⊢
      clear h2
      go_wp2_with fail
      go_ret
      exact ⟨by rw [HE.out]; rfl,HB2.out⟩
    · have h2' : vB (b1,b2) = false := by simpa using h2
      rw [h2'] at HE ⊢
      clear h2 h2'
      go_wp2_with fail
      go_ret
      exact ⟨by rw [HE.out]; rfl,HB2.out⟩
  · have h1' : vB (a1,a2) = false := by simpa using h1
    rw [h1'] at HE ⊢
    clear h1 h1'
    go_wp2_with fail
    go_ret
    exact ⟨by rw [HE.out]; rfl,HB1.out⟩

theorem cells2 {W : World} {B : Nat} {t : TypeId} {a b : Value} (h : W.heap[B]? = some (.cells #[a,b] t)) :
    (W.cell? ⟨B,0,none⟩ = some a ∧ W.cell? ⟨B,1,none⟩ = some b) ∧ (W.frozen? ⟨B,0,none⟩ = false ∧ W.frozen? ⟨B,1,none⟩ = false) := by
  refine ⟨⟨?_,?_⟩,?_,?_⟩
  · rw [cell_of_row W _ 0 _ _ _ h]; rfl
  · rw [cell_of_row W _ 1 _ _ _ h]; rfl
  all_goals simp [World.frozen?,h]
theorem set2_below {n : Nat} {w w1 : World} {B : Nat} (h : Below n w w1) (hB : n ≤ B) (a b : Value) : Below n w ((w1.setCell ⟨B,0,none⟩ a).setCell ⟨B,1,none⟩ b) :=
  (h.setCell (p := ⟨B,0,none⟩) hB _).setCell (p := ⟨B,1,none⟩) hB _
def mx (a b : Int) : Int := if a < b then b else a
def mn (a b : Int) : Int := if b < a then b else a
theorem mx_eq (a b : Int) : mx a b = max a b := by unfold mx; split <;> omega
theorem mn_eq (a b : Int) : mn a b = min a b := by unfold mn; split <;> omega
end Go.Proofs.YtbncpngjclabhaaGreat
/- The contracts of Far, and of the reference's knots and CheckTable. -/
namespace Go.Proofs.YtbncpngjclabhaaGreat
open Go.RowKit

theorem cells3 {W : World} {B : Nat} {t : TypeId} {a b c : Value} (h : W.heap[B]? = some (.cells #[a,b,c] t)) :
    (W.cell? ⟨B,0,none⟩ = some a ∧ W.cell? ⟨B,1,none⟩ = some b ∧ W.cell? ⟨B,2,none⟩ = some c) ∧ (W.frozen? ⟨B,0,none⟩ = false ∧ W.frozen? ⟨B,1,none⟩ = false ∧ W.frozen? ⟨B,2,none⟩ = false) := by
  refine ⟨⟨?_,?_,?_⟩,?_,?_,?_⟩
  · rw [cell_of_row W _ 0 _ _ _ h]; rfl
  · rw [cell_of_row W _ 1 _ _ _ h]; rfl
  · rw [cell_of_row W _ 2 _ _ _ h]; rfl
  all_goals simp [World.frozen?,h]
theorem blk' {W W' : World} {B : Nat} {o : Obj} (hb : Below W.heap.size W W') (h : W.heap[B]? = some o) : W'.heap[B]? = some o := (hb.block _ (Array.getElem?_eq_some_iff.1 h).1).trans h
theorem blk_new' (W : World) (o : Obj) : (W.alloc o).heap[W.heap.size]? = some o := World.alloc_heap_new W o
theorem cell_b' {W W' : World} {B o : Nat} {v : Value} (hb : Below W.heap.size W W') (h : W.cell? ⟨B,o,none⟩ = some v) : W'.cell? ⟨B,o,none⟩ = some v := by
  obtain ⟨ob,ho,_⟩ := cells_of_cell h
  exact (hb.cell (p := ⟨B,o,none⟩) (Array.getElem?_eq_some_iff.1 ho).1).trans h
def rowFar (vs : List (List Int)) : Bool := vs.any (fun r => decide (15 < r.length))
def farB (xs ys : List Int) (vs : List (List Int)) : Bool := decide (15 < xs.length) || decide (15 < ys.length) || decide (15 < vs.length) || rowFar vs
theorem rowFar_drop (vs : List (List Int)) (k : Nat) (h : k < vs.length) : rowFar (vs.drop k) = (decide (15 < (vs[k]?.getD []).length) || rowFar (vs.drop (k + 1))) := by
  unfold rowFar
  rw [List.drop_eq_getElem_cons h,List.any_cons,show vs[k]?.getD [] = vs[k] by simp [h]]
theorem far_any (xs ys : List Int) (vs : List (List Int)) (X Y V : Option Addr) (cx cy cv : Nat) (w : World) (hS : TSm xs ys vs) (hR : TabR w X Y V cx cy cv xs ys vs) :
   Calls Tryz.prog 27 #[.agg #[.slice X xs.length cx,.slice Y ys.length cy,.slice V vs.length cv]] w fun e w' => e = .returned (.bool (farB xs ys vs)) ∧ Below w.heap.size w w' := by
  obtain ⟨sx,sy,sv,_⟩ := hS
  unfold maxLen at sx sy sv
  have HV := Lib.hid hR.hV
  have HB := Lib.hid (show Below w.heap.size w (w.alloc (.cells #[.slice X xs.length cx,.slice Y ys.length cy,.slice V vs.length cv] 25)) from (Below.refl _ w).alloc (Nat.le_refl _) _)
  clear hR
  by_cases h1 : 15 < xs.length
  · have HF : Hid (farB xs ys vs = true) := by unfold Hid farB; simp [h1]
    go_enter Tryz.func27,Tryz.ntmps27
    go_wp2_with fail
    go_ret
    exact ⟨by rw [HF.out]; rfl,HB.out⟩
  · by_cases h2 : 15 < ys.length
    · have HF : Hid (farB xs ys vs = true) := by unfold Hid farB; simp [h2]
      go_enter Tryz.func27,Tryz.ntmps27
      go_wp2_with fail
      go_ret
      exact ⟨by rw [HF.out]; rfl,HB.out⟩
    · by_cases h3 : 15 < vs.length
      · have HF : Hid (farB xs ys vs = true) := by unfold Hid farB; simp [h3]
        go_enter Tryz.func27,Tryz.ntmps27
        go_wp2_with fail
        go_ret
        exact ⟨by rw [HF.out]; rfl,HB.out⟩
      · have HF : Hid (farB xs ys vs = rowFar vs) := by unfold Hid farB; simp [h1,h2,h3]
        have d1 : decide (15 < xs.length) = false := decide_eq_false h1
        have d2 : decide (15 < ys.length) = false := decide_eq_false h2
        have d3 : decide (15 < vs.length) = false := decide_eq_false h3
        go_enter Tryz.func27,Tryz.ntmps27
        go_wp2_with fail
        go_loop [3] (fun i => ∃ k : Nat,k ≤ vs.length ∧ i = .int .i64 k ∧ rowFar (vs.drop k) = rowFar vs) (fun i => vs.length - (intOf i).toNat)
        case atStart => exact ⟨0,by omega,rfl,by simp⟩
        case round =>
          obtain ⟨k,hk,rfl,hp⟩ := hrel
          have HP := Lib.hid hp
          clear hp
          by_cases hlt : k < vs.length
          · obtain ⟨b,off,rfl,hbl,hc⟩ := HV.out (by omega)
            obtain ⟨B,c,hc1,_⟩ := hc k hlt
            have HD := Lib.hid (rowFar_drop vs k hlt)
            clear hc
            generalize hr : vs[k]?.getD [] = r at hc1
            have HR := Lib.hid hr
            clear hr
            by_cases hl : 15 < r.length
            · go_wp2_with fail
              go_ret
              exact ⟨by rw [HF.out,← HP.out,HD.out,HR.out,decide_eq_true hl]; rfl,HB.out⟩
            · go_wp2_with fail
              go_round
              case rel => exact ⟨k + 1,by omega,by go_num,by rw [← HP.out,HD.out,HR.out,decide_eq_false hl]; simp⟩
              case measure => simp [intOf]; omega
          · go_wp2_with fail
            go_ret
            exact ⟨by rw [HF.out,← HP.out,List.drop_eq_nil_of_le (by omega)]; rfl,HB.out⟩
theorem knots_any (A : Option Addr) (l : List Int) (c : Nat) (w : World) (hl : l.length ≤ maxLen) (hA : Ints w A l) :
    Calls Tryz.prog 126 #[.slice A l.length c] w fun e w' => e = .returned (.bool (axB l)) ∧ Below w.heap.size w w' := by
  unfold maxLen at hl
  by_cases hw : wB l.length 2 12 = true
  · have E := Lib.hid hw
    obtain ⟨h2,h12⟩ := wB_iff.1 hw
    have R : Hid (axB l = axFrom none l) := by unfold Hid axB; rw [hw]; rfl
    obtain ⟨b,off,rfl,hbl,hc⟩ := hA (by omega)
    have HC := Lib.hid hc
    have HB0 := Lib.hid (Below.refl w.heap.size w)
    clear hw hc hA
    go_enter Tryz.func126,Tryz.ntmps126
    go_wp2_with fail
    refine (from_any _ _ _ _).mono ?_
    rintro e w' ⟨rfl,rfl⟩
    rw [E.out]
    go_wp2_with fail
    go_loopw [3] (fun i wr => ∃ k : Nat,k ≤ l.length ∧ i = .int .i64 k ∧ axFrom (prev l k) (l.drop k) = axFrom none l ∧ (0 < k → -1000000 ≤ l[k-1]?.getD 0 ∧ l[k-1]?.getD 0 ≤ 1000000) ∧ Below w'.heap.size w' wr) (fun i _ => l.length - (intOf i).toNat)
    case atStart => exact ⟨0,by omega,rfl,by simp [prev],by omega,Below.refl _ _⟩
    case round =>
      obtain ⟨k,hk,rfl,hp,hbd,hbr⟩ := hrel
      have HP := Lib.hid hp
      have HBD := Lib.hid hbd
      have HBR := Lib.hid hbr
      clear hp hbd hbr
      by_cases hlt : k < l.length
      · have hd := Lib.hid (axFrom_drop l k hlt)
        have h1 := (HBR.out.cell (p := ⟨b,off + k,none⟩) hbl).trans (HC.out k hlt)
        generalize hx : l[k]?.getD 0 = x at h1
        have HX := Lib.hid hx
        have t1 : (k : Int) < (l.length : Int) := by omega
        have t2 : (0 : Int) ≤ (k : Int) := by omega
        clear hx
        by_cases hv : wB x (-1000000) 1000000 = true
        · have hvb := wB_iff.1 hv
          have HV := Lib.hid hv
          clear hv
          have HQ1 : Hid (∀ W,Calls Tryz.prog 77 #[.int .i64 x,.int .i64 (-1000000),.int .i64 1000000] W fun e w' => e = .returned (.bool true) ∧ w' = W) := fun W => by have := from_any x (-1000000) 1000000 W; rw [HV.out] at this; exact this
          by_cases hk0 : k = 0
          · subst hk0
            simp only [Nat.add_zero] at h1
            go_wp2_with fail
            go_quiet ((go_at_call 77; first | (with_reducible exact Calls.quiet_of_same (HQ1.out _))))
            go_wp2_with fail
            go_roundw
            case rel => exact ⟨1,by omega,by go_num,by rw [← HP.out,hd.out,HX.out,HV.out]; simp,fun _ => by simpa [HX.out] using hvb,Below.drewN' HBR.out _⟩
            case measure => simp [intOf]; omega
          · obtain ⟨j,rfl⟩ : ∃ j,k = j + 1 := ⟨k - 1,by omega⟩
            have h3 := (HBR.out.cell (p := ⟨b,off + j,none⟩) hbl).trans (HC.out j (by omega))
            have hyb := HBD.out (by omega)
            simp only [Nat.add_sub_cancel] at hyb
            generalize hy : l[j]?.getD 0 = y at h3 hyb
            have HY := Lib.hid hy
            clear hy hk0
            have u1 : IntKind.i64.wrap ((j : Int) + 1 - 1) = (j : Int) := by rw [IntWalk.i64_in _ (by omega)]; omega
            have u2 : IntKind.i64.wrap (x - y) = x - y := IntWalk.i64_in _ (by omega)
            have t3 : (0 : Int) < (j : Int) + 1 := by omega
            have t4 : (j : Int) < (l.length : Int) := by omega
            have t5 : (j : Int) + 1 < (l.length : Int) := by omega
            have t6 : (0 : Int) ≤ (j : Int) + 1 := by omega
            have t7 : ((j : Int) + 1).toNat = j + 1 := by omega
            by_cases hv2 : wB (x - y) 1 10000 = true
            · have HV2 := Lib.hid hv2
              clear hv2
              have HQ2 : Hid (∀ W,Calls Tryz.prog 77 #[.int .i64 (x - y),.int .i64 1,.int .i64 10000] W fun e w' => e = .returned (.bool true) ∧ w' = W) := fun W => by have := from_any (x - y) 1 10000 W; rw [HV2.out] at this; exact this
              go_wp2_with fail
              go_quiet ((go_at_call 77; first | (with_reducible exact Calls.quiet_of_same (HQ1.out _)) | (with_reducible exact Calls.quiet_of_same (HQ2.out _))))
              go_wp2_with fail
              go_roundw
              case rel => exact ⟨j + 1 + 1,by omega,by go_num,by rw [← HP.out,hd.out,HX.out,HV.out]; simp [HY.out,HV2.out],fun _ => by simpa [HX.out] using hvb,Below.drewN' HBR.out _⟩
              case measure => simp [intOf]; omega
            · have hv3 : wB (x - y) 1 10000 = false := by simpa using hv2
              have HV2 := Lib.hid hv3
              clear hv2 hv3
              have HQ2 : Hid (∀ W,Calls Tryz.prog 77 #[.int .i64 (x - y),.int .i64 1,.int .i64 10000] W fun e w' => e = .returned (.bool false) ∧ w' = W) := fun W => by have := from_any (x - y) 1 10000 W; rw [HV2.out] at this; exact this
              go_wp2_with fail
              go_quiet ((go_at_call 77; first | (with_reducible exact Calls.quiet_of_same (HQ1.out _)) | (with_reducible exact Calls.quiet_of_same (HQ2.out _))))
              go_wp2_with fail
              go_ret
              exact ⟨by rw [R.out,← HP.out,hd.out,HX.out,HV.out]; simp [HY.out,HV2.out],Below.drewN' HBR.out _⟩
        · have hv3 : wB x (-1000000) 1000000 = false := by simpa using hv
          have HV := Lib.hid hv3
          clear hv hv3
          have HQ1 : Hid (∀ W,Calls Tryz.prog 77 #[.int .i64 x,.int .i64 (-1000000),.int .i64 1000000] W fun e w' => e = .returned (.bool false) ∧ w' = W) := fun W => by have := from_any x (-1000000) 1000000 W; rw [HV.out] at this; exact this
          go_wp2_with fail
          go_quiet ((go_at_call 77; first | (with_reducible exact Calls.quiet_of_same (HQ1.out _))))
          go_wp2_with fail
          go_ret
          exact ⟨by rw [R.out,← HP.out,hd.out,HX.out,HV.out]; simp,Below.drewN' HBR.out _⟩
      · go_wp2_with fail
        go_ret
        exact ⟨by rw [R.out,← HP.out,List.drop_eq_nil_of_le (by omega)]; simp [axFrom],HBR.out⟩
  · have hw' : wB l.length 2 12 = false := by simpa using hw
    have E := Lib.hid hw'
    have R : Hid (axB l = false) := by unfold Hid axB; rw [hw']; rfl
    clear hw hw' hA
    go_enter Tryz.func126,Tryz.ntmps126
    go_wp2_with fail
    refine (from_any _ _ _ _).mono ?_
    rintro e w' ⟨rfl,rfl⟩
    rw [E.out]
    go_wp2_with fail
    go_ret
    exact ⟨by rw [R.out]; rfl,Below.refl _ _⟩
end Go.Proofs.YtbncpngjclabhaaGreat
/- The contracts of the reference's part, Between and Value. -/
namespace Go.Proofs.YtbncpngjclabhaaGreat
open Go.RowKit

theorem between_any (A : Option Addr) (l : List Int) (c : Nat) (lo hi : Int) (w : World) (h1 : 1 ≤ l.length) (hl : l.length ≤ 1000000) (hA : Ints w A l) :
    Calls Tryz.prog 52 #[.slice A l.length c,.agg #[.int .i64 lo,.int .i64 hi]] w fun e w' => e = .returned (.bool (liesB l (lo,hi))) ∧ Below w.heap.size w w' := by
  obtain ⟨b,off,rfl,hbl,hc⟩ := hA (by omega)
  have c0 := hc 0 (by omega)
  have c1 := hc (l.length - 1) (by omega)
  simp only [Nat.add_zero] at c0
  have hR : liesB l (lo,hi) = (decide (l[0]?.getD 0 ≤ lo) && decide (hi ≤ l[l.length - 1]?.getD 0)) := rfl
  generalize l[0]?.getD 0 = a at *
  generalize l[l.length - 1]?.getD 0 = z at *
  have t1 : ((l.length : Int) - 1).toNat = l.length - 1 := by omega
  have t2 : (0 : Int) ≤ (l.length : Int) - 1 := by omega
  have t3 : (l.length : Int) - 1 < (l.length : Int) := by omega
  have t4 : (0 : Int) < (l.length : Int) := by omega
  have u1 : IntKind.i64.wrap ((l.length : Int) - 1) = (l.length : Int) - 1 := IntWalk.i64_in _ (by omega)
  have HR := Lib.hid hR
  have hB : ∀ (o : Obj) (n : Nat),Below w.heap.size w ((w.alloc o).drewN n) := fun o n => Below.drewN' ((Below.refl _ w).alloc (Nat.le_refl _) _) n
  have HB := Lib.hid hB
  clear hR hc hA hB
  by_cases g1 : a ≤ lo
  · have g1' : decide (a ≤ lo) = true := by simpa using g1
    by_cases g2 : hi ≤ z
    · have g2' : decide (hi ≤ z) = true := by simpa using g2
      go_enter Tryz.func52,Tryz.ntmps52
      go_wp2_with fail
      go_quiet (fail)
      go_wp2_with fail
      go_ret
      exact ⟨by rw [HR.out,g1',g2']; rfl,HB.out _ _⟩
    · have g2' : decide (hi ≤ z) = false := by simpa using g2
      go_enter Tryz.func52,Tryz.ntmps52
      go_wp2_with fail
      go_quiet (fail)
      go_wp2_with fail
      go_ret
      exact ⟨by rw [HR.out,g1',g2']; rfl,HB.out _ _⟩
  · have g1' : decide (a ≤ lo) = false := by simpa using g1
    go_enter Tryz.func52,Tryz.ntmps52
    go_wp2_with fail
    go_quiet (fail)
    go_wp2_with fail
    go_ret
    exact ⟨by rw [HR.out,g1']; rfl,HB.out _ _⟩

def PartAt (l : List Int) (x : Int) (i : Nat) : Prop := i + 2 ≤ l.length ∧ (0 < i → l[i]?.getD 0 ≤ x) ∧ (i + 2 < l.length → x < l[i+1]?.getD 0)
theorem Axis.part_unique {l : List Int} (h : Axis l) {x : Int} {i j : Nat} (hi : PartAt l x i) (hj : PartAt l x j) : i = j := by
  have key : ∀ {i j : Nat},PartAt l x i → PartAt l x j → ¬ i < j := by
    intro i j hi hj hlt
    have h1 := hi.2.2 (by have := hj.1; omega)
    have h2 := hj.2.1 (by omega)
    have h3 := h.mono (i + 1) j (by omega) (by have := hj.1; omega)
    omega
  have h1 := key hi hj
  have h2 := key hj hi
  omega
instance (l : List Int) (x : Int) (i : Nat) : Decidable (PartAt l x i) := by unfold PartAt; exact inferInstance
def partI (l : List Int) (x : Int) : Nat := ((List.range l.length).find? (fun i => decide (PartAt l x i))).getD 0
theorem Axis.partI_eq {l : List Int} (h : Axis l) {x : Int} {i : Nat} (hi : PartAt l x i) : partI l x = i := by
  unfold partI
  cases e : (List.range l.length).find? (fun i => decide (PartAt l x i)) with
  | none =>
    have := List.find?_eq_none.1 e i (by have := hi.1; simp; omega)
    simp [hi] at this
  | some j =>
    have := List.find?_some e
    exact h.part_unique (by simpa using this) hi
theorem Axis.part_exists {l : List Int} (h : Axis l) (x : Int) : ∃ i,PartAt l x i := by
  have key : ∀ n i,i + n + 2 = l.length → (0 < i → l[i]?.getD 0 ≤ x) → ∃ j,PartAt l x j := by
    intro n
    induction n with
    | zero => intro i hi h0; exact ⟨i,by omega,h0,by omega⟩
    | succ n ih =>
      intro i hi h0
      by_cases hx : x < l[i+1]?.getD 0
      · exact ⟨i,by omega,h0,fun _ => hx⟩
      · exact ih (i + 1) (by omega) (fun _ => by omega)
  exact key (l.length - 2) 0 (by have := h.two; omega) (by omega)
theorem Axis.partI_at {l : List Int} (h : Axis l) (x : Int) : PartAt l x (partI l x) := by
  obtain ⟨i,hi⟩ := h.part_exists x
  rw [h.partI_eq hi]; exact hi
theorem Axis.part_on {l : List Int} (h : Axis l) {x : Int} (ho : OnAx l x) : partI l x + 1 < l.length ∧ l[partI l x]?.getD 0 ≤ x ∧ x ≤ l[partI l x + 1]?.getD 0 ∧ l[partI l x + 1]?.getD 0 - l[partI l x]?.getD 0 ≤ 10000 ∧ 1 ≤ l[partI l x + 1]?.getD 0 - l[partI l x]?.getD 0 := by
  obtain ⟨h1,h2,h3⟩ := h.partI_at x
  generalize partI l x = i at *
  have g := h.gap i (by omega)
  refine ⟨by omega,?_,?_,g.2,g.1⟩
  · by_cases h0 : 0 < i
    · have := h2 h0; omega
    · obtain rfl : i = 0 := by omega
      exact ho.1
  · by_cases h0 : i + 2 < l.length
    · have := h3 h0; omega
    · have : i + 1 = l.length - 1 := by omega
      rw [this]; exact ho.2
def PartPost (l : List Int) (x : Int) (w : World) (e : Ending) (w' : World) : Prop := ∃ i : Nat,PartAt l x i ∧ e = .returned (.int .i64 i) ∧ w' = w
theorem part_any' (A : Option Addr) (l : List Int) (c : Nat) (x : Int) (w : World) (h2 : 2 ≤ l.length) (hl : l.length ≤ 1000000) (hA : Ints w A l) :
    Calls Tryz.prog 132 #[.slice A l.length c,.int .i64 x] w (PartPost l x w) := by
  obtain ⟨b,off,rfl,hbl,hc⟩ := hA (by omega)
  have HC := Lib.hid hc
  clear hc hA
  go_enter Tryz.func132,Tryz.ntmps132
  go_wp2
  go_loop [5] (fun i => ∃ k : Nat,k + 2 ≤ l.length ∧ i = .int .i64 k ∧ (0 < k → l[k]?.getD 0 ≤ x)) (fun i => l.length - (intOf i).toNat)
  case atStart => exact ⟨0,by omega,rfl,by omega⟩
  case round =>
    obtain ⟨k,hk,rfl,hp⟩ := hrel
    have HP := Lib.hid hp
    clear hp
    by_cases hlt : k + 2 < l.length
    · have h1 := HC.out (k + 1) (by omega)
      generalize hy : l[k + 1]?.getD 0 = y at h1
      have HY := Lib.hid hy
      clear hy
      by_cases hyx : y ≤ x
      · go_wp2_with fail
        go_round
        case rel => exact ⟨k + 1,by omega,by go_num,fun _ => by rw [HY.out]; exact hyx⟩
        case measure => simp [intOf]; omega
      · go_wp2_with fail
        go_ret
        exact ⟨k,⟨hk,HP.out,fun _ => by rw [HY.out]; omega⟩,rfl,rfl⟩
    · have hge : ¬ ((k : Int) + 2 < (l.length : Int)) := by omega
      go_wp2_with fail
      go_ret
      exact ⟨k,⟨hk,HP.out,fun h => by omega⟩,rfl,rfl⟩
theorem partI_any (A : Option Addr) (l : List Int) (c : Nat) (x : Int) (w : World) (h : Axis l) (_hlc : l.length ≤ c) (hA : Ints w A l) :
    Calls Tryz.prog 132 #[.slice A l.length c,.int .i64 x] w fun e w' => e = .returned (.int .i64 (partI l x)) ∧ w' = w :=
  (part_any' A l c x w h.two (by have := h.twelve; omega) hA).mono fun _ _ ⟨i,hi,he,hw⟩ => ⟨by rw [h.partI_eq hi]; exact he,hw⟩
def valN (xs ys : List Int) (vs : List (List Int)) (x y : Int) : Int :=
  let i := partI xs x; let k := partI ys y
  numF (xs[i+1]?.getD 0 - x) (x - xs[i]?.getD 0) (ys[k+1]?.getD 0 - y) (y - ys[k]?.getD 0)
    ((vs[i]?.getD [])[k]?.getD 0) ((vs[i+1]?.getD [])[k]?.getD 0) ((vs[i]?.getD [])[k+1]?.getD 0) ((vs[i+1]?.getD [])[k+1]?.getD 0)
def valD (xs ys : List Int) (x y : Int) : Int :=
  let i := partI xs x; let k := partI ys y
  (xs[i+1]?.getD 0 - xs[i]?.getD 0) * (ys[k+1]?.getD 0 - ys[k]?.getD 0)
theorem value_any (xs ys : List Int) (vs : List (List Int)) (X Y V : Option Addr) (cx cy cv : Nat) (x y : Int) (w : World)
   (hT : Tbl xs ys vs) (hR : TabR w X Y V cx cy cv xs ys vs) (hx : OnAx xs x) (hy : OnAx ys y) :
   Calls Tryz.prog 129 #[.agg #[.slice X xs.length cx,.slice Y ys.length cy,.slice V vs.length cv],.int .i64 x,.int .i64 y] w
     fun e w' => e = .returned (.tuple #[.int .i64 (valN xs ys vs x y),.int .i64 (valD xs ys x y)]) ∧ Below w.heap.size w w' := by
  have q1 := hT.ax.part_on hx
  have q2 := hT.ay.part_on hy
  have hq1 : ∀ W,Below w.heap.size w W → Calls Tryz.prog 132 #[.slice X xs.length cx,.int .i64 x] W fun e w' => e = .returned (.int .i64 (partI xs x)) ∧ w' = W :=
    fun W hb => partI_any X xs cx x W hT.ax hR.lx (hR.hX.below hb)
  have hq2 : ∀ W,Below w.heap.size w W → Calls Tryz.prog 132 #[.slice Y ys.length cy,.int .i64 y] W fun e w' => e = .returned (.int .i64 (partI ys y)) ∧ w' = W :=
    fun W hb => partI_any Y ys cy y W hT.ay hR.ly (hR.hY.below hb)
  have hN : valN xs ys vs x y = numF (xs[partI xs x + 1]?.getD 0 - x) (x - xs[partI xs x]?.getD 0) (ys[partI ys y + 1]?.getD 0 - y) (y - ys[partI ys y]?.getD 0)
    ((vs[partI xs x]?.getD [])[partI ys y]?.getD 0) ((vs[partI xs x + 1]?.getD [])[partI ys y]?.getD 0) ((vs[partI xs x]?.getD [])[partI ys y + 1]?.getD 0) ((vs[partI xs x + 1]?.getD [])[partI ys y + 1]?.getD 0) := rfl
  have hD : valD xs ys x y = (xs[partI xs x + 1]?.getD 0 - xs[partI xs x]?.getD 0) * (ys[partI ys y + 1]?.getD 0 - ys[partI ys y]?.getD 0) := rfl
  generalize partI xs x = i at *
  generalize partI ys y = k at *
  have t12x := hT.ax.twelve
  have t12y := hT.ay.twelve
  have lenv := hT.len
  have r0 := hT.row i (by omega)
  have r1 := hT.row (i+1) (by omega)
  have b00 := hT.val i k (by omega) (by omega)
  have b01 := hT.val i (k+1) (by omega) (by omega)
  have b10 := hT.val (i+1) k (by omega) (by omega)
  have b11 := hT.val (i+1) (k+1) (by omega) (by omega)
  obtain ⟨bx,ox,rfl,hbx,hcx⟩ := hR.hX (by omega)
  obtain ⟨bY,oy,rfl,hby,hcy⟩ := hR.hY (by omega)
  obtain ⟨bv,ov,rfl,hbv,hcv⟩ := hR.hV (by omega)
  obtain ⟨R0,c0,e0,hR0⟩ := hcv i (by omega)
  obtain ⟨R1,c1,e1,hR1⟩ := hcv (i+1) (by omega)
  obtain ⟨b0,o0,rfl,hb0,hc0⟩ := hR0 (by omega)
  obtain ⟨b1,o1,rfl,hb1,hc1⟩ := hR1 (by omega)
  have cx0 := hcx i (by omega)
  have cx1 := hcx (i+1) (by omega)
  have cy0 := hcy k (by omega)
  have cy1 := hcy (k+1) (by omega)
  have v00 := hc0 k (by omega)
  have v01 := hc0 (k+1) (by omega)
  have v10 := hc1 k (by omega)
  have v11 := hc1 (k+1) (by omega)
  rw [r0] at e0
  rw [r1] at e1
  generalize xs[i]?.getD 0 = x0 at *
  generalize xs[i+1]?.getD 0 = x1 at *
  generalize ys[k]?.getD 0 = y0 at *
  generalize ys[k+1]?.getD 0 = y1 at *
  generalize (vs[i]?.getD [])[k]?.getD 0 = z00 at *
  generalize (vs[i]?.getD [])[k+1]?.getD 0 = z01 at *
  generalize (vs[i+1]?.getD [])[k]?.getD 0 = z10 at *
  generalize (vs[i+1]?.getD [])[k+1]?.getD 0 = z11 at *
  obtain ⟨hi,hx0,hx1,hgx,_⟩ := q1
  obtain ⟨hk,hy0,hy1,hgy,_⟩ := q2
  have p1 := mul_bd (a := x1 - x) (b := y1 - y) (A := 10000) (B := 10000) (by omega) (by omega) (by omega) (by omega)
  have p2 := mul_bd (a := x - x0) (b := y1 - y) (A := 10000) (B := 10000) (by omega) (by omega) (by omega) (by omega)
  have p3 := mul_bd (a := x1 - x) (b := y - y0) (A := 10000) (B := 10000) (by omega) (by omega) (by omega) (by omega)
  have p4 := mul_bd (a := x - x0) (b := y - y0) (A := 10000) (B := 10000) (by omega) (by omega) (by omega) (by omega)
  have p5 := mul_bd (a := x1 - x0) (b := y1 - y0) (A := 10000) (B := 10000) (by omega) (by omega) (by omega) (by omega)
  have s1 := mul_bd2 (A := 100000000) (B := 1000000) p1.1 (by omega) b00.1 b00.2 (by omega)
  have s2 := mul_bd2 (A := 100000000) (B := 1000000) p2.1 (by omega) b10.1 b10.2 (by omega)
  have s3 := mul_bd2 (A := 100000000) (B := 1000000) p3.1 (by omega) b01.1 b01.2 (by omega)
  have s4 := mul_bd2 (A := 100000000) (B := 1000000) p4.1 (by omega) b11.1 b11.2 (by omega)
  have HN := Lib.hid hN
  have HD := Lib.hid hD
  have HQ1 := Lib.hid hq1
  have HQ2 := Lib.hid hq2
  have hlv : i + 1 < vs.length := by omega
  have hlv2 : vs.length ≤ 12 := by omega
  clear hN hD hq1 hq2 hcx hcy hcv hc0 hc1 hR0 hR1 hR hT hx hy lenv r0 r1 
  have hBd : ∀ (o1 : Obj) (n : Nat),Below w.heap.size w ((w.alloc o1).drewN n) := fun o1 n => Below.drewN' ((Below.refl _ w).alloc (Nat.le_refl _) _) n
  have HBd := Lib.hid hBd
  clear hBd
  go_enter Tryz.func129,Tryz.ntmps129
  go_wp2_with fail
  go_quiet ((go_at_call 132; first | (with_reducible exact Calls.quiet_of_same (HQ1.out _ (HBd.out _ _))) | (with_reducible exact Calls.quiet_of_same (HQ2.out _ (HBd.out _ _)))))
  go_wp2_with fail
  go_quiet (fail)
  go_wp2_with fail
  go_quiet (fail)
  go_wp2_with fail
  have t1 : ((i : Int) + 1).toNat = i + 1 := by omega
  have t2 : ((k : Int) + 1).toNat = k + 1 := by omega
  have t3 : (0 : Int) ≤ (i : Int) + 1 := by omega
  have t4 : (0 : Int) ≤ (k : Int) + 1 := by omega
  have t5 : (i : Int) < (vs.length : Int) := by omega
  have t6 : (i : Int) + 1 < (vs.length : Int) := by omega
  have t7 : (k : Int) < (ys.length : Int) := by omega
  have t8 : (k : Int) + 1 < (ys.length : Int) := by omega
  have u1 : IntKind.i64.wrap ((i : Int) + 1) = (i : Int) + 1 := IntWalk.i64_in _ (by omega)
  have u2 : IntKind.i64.wrap ((k : Int) + 1) = (k : Int) + 1 := IntWalk.i64_in _ (by omega)
  have u3 : IntKind.i64.wrap ((x1 - x) * (y1 - y)) = (x1 - x) * (y1 - y) := IntWalk.i64_in _ (by omega)
  have u4 : IntKind.i64.wrap ((x - x0) * (y1 - y)) = (x - x0) * (y1 - y) := IntWalk.i64_in _ (by omega)
  have u5 : IntKind.i64.wrap ((x1 - x) * (y - y0)) = (x1 - x) * (y - y0) := IntWalk.i64_in _ (by omega)
  have u6 : IntKind.i64.wrap ((x - x0) * (y - y0)) = (x - x0) * (y - y0) := IntWalk.i64_in _ (by omega)
  have u7 : IntKind.i64.wrap ((x1 - x) * (y1 - y) * z00) = (x1 - x) * (y1 - y) * z00 := IntWalk.i64_in _ (by omega)
  have u8 : IntKind.i64.wrap ((x - x0) * (y1 - y) * z10) = (x - x0) * (y1 - y) * z10 := IntWalk.i64_in _ (by omega)
  have u9 : IntKind.i64.wrap ((x1 - x) * (y - y0) * z01) = (x1 - x) * (y - y0) * z01 := IntWalk.i64_in _ (by omega)
  have u10 : IntKind.i64.wrap ((x - x0) * (y - y0) * z11) = (x - x0) * (y - y0) * z11 := IntWalk.i64_in _ (by omega)
  have u11 : IntKind.i64.wrap ((x1 - x) * (y1 - y) * z00 + (x - x0) * (y1 - y) * z10) = (x1 - x) * (y1 - y) * z00 + (x - x0) * (y1 - y) * z10 := IntWalk.i64_in _ (by omega)
  have u12 : IntKind.i64.wrap ((x1 - x) * (y1 - y) * z00 + (x - x0) * (y1 - y) * z10 + (x1 - x) * (y - y0) * z01) = (x1 - x) * (y1 - y) * z00 + (x - x0) * (y1 - y) * z10 + (x1 - x) * (y - y0) * z01 := IntWalk.i64_in _ (by omega)
  have u13 : IntKind.i64.wrap ((x1 - x) * (y1 - y) * z00 + (x - x0) * (y1 - y) * z10 + (x1 - x) * (y - y0) * z01 + (x - x0) * (y - y0) * z11) = (x1 - x) * (y1 - y) * z00 + (x - x0) * (y1 - y) * z10 + (x1 - x) * (y - y0) * z01 + (x - x0) * (y - y0) * z11 := IntWalk.i64_in _ (by omega)
  have u14 : IntKind.i64.wrap (x1 - x0) = x1 - x0 := IntWalk.i64_in _ (by omega)
  have u15 : IntKind.i64.wrap (y1 - y0) = y1 - y0 := IntWalk.i64_in _ (by omega)
  have u16 : IntKind.i64.wrap ((x1 - x0) * (y1 - y0)) = (x1 - x0) * (y1 - y0) := IntWalk.i64_in _ (by omega)
  have t9 : (i : Int) < (xs.length : Int) := by omega
  have t10 : (i : Int) + 1 < (xs.length : Int) := by omega
  go_quiet (fail)
  clear t1 t2 t3 t4 t5 t6 t7 t8 t9 t10 u1 u2 u3 u4 u5 u6 u7 u8 u9 u10 u11 u12 u13 u14 u15 u16
  go_wp2_with fail
  go_ret2
  refine ⟨?_,Below.drewN' (HBd.out _ _) _⟩
  rw [HN.out,HD.out]
  rfl
end Go.Proofs.YtbncpngjclabhaaGreat
/- Plain laws of fractions, and that the reference's value of a table is the program's. -/
namespace Go.Proofs.YtbncpngjclabhaaGreat

theorem floor_cross {n d m f : Int} (hd : 1 ≤ d) (hf : 1 ≤ f) (h : n * f = m * d) : n / d = m / f := by
  have h1 : n * f / (d * f) = n / d := Int.mul_ediv_mul_of_pos_left n d (by omega)
  have h2 : m * d / (f * d) = m / f := Int.mul_ediv_mul_of_pos_left m f (by omega)
  rw [← h1,← h2,h,Int.mul_comm f d]
theorem ceil_cross {n d m f : Int} (hd : 1 ≤ d) (hf : 1 ≤ f) (h : n * f = m * d) : -(-n / d) = -(-m / f) := by
  rw [floor_cross (n := -n) (m := -m) hd hf (by rw [Int.neg_mul,Int.neg_mul,h])]
theorem cmpV_sign {n d m f : Int} (hd : 1 ≤ d) (hf : 1 ≤ f) : (cmpV n d m f < 0 ↔ n * f < m * d) ∧ (0 < cmpV n d m f ↔ m * d < n * f) := by
  have r1 := rem_bd n d hd
  have r2 := rem_bd m f hf
  have hC : cmpV n d m f = if n / d - m / f = 0 then (if (n - n / d * d) * f - (m - m / f * f) * d = 0 then 0 else (n - n / d * d) * f - (m - m / f * f) * d) else n / d - m / f := rfl
  rw [hC]
  clear hC
  generalize n / d = a at *
  generalize m / f = b at *
  have hdf : 1 ≤ d * f := by
    have := Int.mul_le_mul hd hf (by omega) (by omega : (0 : Int) ≤ d)
    omega
  have e1 : n * f - m * d = (a - b) * (d * f) + ((n - a * d) * f - (m - b * f) * d) := by grind
  have p1 : (n - a * d) * f ≤ (d - 1) * f := Int.mul_le_mul_of_nonneg_right (by omega) (by omega)
  have p2 : 0 ≤ (n - a * d) * f := Int.mul_nonneg (by omega) (by omega)
  have p3 : (m - b * f) * d ≤ (f - 1) * d := Int.mul_le_mul_of_nonneg_right (by omega) (by omega)
  have p4 : 0 ≤ (m - b * f) * d := Int.mul_nonneg (by omega) (by omega)
  have p5 : (d - 1) * f = d * f - f := by rw [Int.sub_mul]; omega
  have p6 : (f - 1) * d = d * f - d := by rw [Int.sub_mul,Int.mul_comm f d]; omega
  by_cases h0 : a - b = 0
  · rw [if_pos h0]
    rw [h0,Int.zero_mul] at e1
    split <;> constructor <;> omega
  · rw [if_neg h0]
    rcases Int.lt_or_gt_of_ne h0 with hlt | hgt
    · have p7 : (a - b) * (d * f) ≤ (-1) * (d * f) := Int.mul_le_mul_of_nonneg_right (by omega) (by omega)
      constructor <;> omega
    · have p7 : 1 * (d * f) ≤ (a - b) * (d * f) := Int.mul_le_mul_of_nonneg_right (by omega) (by omega)
      constructor <;> omega
theorem Axis.cell_part {l : List Int} (h : Axis l) {x : Int} : partI l x = cellI l x ∨ (partI l x = cellI l x + 1 ∧ x = l[cellI l x + 1]?.getD 0) := by
  obtain ⟨h1,h2,h3⟩ := h.cellI_at x
  generalize cellI l x = i at *
  by_cases hi : i + 2 < l.length
  · by_cases hx : x = l[i + 1]?.getD 0
    · refine .inr ⟨h.partI_eq ⟨by omega,fun _ => by omega,fun hlt => ?_⟩,hx⟩
      have := h.gap (i + 1) (by omega)
      omega
    · exact .inl (h.partI_eq ⟨h1,fun h0 => by have := h2 h0; omega,fun _ => by have := h3 hi; omega⟩)
  · exact .inl (h.partI_eq ⟨h1,fun h0 => by have := h2 h0; omega,fun hlt => by omega⟩)
theorem frac_eq {xs ys : List Int} {vs : List (List Int)} {x y : Int} (hT : Tbl xs ys vs) : atN xs ys vs x y * valD xs ys x y = valN xs ys vs x y * atD xs ys x y := by
  have hx := hT.ax.cell_part (x := x)
  have hy := hT.ay.cell_part (x := y)
  unfold atN atD valN valD numF denF
  simp only
  generalize cellI xs x = i at *
  generalize cellI ys y = k at *
  rcases hx with hx | ⟨hx,hx2⟩ <;> rcases hy with hy | ⟨hy,hy2⟩ <;> rw [hx,hy]
  · generalize xs[i]?.getD 0 = x0 at *
    generalize xs[i+1]?.getD 0 = x1 at *
    generalize ys[k]?.getD 0 = y0 at *
    generalize ys[k+1]?.getD 0 = y1 at *
    grind
  · generalize xs[i]?.getD 0 = x0 at *
    generalize xs[i+1]?.getD 0 = x1 at *
    generalize ys[k]?.getD 0 = y0 at *
    generalize ys[k+1]?.getD 0 = y1 at *
    generalize ys[k+1+1]?.getD 0 = y2 at *
    subst hy2
    grind
  · generalize xs[i]?.getD 0 = x0 at *
    generalize xs[i+1]?.getD 0 = x1 at *
    generalize xs[i+1+1]?.getD 0 = x2 at *
    generalize ys[k]?.getD 0 = y0 at *
    generalize ys[k+1]?.getD 0 = y1 at *
    subst hx2
    grind
  · generalize xs[i]?.getD 0 = x0 at *
    generalize xs[i+1]?.getD 0 = x1 at *
    generalize xs[i+1+1]?.getD 0 = x2 at *
    generalize ys[k]?.getD 0 = y0 at *
    generalize ys[k+1]?.getD 0 = y1 at *
    generalize ys[k+1+1]?.getD 0 = y2 at *
    subst hx2 hy2
    grind
theorem val_bd {xs ys : List Int} {vs : List (List Int)} {x y : Int} (hT : Tbl xs ys vs) (hx : OnAx xs x) (hy : OnAx ys y) :
    1 ≤ valD xs ys x y ∧ valD xs ys x y ≤ 100000000 ∧ -1000000000000000 ≤ valN xs ys vs x y ∧ valN xs ys vs x y ≤ 1000000000000000 := by
  have q1 := hT.ax.part_on hx
  have q2 := hT.ay.part_on hy
  unfold valD valN
  generalize partI xs x = i at *
  generalize partI ys y = k at *
  have lenv := hT.len
  have b00 := hT.val i k (by omega) (by omega)
  have b01 := hT.val i (k+1) (by omega) (by omega)
  have b10 := hT.val (i+1) k (by omega) (by omega)
  have b11 := hT.val (i+1) (k+1) (by omega) (by omega)
  simp only
  generalize xs[i]?.getD 0 = x0 at *
  generalize xs[i+1]?.getD 0 = x1 at *
  generalize ys[k]?.getD 0 = y0 at *
  generalize ys[k+1]?.getD 0 = y1 at *
  generalize (vs[i]?.getD [])[k]?.getD 0 = z00 at *
  generalize (vs[i]?.getD [])[k+1]?.getD 0 = z01 at *
  generalize (vs[i+1]?.getD [])[k]?.getD 0 = z10 at *
  generalize (vs[i+1]?.getD [])[k+1]?.getD 0 = z11 at *
  obtain ⟨hi,hx0,hx1,hgx,hgx'⟩ := q1
  obtain ⟨hk,hy0,hy1,hgy,hgy'⟩ := q2
  have p1 := mul_bd (a := x1 - x) (b := y1 - y) (A := 10000) (B := 10000) (by omega) (by omega) (by omega) (by omega)
  have p2 := mul_bd (a := x - x0) (b := y1 - y) (A := 10000) (B := 10000) (by omega) (by omega) (by omega) (by omega)
  have p3 := mul_bd (a := x1 - x) (b := y - y0) (A := 10000) (B := 10000) (by omega) (by omega) (by omega) (by omega)
  have p4 := mul_bd (a := x - x0) (b := y - y0) (A := 10000) (B := 10000) (by omega) (by omega) (by omega) (by omega)
  have p5 := mul_bd (a := x1 - x0) (b := y1 - y0) (A := 10000) (B := 10000) (by omega) (by omega) (by omega) (by omega)
  have p6 : 0 < (x1 - x0) * (y1 - y0) := Int.mul_pos (by omega) (by omega)
  have s1 := mul_bd2 (A := 100000000) (B := 1000000) p1.1 (by omega) b00.1 b00.2 (by omega)
  have s2 := mul_bd2 (A := 100000000) (B := 1000000) p2.1 (by omega) b10.1 b10.2 (by omega)
  have s3 := mul_bd2 (A := 100000000) (B := 1000000) p3.1 (by omega) b01.1 b01.2 (by omega)
  have s4 := mul_bd2 (A := 100000000) (B := 1000000) p4.1 (by omega) b11.1 b11.2 (by omega)
  unfold numF
  omega
end Go.Proofs.YtbncpngjclabhaaGreat
/- The contract of the reference's CheckTable. -/
namespace Go.Proofs.YtbncpngjclabhaaGreat
open Go.RowKit

def outI (x : Int) : Bool := !wB x (-1000000) 1000000
theorem any_drop {α : Type} (p : α → Bool) (l : List α) (d : α) (k : Nat) (h : k < l.length) : (l.drop k).any p = (p (l[k]?.getD d) || (l.drop (k + 1)).any p) := by
  rw [List.drop_eq_getElem_cons h,List.any_cons,show l[k]?.getD d = l[k] by simp [h]]
theorem rcheckTable_any (xs ys : List Int) (vs : List (List Int)) (X Y V : Option Addr) (cx cy cv : Nat) (w : World) (hS : TSm xs ys vs) (hR : TabR w X Y V cx cy cv xs ys vs) :
   Calls Tryz.prog 121 #[.agg #[.slice X xs.length cx,.slice Y ys.length cy,.slice V vs.length cv]] w fun e w' => e = .returned (.int .i64 (tabErr xs ys vs)) ∧ Below w.heap.size w w' := by
  have HXx := Lib.hid hR.hX
  have HYy := Lib.hid hR.hY
  have HVv := Lib.hid hR.hV
  have HSX := Lib.hid hS.x
  have HSY := Lib.hid hS.y
  have hsv := hS.v
  unfold maxLen at hsv
  have HBk0 := Lib.hid (blk_new' w (.cells #[.slice X xs.length cx,.slice Y ys.length cy,.slice V vs.length cv] 25))
  have HB0 := Lib.hid (show Below w.heap.size w (w.alloc (.cells #[.slice X xs.length cx,.slice Y ys.length cy,.slice V vs.length cv] 25)) from (Below.refl _ w).alloc (Nat.le_refl _) _)
  clear hR hS
  go_enter Tryz.func121,Tryz.ntmps121
  go_wp2_with fail
  refine (knots_any X xs cx _ HSX.out (HXx.out.below HB0.out)).mono ?_
  rintro e w1 ⟨rfl,hb1⟩
  have HBk1 := Lib.hid (blk' hb1 HBk0.out)
  have HB1 := Lib.hid (HB0.out.trans (hb1.mono HB0.out.size))
  obtain ⟨⟨c0,c1,c2⟩,_⟩ := cells3 HBk1.out
  clear hb1
  by_cases hx : axB xs = true
  · rw [hx]
    have EX := Lib.hid hx
    clear hx
    go_wp2_with fail
    refine (knots_any Y ys cy _ HSY.out (HYy.out.below HB1.out)).mono ?_
    rintro e w2 ⟨rfl,hb2⟩
    have HBk2 := Lib.hid (blk' hb2 HBk1.out)
    have HB2 := Lib.hid (HB1.out.trans (hb2.mono HB1.out.size))
    clear c0 c1 c2 hb2
    obtain ⟨⟨c0,c1,c2⟩,_⟩ := cells3 HBk2.out
    by_cases hy : axB ys = true
    · rw [hy]
      have EY := Lib.hid hy
      clear hy
      by_cases hn : ((vs.length : Int) != (xs.length : Int)) = true
      · have R : Hid (tabErr xs ys vs = 11) := by unfold Hid tabErr tabB; rw [hn]; simp
        go_wp2_with fail
        go_ret
        exact ⟨by rw [R.out]; rfl,HB2.out⟩
      · have hn' : ((vs.length : Int) != (xs.length : Int)) = false := by simpa using hn
        have R : Hid (tabErr xs ys vs = if vs.any (rowBad ys.length) then 11 else 0) := by unfold Hid tabErr tabB; rw [hn',EX.out,EY.out]; cases vs.any (rowBad ys.length) <;> rfl
        clear hn
        go_wp2_with fail
        clear c0 c1 c2
        go_loopw [3,4] (fun i _ wr => ∃ k : Nat,k ≤ vs.length ∧ i = .int .i64 k ∧ (vs.drop k).any (rowBad ys.length) = vs.any (rowBad ys.length) ∧ Below w2.heap.size w2 wr) (fun i _ _ => vs.length - (intOf i).toNat)
        case atStart => exact ⟨0,by omega,rfl,by simp,Below.refl _ _⟩
        case round =>
          obtain ⟨k,hk,rfl,hp,hbr⟩ := hrel
          obtain ⟨wo,rfl⟩ : ∃ wo : World,wo = wr := ⟨_,rfl⟩
          have HP := Lib.hid hp
          have HBR := Lib.hid hbr
          obtain ⟨⟨c0,c1,c2⟩,_⟩ := cells3 (blk' hbr HBk2.out)
          clear hp hbr
          by_cases hlt : k < vs.length
          · obtain ⟨b,off,rfl,hbl,hc⟩ := HVv.out (by omega)
            obtain ⟨B,d,hc1,hB⟩ := hc k hlt
            have HBB := Lib.hid (HB2.out.trans (HBR.out.mono HB2.out.size))
            have h1 := (HBB.out.cell (p := ⟨b,off + k,none⟩) hbl).trans hc1
            have HI := Lib.hid (hB.below HBB.out)
            have HD := Lib.hid (any_drop (rowBad ys.length) vs [] k hlt)
            clear hc hc1 hB
            generalize hr : vs[k]?.getD [] = r at h1 HI HD
            clear hr
            have t1 : (k : Int) < (vs.length : Int) := by omega
            have t2 : (0 : Int) ≤ (k : Int) := by omega
            by_cases hl : ((r.length : Int) != (ys.length : Int)) = true
            · have HRB : Hid (rowBad ys.length r = true) := by unfold Hid rowBad; rw [hl]; rfl
              go_wp2_with fail
              go_quiet (fail)
              go_wp2_with fail
              go_ret
              exact ⟨by rw [R.out,← HP.out,HD.out,HRB.out]; rfl,Below.drewN' HBB.out _⟩
            · have hl' : ((r.length : Int) != (ys.length : Int)) = false := by simpa using hl
              have HRB : Hid (rowBad ys.length r = r.any outI) := by unfold Hid rowBad; rw [hl']; rfl
              clear hl
              have hry : r.length ≤ 9223372036854775807 := by
                have := HSY.out
                unfold maxLen at this
                simp at hl'
                omega
              go_wp2_with fail
              go_quiet (fail)
              go_wp2_with fail
              go_loopw [4] (fun i wq => ∃ j : Nat,j ≤ r.length ∧ i = .int .i64 j ∧ (r.drop j).any outI = r.any outI ∧ Below wo.heap.size wo wq) (fun i _ => r.length - (intOf i).toNat)
              case atStart => exact ⟨0,by omega,rfl,by simp,Below.drewN' (Below.refl _ _) _⟩
              case round =>
                obtain ⟨j,hj,rfl,hp2,hbq⟩ := hrel
                have HP2 := Lib.hid hp2
                have HBQ := Lib.hid hbq
                have HBQ2 := Lib.hid (HBB.out.trans (hbq.mono HBB.out.size))
                obtain ⟨⟨e0,e1,e2⟩,_⟩ := cells3 (blk' hbq (blk' HBR.out HBk2.out))
                have h2 := cell_b' hbq h1
                clear hp2 hbq
                by_cases hlt2 : j < r.length
                · obtain ⟨b2,off2,rfl,hbl2,hc2⟩ := HI.out (by omega)
                  have h3 := cell_b' HBQ.out (hc2 j hlt2)
                  have HD2 := Lib.hid (any_drop outI r 0 j hlt2)
                  clear hc2
                  generalize hx2 : r[j]?.getD 0 = x at h3 HD2
                  clear hx2
                  go_wp2_with fail
                  refine (from_any _ _ _ _).mono ?_
                  rintro e w' ⟨rfl,rfl⟩
                  by_cases hv : wB x (-1000000) 1000000 = true
                  · rw [hv]
                    have HO : Hid (outI x = false) := by unfold Hid outI; rw [hv]; rfl
                    clear hv
                    go_wp2_with fail
                    go_roundw
                    case rel => exact ⟨j + 1,by omega,by go_num,by rw [← HP2.out,HD2.out,HO.out]; simp,HBQ.out⟩
                    case measure => simp [intOf]; omega
                  · have hv' : wB x (-1000000) 1000000 = false := by simpa using hv
                    rw [hv']
                    have HO : Hid (outI x = true) := by unfold Hid outI; rw [hv']; rfl
                    clear hv hv'
                    go_wp2_with fail
                    go_ret
                    exact ⟨by rw [R.out,← HP.out,HD.out,HRB.out,← HP2.out,HD2.out,HO.out]; rfl,HBQ2.out⟩
                · have HZ : Hid (rowBad ys.length r = false) := by unfold Hid; rw [HRB.out,← HP2.out,List.drop_eq_nil_of_le (by omega)]; rfl
                  go_wp2_with fail
                  go_roundw
                  case rel => exact ⟨k + 1,by omega,by go_num,by rw [← HP.out,HD.out,HZ.out]; simp,HBR.out.trans (HBQ.out.mono HBR.out.size)⟩
                  case measure => simp [intOf]; omega
          · go_wp2_with fail
            go_ret
            exact ⟨by rw [R.out,← HP.out,List.drop_eq_nil_of_le (by omega)]; rfl,HB2.out.trans (HBR.out.mono HB2.out.size)⟩
    · have hy' : axB ys = false := by simpa using hy
      rw [hy']
      have R : Hid (tabErr xs ys vs = 11) := by unfold Hid tabErr tabB; rw [hy']; simp
      clear hy hy'
      go_wp2_with fail
      go_ret
      exact ⟨by rw [R.out]; rfl,HB2.out⟩
  · have hx' : axB xs = false := by simpa using hx
    rw [hx']
    have R : Hid (tabErr xs ys vs = 11) := by unfold Hid tabErr tabB; rw [hx']; simp
    clear hx hx'
    go_wp2_with fail
    go_ret
    exact ⟨by rw [R.out]; rfl,HB1.out⟩
end Go.Proofs.YtbncpngjclabhaaGreat
/- The law SpansMeets: it returns true; old memory stays. -/
namespace Go.Proofs.YtbncpngjclabhaaGreat
open Go.RowKit

theorem blk {W W' : World} {B : Nat} {o : Obj} (hb : Below W.heap.size W W') (h : W.heap[B]? = some o) : W'.heap[B]? = some o := (hb.block _ (Array.getElem?_eq_some_iff.1 h).1).trans h
theorem blk_lt {W : World} {B : Nat} {o : Obj} (h : W.heap[B]? = some o) : B < W.heap.size := (Array.getElem?_eq_some_iff.1 h).1
theorem blk_new (W : World) (o : Obj) : (W.alloc o).heap[W.heap.size]? = some o := World.alloc_heap_new W o
theorem blk_old {W : World} {B : Nat} {o : Obj} (o' : Obj) (h : W.heap[B]? = some o) : (W.alloc o').heap[B]? = some o := blk ((Below.refl _ W).alloc (Nat.le_refl _) _) h
end Go.Proofs.YtbncpngjclabhaaGreat
