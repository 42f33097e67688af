/- What a round of a range over a function keeps: every block of cells but some of the caller's own. -/
import Derived.Test.YtfaiogajaaclcaaCmp
import Derived.RangeFuncNested
import Derived.RangeFuncBound
import Derived.RangeFuncCalls
import Derived.RangeFuncLeaves
import Derived.Shelf.Abstract
import Derived.Shelf.RegionOpen
import Derived.OwnWalkIn
import Derived.TacticsInMore
import Derived.LoopNIn
import Derived.LoopIn
namespace Go.Proofs.Ytfaiogajaaclcaa
open Go.RowKit Go.Shelf

/-- every block of cells outside n1 .. n2 lies as it lay -/
structure KB (n1 n2 : Nat) (W W' : World) : Prop where
  os : W'.os = W.os
  tape : W'.tape = W.tape
  output : W'.output = W.output
  size : W.heap.size ≤ W'.heap.size
  same : ∀ (k : Nat) (cs : Array Value) (t : TypeId) (fz : Nat × Nat), ¬ (n1 ≤ k ∧ k < n2) → W.heap[k]? = some (.cells cs t fz) → W'.heap[k]? = some (.cells cs t fz)
theorem KB.refl (n1 n2 : Nat) (W : World) : KB n1 n2 W W := ⟨rfl, rfl, rfl, Nat.le_refl _, fun _ _ _ _ _ h => h⟩
theorem KB.trans {n1 n2 : Nat} {A B C : World} (h : KB n1 n2 A B) (k : KB n1 n2 B C) : KB n1 n2 A C :=
  ⟨k.os.trans h.os, k.tape.trans h.tape, k.output.trans h.output, Nat.le_trans h.size k.size, fun i cs t fz hi ho => k.same i cs t fz hi (h.same i cs t fz hi ho)⟩
theorem KB.putObj {n1 n2 : Nat} {W : World} {l : Nat} {o : Obj} (o' : Obj) (h : W.heap[l]? = some o) (hc : o.isCells = false) : KB n1 n2 W (W.putObj l o') :=
  ⟨rfl, rfl, rfl, by simp, fun k cs t fz _ hk => by
    rw [World.putObj_heap_other (fun e => ?_)]
    · exact hk
    · subst e; rw [hk] at h; cases h; simp [Obj.isCells] at hc⟩
theorem KB.of_below {n1 n2 : Nat} {W W' : World} (h : Below W.heap.size W W') : KB n1 n2 W W' :=
  ⟨h.os, h.tape, h.output, h.size, fun k _ _ _ _ hk => (h.block k (Array.getElem?_eq_some_iff.1 hk).1).trans hk⟩
theorem KB.of_grown {n1 n2 : Nat} {W W' : World} {row : Option Nat} (h : W.grownBy W' row) (hr : ∀ r, row = some r → n1 ≤ r ∧ r < n2) : KB n1 n2 W W' :=
  ⟨h.os, h.tape, h.output, h.size, fun k _ _ _ hn hk => (h.block k (Array.getElem?_eq_some_iff.1 hk).1 (fun e => hn (hr k e.symm))).trans hk⟩
theorem KB.setCell {n1 n2 : Nat} (W : World) (p : Addr) (u : Value) (hp : n1 ≤ p.block ∧ p.block < n2) : KB n1 n2 W (W.setCell p u) :=
  ⟨rfl, rfl, rfl, by simp [World.setCell], fun k _ _ _ hn hk => (Below.heap_setCell W p u k (fun e => hn (e ▸ hp))).trans hk⟩
theorem KB.block {n1 n2 : Nat} {W W' : World} (h : KB n1 n2 W W') {b o : Nat} {v : Value} (hb : ¬ (n1 ≤ b ∧ b < n2)) (hc : W.cell? ⟨b, o, none⟩ = some v) : W'.cell? ⟨b, o, none⟩ = some v ∧ W'.frozen? ⟨b, o, none⟩ = W.frozen? ⟨b, o, none⟩ := by
  have : ∃ cs t fz, W.heap[b]? = some (.cells cs t fz) := by
    unfold World.cell? at hc
    cases e : W.heap[b]? with
    | none => simp [e] at hc
    | some ob => cases ob <;> simp [e] at hc ⊢
  obtain ⟨cs, t, fz, hk⟩ := this
  have h2 := h.same b cs t fz hb hk
  have e : W'.heap[b]? = W.heap[b]? := h2.trans hk.symm
  exact ⟨(World.cell?_of_block (w := W) e).trans hc, World.frozen?_of_block (w := W) e⟩
theorem Ints.kb {n1 n2 : Nat} {w W : World} {A : Option Addr} {l : List Int} (h : Ints w A l) (hn : w.heap.size ≤ n1) (hk : KB n1 n2 w W) : Ints W A l := fun hl => by
  obtain ⟨b, off, e, hlt, hc⟩ := h hl
  exact ⟨b, off, e, Nat.lt_of_lt_of_le hlt hk.size, fun k hk' => (hk.block (by omega) (hc k hk')).1⟩
theorem Mat.kb {n1 n2 : Nat} {w W : World} {A : Option Addr} {l : List (List Int)} (h : Mat w A l) (hn : w.heap.size ≤ n1) (hk : KB n1 n2 w W) : Mat W A l := fun hl => by
  obtain ⟨b, off, e, hlt, hc⟩ := h hl
  refine ⟨b, off, e, Nat.lt_of_lt_of_le hlt hk.size, fun k hk' => ?_⟩
  obtain ⟨B, c, h1, h2⟩ := hc k hk'
  exact ⟨B, c, (hk.block (by omega) h1).1, h2.kb hn hk⟩
theorem TabR.kb {n1 n2 : Nat} {w w' : World} {X Y V : Option Addr} {cx cy cv : Nat} {xs ys : List Int} {vs : List (List Int)} (h : TabR w X Y V cx cy cv xs ys vs) (hn : w.heap.size ≤ n1) (hk : KB n1 n2 w w') : TabR w' X Y V cx cy cv xs ys vs :=
  ⟨h.hX.kb hn hk, h.hY.kb hn hk, h.hV.kb hn hk, h.lx, h.ly⟩
/-- the same of a slice of the call's own, beyond n2 -/
def IntsAt (w : World) (b off : Nat) (l : List Int) : Prop := ∀ k, k < l.length → w.cell? ⟨b, off + k, none⟩ = some (.int .i64 (l[k]?.getD 0))
theorem IntsAt.kb {n1 n2 : Nat} {w W : World} {b off : Nat} {l : List Int} (h : IntsAt w b off l) (hn : n2 ≤ b) (hk : KB n1 n2 w W) : IntsAt W b off l := fun k hk' => (hk.block (by omega) (h k hk')).1

/-- a point with its value, its numbers in bounds -/
structure Pt where
  x : Int
  y : Int
  n : Int
  d : Int
  ok : 1 ≤ d ∧ d ≤ 100000000 ∧ -1000000000000000 ≤ n ∧ n ≤ 1000000000000000
def mkPt (x y n d : Int) : Pt := if h : 1 ≤ d ∧ d ≤ 100000000 ∧ -1000000000000000 ≤ n ∧ n ≤ 1000000000000000 then ⟨x, y, n, d, h⟩ else ⟨x, y, 0, 1, by decide⟩
theorem at_bd {xs ys : List Int} {vs : List (List Int)} {x y : Int} (hT : Tbl xs ys vs) (hx : OnAx xs x) (hy : OnAx ys y) :
    1 ≤ atD xs ys x y ∧ atD xs ys x y ≤ 100000000 ∧ -1000000000000000 ≤ atN xs ys vs x y ∧ atN xs ys vs x y ≤ 1000000000000000 := by
  have q1 := hT.ax.cell_on hx
  have q2 := hT.ay.cell_on hy
  unfold atD atN
  generalize cellI xs x = i at *
  generalize cellI ys y = k at *
  have lenv := hT.len
  have b00 := hT.val i k (by omega) (by omega)
  have b01 := hT.val i (k+1) (by omega) (by omega)
  have b10 := hT.val (i+1) k (by omega) (by omega)
  have b11 := hT.val (i+1) (k+1) (by omega) (by omega)
  simp only
  generalize xs[i]?.getD 0 = x0 at *
  generalize xs[i+1]?.getD 0 = x1 at *
  generalize ys[k]?.getD 0 = y0 at *
  generalize ys[k+1]?.getD 0 = y1 at *
  generalize (vs[i]?.getD [])[k]?.getD 0 = z00 at *
  generalize (vs[i]?.getD [])[k+1]?.getD 0 = z01 at *
  generalize (vs[i+1]?.getD [])[k]?.getD 0 = z10 at *
  generalize (vs[i+1]?.getD [])[k+1]?.getD 0 = z11 at *
  obtain ⟨hi, hx0, hx1, hgx, hgx'⟩ := q1
  obtain ⟨hk, hy0, hy1, hgy, hgy'⟩ := q2
  have p1 := mul_bd (a := x1 - x) (b := y1 - y) (A := 10000) (B := 10000) (by omega) (by omega) (by omega) (by omega)
  have p2 := mul_bd (a := x - x0) (b := y1 - y) (A := 10000) (B := 10000) (by omega) (by omega) (by omega) (by omega)
  have p3 := mul_bd (a := x1 - x) (b := y - y0) (A := 10000) (B := 10000) (by omega) (by omega) (by omega) (by omega)
  have p4 := mul_bd (a := x - x0) (b := y - y0) (A := 10000) (B := 10000) (by omega) (by omega) (by omega) (by omega)
  have p5 := mul_bd (a := x1 - x + (x - x0)) (b := y1 - y + (y - y0)) (A := 10000) (B := 10000) (by omega) (by omega) (by omega) (by omega)
  have p6 : 0 < (x1 - x + (x - x0)) * (y1 - y + (y - y0)) := Int.mul_pos (by omega) (by omega)
  have s1 := mul_bd2 (A := 100000000) (B := 1000000) p1.1 (by omega) b00.1 b00.2 (by omega)
  have s2 := mul_bd2 (A := 100000000) (B := 1000000) p2.1 (by omega) b10.1 b10.2 (by omega)
  have s3 := mul_bd2 (A := 100000000) (B := 1000000) p3.1 (by omega) b01.1 b01.2 (by omega)
  have s4 := mul_bd2 (A := 100000000) (B := 1000000) p4.1 (by omega) b11.1 b11.2 (by omega)
  unfold numF denF
  omega
theorem mkPt_at {xs ys : List Int} {vs : List (List Int)} {x y : Int} (hT : Tbl xs ys vs) (hx : OnAx xs x) (hy : OnAx ys y) :
    (mkPt x y (atN xs ys vs x y) (atD xs ys x y)).x = x ∧ (mkPt x y (atN xs ys vs x y) (atD xs ys x y)).y = y ∧ (mkPt x y (atN xs ys vs x y) (atD xs ys x y)).n = atN xs ys vs x y ∧ (mkPt x y (atN xs ys vs x y) (atD xs ys x y)).d = atD xs ys x y := by
  unfold mkPt
  rw [dif_pos (at_bd hT hx hy)]
  exact ⟨rfl, rfl, rfl, rfl⟩
end Go.Proofs.Ytfaiogajaaclcaa
