/- Arguments of plain make, opened: aggregates of ints; tables. -/
import Derived.Test.YtfaiogajaaclcaaChk
import Derived.ProofKit
import Derived.OpenShut
import Derived.ChangeOld
import Derived.Below
import Derived.Lib.SmallJoins
import Derived.Deep.Matrix
namespace Go.Proofs.Ytfaiogajaaclcaa
open Go.ChangeShapes Go.WideShapes Go.ChangeAt Go.RowKit Go.Joins Go.Deep

theorem Try.own : ownKnob Try.prog.godebug = none := by kernel_rfl
theorem Try.laidOut : laidOutB Try.prog = true := by kernel_rfl
def AllI (P : Program) (t : TypeId) (n : Nat) : Prop := ∀ {H : Type} (enc : TypeId × Value → H) (w : World) (base : Nat) (spare : Nat → Bool) (held : Bool) (fuel : Nat) (cs : List Value) (x : DataW H × List MemPlace),
  DataW.trod enc P w base spare held fuel t cs = some x → cs.length = n ∧ ∀ c ∈ cs, ∃ a, c = Value.int .i64 a ∧ (Lit.int .i64 a).wf = true
section
variable {P : Program}
theorem allI_int {t : TypeId} (ht : P.underlying t = some (.int .i64)) : AllI P t 1 := fun enc w base spare held fuel cs x h => by
  obtain ⟨n, rfl, _, hw⟩ := DataW.trod_int ht h
  exact ⟨rfl, fun c hc => ⟨n, by simpa using hc, hw⟩⟩
theorem allI_array {t e : TypeId} {n m : Nat} (ht : P.underlying t = some (.array n e)) (he : AllI P e m) (hc : P.cellsOf e = m) (hct : P.cellsOf t = n * m) : AllI P t (n * m) := fun enc w base spare held fuel cs x h => by
  obtain ⟨xs, k, rfl, _, hl, hx, hi⟩ := DataW.trod_array ht h
  rw [hct] at hl
  refine ⟨hl, fun c hcm => ?_⟩
  obtain ⟨j, hj, rfl⟩ := List.getElem_of_mem hcm
  have hm : 0 < m := by
    rcases Nat.eq_zero_or_pos m with h0 | h0
    · subst h0; omega
    · exact h0
  have hin : j / m < n := Nat.div_lt_of_lt_mul (by rw [Nat.mul_comm]; omega)
  have h1 := hi (j / m) hin
  rw [hc, List.getElem?_eq_getElem (by omega)] at h1
  obtain ⟨_, h3⟩ := he enc w base spare held _ _ _ h1
  refine h3 _ ?_
  have hd := Nat.div_add_mod j m
  have hml := Nat.mod_lt j hm
  rw [Nat.mul_comm] at hd
  refine List.mem_iff_getElem?.2 ⟨j % m, ?_⟩
  rw [List.getElem?_take, if_pos hml, List.getElem?_drop, hd, List.getElem?_eq_getElem hj]
theorem allI_struct {t : TypeId} {fs : Array Field} {n : Nat} (ht : P.underlying t = some (.struct fs)) (hct : P.cellsOf t = n)
    (hf : ∀ j, j < n → ∃ (i : Nat) (f : Field) (m : Nat), fs[i]? = some f ∧ f.offset ≤ j ∧ j < f.offset + m ∧ AllI P f.type m ∧ P.cellsOf f.type = m) : AllI P t n := fun enc w base spare held fuel cs x h => by
  obtain ⟨xs, k, rfl, _, hl, hx, hi⟩ := DataW.trod_struct ht h
  rw [hct] at hl
  refine ⟨hl, fun c hcm => ?_⟩
  obtain ⟨j, hj, rfl⟩ := List.getElem_of_mem hcm
  obtain ⟨i, f, m, h1, h2, h3, h4, h5⟩ := hf j (by omega)
  have h6 := hi i f h1
  have hil : i < fs.size := (Array.getElem?_eq_some_iff.1 h1).1
  rw [h5, List.getElem?_eq_getElem (by omega)] at h6
  obtain ⟨_, h7⟩ := h4 enc w base spare held _ _ _ h6
  refine h7 _ ?_
  refine List.mem_iff_getElem?.2 ⟨j - f.offset, ?_⟩
  rw [List.getElem?_take, if_pos (by omega), List.getElem?_drop, show f.offset + (j - f.offset) = j by omega, List.getElem?_eq_getElem hj]
end
theorem Try.allInt : AllI Try.prog 3 1 := allI_int Try.underlying3
theorem Try.allSpan : AllI Try.prog 27 2 := allI_struct Try.underlying27 (by kernel_rfl) (fun j hj => by
  match j, hj with
  | 0, _ => exact ⟨0, _, 1, rfl, by decide, by decide, Try.allInt, by kernel_rfl⟩
  | 1, _ => exact ⟨1, _, 1, rfl, by decide, by decide, Try.allInt, by kernel_rfl⟩)
section
variable {H : Type} {enc : TypeId × Value → H} {P : Program} {w : World} {r : Reach} {b0 base : Nat} {spare : Nat → Bool} {held : Bool} {v : Value} {d : DataW H} {ps : List MemPlace}
theorem list_ints {l : List Value} (h : ∀ c ∈ l, ∃ a, c = Value.int .i64 a ∧ (Lit.int .i64 a).wf = true) : ∃ zs : List Int, l = zs.map (Value.int .i64) ∧ ∀ a ∈ zs, (Lit.int .i64 a).wf = true := by
  induction l with
  | nil => exact ⟨[], rfl, by simp⟩
  | cons c l ih =>
    obtain ⟨zs, h1, h2⟩ := ih (fun c hc => h c (by simp [hc]))
    obtain ⟨a, ha, hw⟩ := h c (by simp)
    exact ⟨a :: zs, by rw [ha, h1]; rfl, fun b hb => by
      rcases List.mem_cons.1 hb with rfl | hb
      · exact hw
      · exact h2 b hb⟩
theorem agg_ints {t : TypeId} {n : Nat} (ha : AllI P t n) (hv : ∃ cs, v = .agg cs) (h : DataW.Trod enc P w base spare held t v d ps) : ∃ zs : List Int, v = .agg (zs.map (Value.int .i64)).toArray ∧ zs.length = n ∧ ∀ a ∈ zs, (Lit.int .i64 a).wf = true := by
  obtain ⟨cs, rfl⟩ := hv
  obtain ⟨fuel, hf⟩ := h
  obtain ⟨h1, h2⟩ := ha enc w base spare held _ _ _ hf
  obtain ⟨zs, h3, h4⟩ := list_ints h2
  refine ⟨zs, ?_, ?_, h4⟩
  · rw [← h3]; rfl
  · rw [h3] at h1; simpa using h1
theorem agg_struct {t : TypeId} {fs : Array Field} (ht : P.underlying t = some (.struct fs)) (hv : Value.okWide P w r b0 t v) : ∃ cs, v = .agg cs := by
  obtain ⟨cs, h, _⟩ := okWide_struct ht hv
  exact ⟨cs, h⟩
theorem agg_array {t e : TypeId} {n : Nat} (ht : P.underlying t = some (.array n e)) (hv : Value.okWide P w r b0 t v) : ∃ cs, v = .agg cs := by
  simp only [Value.okWide, ht] at hv
  obtain ⟨cs, h, _⟩ := hv
  exact ⟨cs, h⟩
theorem blk_of_cell {W : World} {a : Addr} {u : Value} (h : W.cell? a = some u) : a.block < W.heap.size := by
  obtain ⟨o, ho, _⟩ := cells_of_cell h
  exact (Array.getElem?_eq_some_iff.1 ho).1
theorem addr_of_cell {W : World} {a : Addr} {u : Value} (h : W.cell? (a.add 0) = some u) : a = ⟨a.block, a.off, none⟩ := by
  have := World.cell?_spot h
  obtain ⟨b, off, spot⟩ := a
  simpa [Addr.add] using this
theorem add_eq {W : World} {a : Addr} {i : Nat} {u v : Value} (h0 : W.cell? (a.add 0) = some u) (h : W.cell? (a.add i) = some v) : W.cell? ⟨a.block, a.off + i, none⟩ = some v := by
  have ha := addr_of_cell h0
  rw [ha] at h
  by_cases hi : i = 0
  · subst hi; simpa [Addr.add] using h
  · simpa [Addr.add, hi] using h
/-- cells of ints from an address on -/
theorem ints_at {a : Addr} {zs : List Int} {len : Nat} (hl : len ≤ zs.length) (hc : ∀ i, i < zs.length → w.cell? (a.add i) = some (.int .i64 (zs.getD i 0))) : Ints w (some a) (zs.take len) := fun h0 => by
  have hlen : (zs.take len).length = len := by simp; omega
  rw [hlen] at h0
  have c0 := hc 0 (by omega)
  have ha := addr_of_cell c0
  refine ⟨a.block, a.off, by rw [← ha], by have := blk_of_cell c0; simpa [Addr.add] using this, fun k hk => ?_⟩
  rw [hlen] at hk
  rw [add_eq c0 (hc k (by omega)), List.getElem?_take, if_pos hk]
  simp
theorem ints_open {t e : TypeId} {fuel : Nat} {cs : List Value} {x : DataW H × List MemPlace} (ht : P.underlying t = some (.slice e)) (he : P.underlying e = some (.int .i64)) (hc : P.cellsOf e = 1)
    (h : DataW.trod enc P w base (fun _ => true) held fuel t cs = some x) : ∃ (A : Option Addr) (l : List Int) (c : Nat), cs = [.slice A l.length c] ∧ Ints w A l ∧ l.length ≤ c ∧ c ≤ maxLen ∧ ∀ a ∈ l, (Lit.int .i64 a).wf = true := by
  rcases open_ints ht he hc h with ⟨rfl, _⟩ | ⟨a, len, cap, zs, rfl, _, hl, hm, hz, _, hcell, hw⟩
  · exact ⟨none, [], 0, rfl, fun h => by simp at h, by simp, by simp [maxLen], by simp⟩
  · simp only [if_true] at hz
    have hlen : (zs.take len).length = len := by simp; omega
    exact ⟨some a, zs.take len, cap, by rw [hlen], ints_at (by omega) hcell, by omega, hm, fun n hn => hw n (List.mem_of_mem_take hn)⟩
theorem mat_open {t e q : TypeId} {fuel : Nat} {cs : List Value} {x : DataW H × List MemPlace} (ht : P.underlying t = some (.slice e)) (he : P.underlying e = some (.slice q)) (hq : P.underlying q = some (.int .i64)) (ce : P.cellsOf e = 1) (cq : P.cellsOf q = 1)
    (h : DataW.trod enc P w base (fun _ => true) held fuel t cs = some x) : ∃ (A : Option Addr) (l : List (List Int)) (c : Nat), cs = [.slice A l.length c] ∧ Mat w A l ∧ l.length ≤ c ∧ c ≤ maxLen ∧ ∀ r ∈ l, r.length ≤ maxLen ∧ ∀ a ∈ r, (Lit.int .i64 a).wf = true := by
  rcases open_int_rows ht he hq ce cq h with ⟨rfl, _⟩ | ⟨a, len, cap, A, L, C, Z, rfl, _, hl, hm, _, hr⟩
  · exact ⟨none, [], 0, rfl, fun h => by simp at h, by simp, by simp [maxLen], by simp⟩
  · have hlen : ((List.range len).map fun r => (Z r).take (L r)).length = len := by simp
    refine ⟨some a, (List.range len).map fun r => (Z r).take (L r), cap, by rw [hlen], fun h0 => ?_, by omega, hm, fun r hr' => ?_⟩
    · rw [hlen] at h0
      obtain ⟨c0, _⟩ := hr 0 (by omega)
      have ha := addr_of_cell c0
      refine ⟨a.block, a.off, by rw [← ha], by have := blk_of_cell c0; simpa [Addr.add] using this, fun k hk => ?_⟩
      rw [hlen] at hk
      obtain ⟨c1, c2, c3, c4, c5, c6, c7⟩ := hr k (by omega)
      replace c1 := add_eq c0 c1
      have e : ((List.range len).map fun r => (Z r).take (L r))[k]?.getD [] = (Z k).take (L k) := by simp [hk]
      have e2 : ((Z k).take (L k)).length = L k := by simp; omega
      rw [e, e2]
      refine ⟨A k, C k, c1, ?_⟩
      cases hA : A k with
      | none =>
        intro h
        have := c6 hA
        omega
      | some a' => exact ints_at (by omega) (fun i hi => (c7 a' hA).2 i (by omega))
    · obtain ⟨k, hk, rfl⟩ := List.mem_map.1 hr'
      have hk' : k < len := by simpa using hk
      obtain ⟨c1, c2, c3, c4, c5, c6, c7⟩ := hr k (by omega)
      exact ⟨by simp; omega, fun n hn => c5 n (List.mem_of_mem_take hn)⟩
end
set_option maxRecDepth 10000 in
theorem wf_bd {a : Int} (h : (Lit.int .i64 a).wf = true) : -9223372036854775808 ≤ a ∧ a ≤ 9223372036854775807 := by
  simp [Lit.wf, IntKind.min, IntKind.max, IntKind.signed, IntKind.bits] at h
  omega
/-- no length beyond what memory holds -/
structure TSm (xs ys : List Int) (vs : List (List Int)) : Prop where
  x : xs.length ≤ maxLen
  y : ys.length ≤ maxLen
  v : vs.length ≤ maxLen
  r : ∀ r ∈ vs, r.length ≤ maxLen
set_option maxRecDepth 100000 in
/-- a table that came in -/
theorem Try.open_table {H : Type} {enc : TypeId × Value → H} {w : World} {r : Reach} {b0 base : Nat} {held : Bool} {v : Value} {d : DataW H} {ps : List MemPlace}
    (hv : Value.okWide Try.prog w r b0 25 v) (h : DataW.Trod enc Try.prog w base (fun _ => true) held 25 v d ps) :
    ∃ (X Y V : Option Addr) (cx cy cv : Nat) (xs ys : List Int) (vs : List (List Int)), v = .agg #[.slice X xs.length cx, .slice Y ys.length cy, .slice V vs.length cv] ∧ TabR w X Y V cx cy cv xs ys vs ∧ TSm xs ys vs := by
  obtain ⟨c0, c1, c2, y0, y1, y2, m, rfl, _, _, h0, h1, h2⟩ := open_agg3 Try.underlying25 (by kernel_rfl) (by kernel_rfl) hv h
  obtain ⟨X, xs, cx, e0, hX, lx, mx, _⟩ := ints_open Try.underlying22 Try.underlying3 (by kernel_rfl) h0
  obtain ⟨Y, ys, cy, e1, hY, ly, my, _⟩ := ints_open Try.underlying22 Try.underlying3 (by kernel_rfl) h1
  obtain ⟨V, vs, cv, e2, hV, lv, mv, hr⟩ := mat_open Try.underlying23 Try.underlying22 Try.underlying3 (by kernel_rfl) (by kernel_rfl) h2
  simp only [List.cons.injEq, and_true] at e0 e1 e2
  subst e0 e1 e2
  exact ⟨X, Y, V, cx, cy, cv, xs, ys, vs, rfl, ⟨hX, hY, hV, lx, ly⟩, ⟨by omega, by omega, by omega, fun r hm => (hr r hm).1⟩⟩
end Go.Proofs.Ytfaiogajaaclcaa
