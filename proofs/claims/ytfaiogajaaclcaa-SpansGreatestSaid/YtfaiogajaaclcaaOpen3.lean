/- Tables and boxes that came in, with what nil slices owe. -/
import Derived.Test.YtfaiogajaaclcaaBox
namespace Go.Proofs.Ytfaiogajaaclcaa
open Go.ChangeShapes Go.WideShapes Go.ChangeAt Go.RowKit Go.Joins Go.Deep

section
variable {H : Type} {enc : TypeId × Value → H} {P : Program} {w : World} {base : Nat} {held : Bool}
theorem ints_openN {t e : TypeId} {fuel : Nat} {cs : List Value} {x : DataW H × List MemPlace} (ht : P.underlying t = some (.slice e)) (he : P.underlying e = some (.int .i64)) (hc : P.cellsOf e = 1)
    (h : DataW.trod enc P w base (fun _ => true) held fuel t cs = some x) : ∃ (A : Option Addr) (l : List Int) (c : Nat), cs = [.slice A l.length c] ∧ Ints w A l ∧ l.length ≤ c ∧ c ≤ maxLen ∧ (A = none → c = 0) := by
  rcases open_ints ht he hc h with ⟨rfl, _⟩ | ⟨a, len, cap, zs, rfl, _, hl, hm, hz, _, hcell, hw⟩
  · exact ⟨none, [], 0, rfl, fun h => by simp at h, by simp, by simp [maxLen], fun _ => rfl⟩
  · simp only [if_true] at hz
    have hlen : (zs.take len).length = len := by simp; omega
    exact ⟨some a, zs.take len, cap, by rw [hlen], ints_at (by omega) hcell, by omega, hm, fun e => by cases e⟩
theorem mat_openN {t e q : TypeId} {fuel : Nat} {cs : List Value} {x : DataW H × List MemPlace} (ht : P.underlying t = some (.slice e)) (he : P.underlying e = some (.slice q)) (hq : P.underlying q = some (.int .i64)) (ce : P.cellsOf e = 1) (cq : P.cellsOf q = 1)
    (h : DataW.trod enc P w base (fun _ => true) held fuel t cs = some x) : ∃ (A : Option Addr) (l : List (List Int)) (c : Nat), cs = [.slice A l.length c] ∧ MatN w A l ∧ l.length ≤ c ∧ c ≤ maxLen ∧ (∀ r ∈ l, r.length ≤ maxLen) := by
  rcases open_int_rows ht he hq ce cq h with ⟨rfl, _⟩ | ⟨a, len, cap, A, L, C, Z, rfl, _, hl, hm, _, hr⟩
  · exact ⟨none, [], 0, rfl, fun h => by simp at h, by simp, by simp [maxLen], by simp⟩
  · have hlen : ((List.range len).map fun r => (Z r).take (L r)).length = len := by simp
    refine ⟨some a, (List.range len).map fun r => (Z r).take (L r), cap, by rw [hlen], fun h0 => ?_, by omega, hm, fun r hr' => ?_⟩
    · rw [hlen] at h0
      obtain ⟨c0, _⟩ := hr 0 (by omega)
      have ha := addr_of_cell c0
      refine ⟨a.block, a.off, by rw [← ha], by have := blk_of_cell c0; simpa [Addr.add] using this, fun k hk => ?_⟩
      rw [hlen] at hk
      obtain ⟨c1, c2, c3, c4, c5, c6, c7⟩ := hr k (by omega)
      replace c1 := add_eq c0 c1
      have e : ((List.range len).map fun r => (Z r).take (L r))[k]?.getD [] = (Z k).take (L k) := by simp [hk]
      have e2 : ((Z k).take (L k)).length = L k := by simp; omega
      rw [e, e2]
      refine ⟨A k, C k, c1, ?_, c6⟩
      cases hA : A k with
      | none =>
        intro h
        have := c6 hA
        omega
      | some a' => exact ints_at (by omega) (fun i hi => (c7 a' hA).2 i (by omega))
    · obtain ⟨k, hk, rfl⟩ := List.mem_map.1 hr'
      have hk' : k < len := by simpa using hk
      obtain ⟨c1, c2, c3, c4, c5, c6, c7⟩ := hr k (by omega)
      simp; omega
end
theorem MatN.mat {w : World} {A : Option Addr} {l : List (List Int)} (h : MatN w A l) : Mat w A l := fun hl => by
  obtain ⟨b, off, e, hlt, hc⟩ := h hl
  refine ⟨b, off, e, hlt, fun k hk => ?_⟩
  obtain ⟨B, c, h1, h2, _⟩ := hc k hk
  exact ⟨B, c, h1, h2⟩
set_option maxRecDepth 100000 in
theorem Try.open_tableN {H : Type} {enc : TypeId × Value → H} {w : World} {r : Reach} {b0 base : Nat} {held : Bool} {v : Value} {d : DataW H} {ps : List MemPlace}
    (hv : Value.okWide Try.prog w r b0 25 v) (h : DataW.Trod enc Try.prog w base (fun _ => true) held 25 v d ps) :
    ∃ (X Y V : Option Addr) (cx cy cv : Nat) (xs ys : List Int) (vs : List (List Int)), v = .agg #[.slice X xs.length cx, .slice Y ys.length cy, .slice V vs.length cv] ∧ TabR w X Y V cx cy cv xs ys vs ∧ TSm xs ys vs ∧ TabN w X Y V cx cy cv xs ys vs := by
  obtain ⟨c0, c1, c2, y0, y1, y2, m, rfl, _, _, h0, h1, h2⟩ := open_agg3 Try.underlying25 (by kernel_rfl) (by kernel_rfl) hv h
  obtain ⟨X, xs, cx, e0, hX, lx, mx, nx⟩ := ints_openN Try.underlying22 Try.underlying3 (by kernel_rfl) h0
  obtain ⟨Y, ys, cy, e1, hY, ly, my, ny⟩ := ints_openN Try.underlying22 Try.underlying3 (by kernel_rfl) h1
  obtain ⟨V, vs, cv, e2, hV, lv, mv, hr⟩ := mat_openN Try.underlying23 Try.underlying22 Try.underlying3 (by kernel_rfl) (by kernel_rfl) h2
  simp only [List.cons.injEq, and_true] at e0 e1 e2
  subst e0 e1 e2
  exact ⟨X, Y, V, cx, cy, cv, xs, ys, vs, rfl, ⟨hX, hY, hV.mat, lx, ly⟩, ⟨by omega, by omega, by omega, hr⟩, ⟨nx, ny, hV⟩⟩
set_option maxRecDepth 100000 in
theorem Try.open_box {H : Type} {enc : TypeId × Value → H} {w : World} {r : Reach} {b0 base : Nat} {held : Bool} {v : Value} {d : DataW H} {ps : List MemPlace}
    (hv : Value.okWide Try.prog w r b0 38 v) (h : DataW.Trod enc Try.prog w base (fun _ => true) held 38 v d ps) :
    ∃ (A : Option Addr) (l : List (Int × Int)) (c : Nat), v = .slice A l.length c ∧ Sps w A l ∧ l.length ≤ c ∧ c ≤ maxLen ∧ (A = none → c = 0) := by
  obtain ⟨a, len, cap, rfl⟩ := okWide_slice Try.underlying38 hv
  obtain ⟨fuel, hf⟩ := h
  obtain ⟨A, l, c, e, h1, h2, h3, h4⟩ := sps_open Try.underlying38 Try.allSpan (by kernel_rfl) hf
  simp [Value.cells] at e
  obtain ⟨rfl, rfl, rfl⟩ := e
  exact ⟨_, l, _, rfl, h1, h2, h3, h4⟩
end Go.Proofs.Ytfaiogajaaclcaa
