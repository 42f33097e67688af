/- A copy of a slice, append([]T{}, l...): a new slice of equal elements; nothing old is written. -/
import Derived.Test.YtfaiogajaaclcaaTref2
import Derived.Test.YtfaiogajaaclcaaMeets
import Derived.Deep.RegionLawGrows
import Derived.Deep.RegionHeld3
namespace Go.Proofs.Ytfaiogajaaclcaa
open Go.RowKit

section
variable {P : Program} (w : World)
theorem run_copy_nil {t e : TypeId} {i : TypeInfo} (ty : TypeId) (ht : P.underlying t = some (.slice e)) (hi : P.info? e = some i) (ad : Addr) : (Builtin.append_ #[t, t] ty #[.slice (some ad) 0 0, .slice none 0 0]).run P w = .ok (.slice (some ad) 0 0) w := by
  simp [Builtin.append_, run_underlying ht, sizeOf, typeInfo, hi, Builtin.lenOf, Builtin.firstCells, storeCells]
theorem run_copy_empty {t e : TypeId} {i : TypeInfo} (ty : TypeId) (ht : P.underlying t = some (.slice e)) (hi : P.info? e = some i) (ad a : Addr) (c : Nat) : (Builtin.append_ #[t, t] ty #[.slice (some ad) 0 0, .slice (some a) 0 c]).run P w = .ok (.slice (some ad) 0 0) w := by
  simp [Builtin.append_, run_underlying ht, sizeOf, typeInfo, hi, Builtin.lenOf, Builtin.firstCells, storeCells, loadCells, loadCellsFrom]
/-- what a copy owes: a new slice of so many elements, its cells as given -/
structure Copied (e : TypeId) (size m : Nat) (news : List Value) (w : World) (A : Option Addr) (c : Nat) (w' : World) : Prop where
  len : m ≤ c
  below : Below w.heap.size w w'
  own : 0 < m → w'.ownsRow w.heap.size e size (.slice A m c) m news
theorem run_copy (t ty e : TypeId) (i : TypeInfo) (z : Value) (size bytes : Nat) (ht : P.underlying t = some (.slice e)) (hi : P.info? e = some i) (hz : i.zero = some z)
    (hsize : i.size = size) (hby : i.bytes = bytes) (hzs : z.cells.size = size) (hsz : 0 < size) (ad : Addr) (A : Option Addr) (m c : Nat) (news : List Value) (hl : news.length = m * size)
    (hA : 0 < m → ∃ a, A = some a ∧ ∀ j u, news[j]? = some u → w.cell? (a.add j) = some u) (hn : A = none → c = 0) (h63 : m ≤ maxLen) (hbytes : m * bytes ≤ 140737488355328) :
    ∃ A' c' w', (Builtin.append_ #[t, t] ty #[.slice (some ad) 0 0, .slice A m c]).run P w = .ok (.slice A' m c') w' ∧ Copied e size m news w A' c' w' := by
  rcases Nat.eq_zero_or_pos m with rfl | hm
  · cases A with
    | none =>
      have := hn rfl
      subst this
      exact ⟨some ad, 0, w, run_copy_nil w ty ht hi ad, by simp, Below.refl _ _, fun h => by omega⟩
    | some a => exact ⟨some ad, 0, w, run_copy_empty w ty ht hi ad a c, by simp, Below.refl _ _, fun h => by omega⟩
  · obtain ⟨a, rfl, hc⟩ := hA hm
    obtain ⟨v', w', h1, h2, h3⟩ := run_append_arg_grows (P := P) w t ty e i z size bytes ht hi hz hsize hby hzs hsz ad 0 0 [] (by simp) (fun j u h => by simp at h) a m c news hl hc (by omega) (by simpa using h63) (by simpa using hbytes)
    simp only [Nat.zero_add, List.nil_append] at h2
    have h4 := h2
    obtain ⟨q1, ⟨rfl, h0⟩ | ⟨g, cap, cur, rfl, hb, hg, hcap, hmm, hs, htk⟩⟩ := h4
    · omega
    · exact ⟨some ⟨g, 0, none⟩, cap, w', h1, hcap, ⟨h3.os, h3.tape, h3.output, h3.size, fun k hk => h3.block k hk (by simp)⟩, fun _ => h2⟩
theorem step_copy {ops : Array Oper} {o : Oper} {a : Act} {K : Act → World → Prop} {Q : Exit → Act → World → Prop} {E : Prop} (hg : o.guard = none) (s x : Operand) (t : TypeId)
    (hop : o.op = Op.call { callee := Callee.builtin Builtin.append, args := #[s, x], argTypes := #[t, t] })
    (e : TypeId) (i : TypeInfo) (z : Value) (size bytes : Nat) (ht : P.underlying t = some (.slice e)) (hi : P.info? e = some i) (hz : i.zero = some z)
    (hsize : i.size = size) (hby : i.bytes = bytes) (hzs : z.cells.size = size) (hsz : 0 < size) (ad : Addr) (hs : a.eval s = .slice (some ad) 0 0) (A : Option Addr) (m c : Nat) (hx : a.eval x = .slice A m c) (news : List Value) (hl : news.length = m * size)
    (hA : 0 < m → ∃ a, A = some a ∧ ∀ j u, news[j]? = some u → w.cell? (a.add j) = some u) (hn : A = none → c = 0) (h63 : m ≤ maxLen) (hbytes : m * bytes ≤ 140737488355328)
    (hK : ∀ A' c' w', Copied e size m news w A' c' w' → K (a.put o.dst (.slice A' m c')) w') :
    if Region.wanted o (yielded ops a.tmps) = true then Oper.wp P o a w K Q else E := by
  have hw : Region.wanted o (yielded ops a.tmps) = true := by simp [Region.wanted, hg]
  rw [if_pos hw]
  obtain ⟨A', c', w', hrun, hcp⟩ := run_copy (P := P) w t o.type e i z size bytes ht hi hz hsize hby hzs hsz ad A m c news hl hA hn h63 hbytes
  unfold Oper.wp
  simp [execOp, hop, resolve, invoke, builtin, hs, hx, hrun, Result.andThen]
  exact hK A' c' w' hcp
theorem wpList_copy {ops : Array Oper} {rest : List Oper} {o : Oper} {a : Act} {Q : Exit → Act → World → Prop} (hg : o.guard = none) (s x : Operand) (t : TypeId)
    (hop : o.op = Op.call { callee := Callee.builtin Builtin.append, args := #[s, x], argTypes := #[t, t] })
    (e : TypeId) (i : TypeInfo) (z : Value) (size bytes : Nat) (ht : P.underlying t = some (.slice e)) (hi : P.info? e = some i) (hz : i.zero = some z)
    (hsize : i.size = size) (hby : i.bytes = bytes) (hzs : z.cells.size = size) (hsz : 0 < size) (ad : Addr) (hs : a.eval s = .slice (some ad) 0 0) (A : Option Addr) (m c : Nat) (hx : a.eval x = .slice A m c) (news : List Value) (hl : news.length = m * size)
    (hA : 0 < m → ∃ a, A = some a ∧ ∀ j u, news[j]? = some u → w.cell? (a.add j) = some u) (hn : A = none → c = 0) (h63 : m ≤ maxLen) (hbytes : m * bytes ≤ 140737488355328)
    (hK : ∀ A' c' w', Copied e size m news w A' c' w' → wpList P ops Q rest (a.put o.dst (.slice A' m c')) w') :
    wpList P ops Q (o :: rest) a w := by
  refine wpList_plain hg fun K hK' => ?_
  obtain ⟨A', c', w', hrun, hcp⟩ := run_copy (P := P) w t o.type e i z size bytes ht hi hz hsize hby hzs hsz ad A m c news hl hA hn h63 hbytes
  unfold Oper.wp
  simp [execOp, hop, resolve, invoke, builtin, hs, hx, hrun, Result.andThen]
  exact hK' _ _ (hK A' c' w' hcp)
end
end Go.Proofs.Ytfaiogajaaclcaa
