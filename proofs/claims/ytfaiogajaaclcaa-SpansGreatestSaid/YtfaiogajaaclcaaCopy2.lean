/- The contract of the reference's Copy: an equal table in new memory; nothing old is written. -/
import Derived.Test.YtfaiogajaaclcaaCopy
namespace Go.Proofs.Ytfaiogajaaclcaa
open Go.RowKit

/-- a slice of ints in a row of its own -/
def OwnI (base : Nat) (w : World) (A : Option Addr) (c : Nat) (l : List Int) : Prop := 0 < l.length → w.ownsRow base 3 1 (.slice A l.length c) l.length (IV l)
theorem OwnI.ints {base : Nat} {w : World} {A : Option Addr} {c : Nat} {l : List Int} (h : OwnI base w A c l) : Ints w A l := fun hl => by
  obtain ⟨A', c', e, hI, _⟩ := ints_of_own (h hl)
  cases e
  exact hI hl
theorem grown_of_below {W W' : World} (hb : Below W.heap.size W W') : W.grownBy W' none := ⟨hb.os, hb.tape, hb.output, hb.size, fun k hk _ => hb.block k hk⟩
/-- a step that turns no block of ints keeps it -/
theorem OwnI.step {base : Nat} {W W' : World} {A : Option Addr} {c : Nat} {l : List Int} {row : Option Nat} (h : OwnI base W A c l) (hg : W.grownBy W' row) (hr : ∀ g cs fz, row = some g → W.heap[g]? = some (.cells cs 3 fz) → False) : OwnI base W' A c l := fun hl => by
  have h1 := h hl
  refine h1.kept hg ?_
  obtain ⟨_, ⟨e, _⟩ | ⟨g, cap, cur, e, hb, hgb, _⟩⟩ := h1
  · left; rw [e]; rfl
  · right
    intro e'
    rw [e] at e'
    exact hr g _ _ (by simpa [Value.ownBlock] using e'.symm) hgb
theorem OwnI.below {base : Nat} {W W' : World} {A : Option Addr} {c : Nat} {l : List Int} (h : OwnI base W A c l) (hb : Below W.heap.size W W') : OwnI base W' A c l := h.step (grown_of_below hb) (fun g cs fz e => by cases e)
theorem OwnI.mono {b1 b2 : Nat} {w : World} {A : Option Addr} {c : Nat} {l : List Int} (h : OwnI b1 w A c l) (hb : b2 ≤ b1) : OwnI b2 w A c l := fun hl => by
  obtain ⟨h1, ⟨e, h0⟩ | ⟨g, cap, cur, e, hbg, rest⟩⟩ := h hl
  · exact ⟨h1, .inl ⟨e, h0⟩⟩
  · exact ⟨h1, .inr ⟨g, cap, cur, e, by omega, rest⟩⟩
theorem grownBy_set (W : World) (b o : Nat) (v : Value) : W.grownBy (W.setCell ⟨b, o, none⟩ v) (some b) :=
  ⟨rfl, rfl, rfl, by simp [World.setCell], fun k _ hk => Below.heap_setCell W ⟨b, o, none⟩ v k (fun e => hk (by rw [e]))⟩
theorem own_type {base : Nat} {W : World} {e : TypeId} {s n : Nat} {v : Value} {xs : List Value} (h : W.ownsRow base e s v n xs) : ∀ g, v.ownBlock = some g → ∃ cs, W.heap[g]? = some (.cells cs e (0, 0)) := by
  intro g hg
  obtain ⟨_, ⟨rfl, _⟩ | ⟨g', cap, cur, rfl, hb, hgb, _⟩⟩ := h
  · simp [Value.ownBlock] at hg
  · simp [Value.ownBlock] at hg
    subst hg
    exact ⟨cur, hgb⟩
/-- rows, each in a row of its own -/
def OwnRows (base : Nat) (w : World) (rs : List Value) (l : List (List Int)) : Prop := rs.length = l.length ∧ ∀ k, k < l.length → ∃ B c, rs[k]? = some (.slice B (l[k]?.getD []).length c) ∧ (l[k]?.getD []).length ≤ c ∧ OwnI base w B c (l[k]?.getD [])
theorem OwnRows.step {base : Nat} {W W' : World} {rs : List Value} {l : List (List Int)} {row : Option Nat} (h : OwnRows base W rs l) (hg : W.grownBy W' row) (hr : ∀ g cs fz, row = some g → W.heap[g]? = some (.cells cs 3 fz) → False) : OwnRows base W' rs l :=
  ⟨h.1, fun k hk => by obtain ⟨B, c, h1, h2, h3⟩ := h.2 k hk; exact ⟨B, c, h1, h2, h3.step hg hr⟩⟩
theorem OwnRows.snoc {base : Nat} {W : World} {rs : List Value} {l : List (List Int)} {r : List Int} {B : Option Addr} {c : Nat} (h : OwnRows base W rs l) (hc : r.length ≤ c) (ho : OwnI base W B c r) : OwnRows base W (rs ++ [.slice B r.length c]) (l ++ [r]) := by
  refine ⟨by simp [h.1], fun k hk => ?_⟩
  rcases Nat.lt_or_ge k l.length with hlt | hge
  · obtain ⟨B', c', h1, h2, h3⟩ := h.2 k hlt
    have e : (l ++ [r])[k]?.getD [] = l[k]?.getD [] := by rw [List.getElem?_append_left hlt]
    rw [e, List.getElem?_append_left (by rw [h.1]; exact hlt)]
    exact ⟨B', c', h1, h2, h3⟩
  · have hk' : k = l.length := by simp at hk; omega
    subst hk'
    have e : (l ++ [r])[l.length]?.getD [] = r := by simp
    rw [e, ← h.1]
    exact ⟨B, c, by simp, hc, ho⟩
/-- what lies in a matrix whose row of slices is its own -/
theorem mat_of_own {base : Nat} {W : World} {e : TypeId} {v : Value} {rs : List Value} {l : List (List Int)} (h : W.ownsRow base e 1 v l.length rs) (hr : OwnRows base W rs l) : ∃ V c, v = .slice V l.length c ∧ Mat W V l := by
  obtain ⟨h1, ⟨rfl, h0⟩ | ⟨g, cap, cur, rfl, hb, hg, hc, hm, hs, ht⟩⟩ := h
  · exact ⟨none, 0, by rw [h0], fun hl => by omega⟩
  · refine ⟨some ⟨g, 0, none⟩, cap, rfl, fun _ => ⟨g, 0, rfl, (Array.getElem?_eq_some_iff.1 hg).1, fun k hk => ?_⟩⟩
    obtain ⟨B, c, h2, h3, h4⟩ := hr.2 k hk
    refine ⟨B, c, ?_, h4.ints⟩
    rw [cell_of_row W g (0 + k) cur e (0, 0) hg, Nat.zero_add, ← Array.getElem?_toList]
    have h5 : (cur.toList.take (l.length * 1))[k]? = rs[k]? := by rw [ht]
    rw [List.getElem?_take, if_pos (by omega)] at h5
    rw [h5, h2]
/-- nil slices have no room -/
def MatN (w : World) (A : Option Addr) (l : List (List Int)) : Prop :=
  0 < l.length → ∃ b off, A = some ⟨b, off, none⟩ ∧ b < w.heap.size ∧ ∀ k, k < l.length → ∃ B c, w.cell? ⟨b, off + k, none⟩ = some (.slice B (l[k]?.getD []).length c) ∧ Ints w B (l[k]?.getD []) ∧ (B = none → c = 0)
structure TabN (w : World) (X Y V : Option Addr) (cx cy cv : Nat) (xs ys : List Int) (vs : List (List Int)) : Prop where
  nx : X = none → cx = 0
  ny : Y = none → cy = 0
  mv : MatN w V vs
theorem MatN.below {w w' : World} {A : Option Addr} {l : List (List Int)} (h : MatN w A l) (hb : Below w.heap.size w w') : MatN w' A l := fun hl => by
  obtain ⟨b, off, e, hlt, hc⟩ := h hl
  refine ⟨b, off, e, Nat.lt_of_lt_of_le hlt hb.size, fun k hk => ?_⟩
  obtain ⟨B, c, h1, h2, h3⟩ := hc k hk
  exact ⟨B, c, (hb.cell (p := ⟨b, off + k, none⟩) hlt).trans h1, h2.below hb, h3⟩
theorem TabN.below {w w' : World} {X Y V : Option Addr} {cx cy cv : Nat} {xs ys : List Int} {vs : List (List Int)} (h : TabN w X Y V cx cy cv xs ys vs) (hb : Below w.heap.size w w') : TabN w' X Y V cx cy cv xs ys vs := ⟨h.nx, h.ny, h.mv.below hb⟩
/-- the cells of a slice of ints, as a copy wants them -/
theorem ints_cells {w : World} {A : Option Addr} {l : List Int} (h : Ints w A l) : 0 < l.length → ∃ a, A = some a ∧ ∀ j u, (IV l)[j]? = some u → w.cell? (a.add j) = some u := fun hl => by
  obtain ⟨b, off, rfl, hlt, hc⟩ := h hl
  refine ⟨_, rfl, fun j u hu => ?_⟩
  have hj : j < l.length := by
    have := (List.getElem?_eq_some_iff.1 hu).1
    simpa [IV] using this
  have := hc j hj
  have e : (IV l)[j]? = some (.int .i64 (l[j]?.getD 0)) := by simp [IV, hj]
  rw [e] at hu
  cases hu
  by_cases h0 : j = 0
  · subst h0; simpa [Addr.add] using this
  · simpa [Addr.add, h0] using this
theorem IV_one (l : List Int) : ∀ u ∈ IV l, u.oneCell' = true := by
  intro u hu
  simp [IV] at hu
  obtain ⟨a, _, rfl⟩ := hu
  rfl
theorem OwnI.of_copied {W W' : World} {l : List Int} {A : Option Addr} {c : Nat} (h : Copied 3 1 l.length (IV l) W A c W') : OwnI W.heap.size W' A c l := fun hl => h.own hl
theorem bel_step {W0 P w5 : World} (h : Below W0.heap.size W0 P) (h' : Below P.heap.size P w5) : Below W0.heap.size W0 w5 := h.trans (h'.mono h.size)
theorem copied_in {W0 P w5 : World} {l : List Int} {A : Option Addr} {c : Nat} (h : Below W0.heap.size W0 P) (hcp : Copied 3 1 l.length (IV l) P A c w5) : Below W0.heap.size W0 w5 ∧ Below P.heap.size P w5 ∧ OwnI W0.heap.size w5 A c l ∧ l.length ≤ c :=
  ⟨h.trans (hcp.below.mono h.size), hcp.below, (OwnI.of_copied hcp).mono h.size, hcp.len⟩
theorem put3_same {W : World} {B : Nat} {x0 x1 x2 : Value} {t : TypeId} (a b c : Value) (h : W.heap[B]? = some (.cells #[x0, x1, x2] t)) : (((W.setCell ⟨B, 0, none⟩ a).setCell ⟨B, 1, none⟩ b).setCell ⟨B, 2, none⟩ c).heap[B]? = some (.cells #[a, b, c] t) :=
  heap_set_same 2 c (heap_set_same 1 b (heap_set_same 0 a h))
theorem put3_grown (W : World) (B : Nat) (a b c : Value) : W.grownBy (((W.setCell ⟨B, 0, none⟩ a).setCell ⟨B, 1, none⟩ b).setCell ⟨B, 2, none⟩ c) (some B) :=
  ⟨rfl, rfl, rfl, by simp [World.setCell], fun k hk hne => by
    have hn : k ≠ B := fun e => hne (by rw [e])
    rw [Below.heap_setCell _ ⟨B, 2, none⟩ c k hn, Below.heap_setCell _ ⟨B, 1, none⟩ b k hn, Below.heap_setCell _ ⟨B, 0, none⟩ a k hn]⟩
theorem below_of_grown {W W' : World} {row : Option Nat} {w : World} (h : Below w.heap.size w W) (hg : W.grownBy W' row) (hr : ∀ k, row = some k → w.heap.size ≤ k) : Below w.heap.size w W' := h.grown hg h.size hr
/-- what the first statement of Copy leaves -/
def CpMid (xs ys : List Int) (W0 : World) (s3 : Value) (wx : World) : Prop :=
  ∃ ob A c A' c', s3 = .pointer (some ⟨ob, 0, none⟩) ∧ W0.heap.size ≤ ob ∧ wx.heap[ob]? = some (.cells #[.slice A xs.length c, .slice A' ys.length c', .slice none 0 0] 25) ∧ (OwnI W0.heap.size wx A c xs ∧ xs.length ≤ c) ∧ (OwnI W0.heap.size wx A' c' ys ∧ ys.length ≤ c') ∧ Below W0.heap.size W0 wx
/-- the table's box is laid before the last copy: its cells are set -/
theorem cpMid_set {xs ys : List Int} {W0 W : World} {ob : Nat} {A A' : Option Addr} {c c' : Nat} {z0 z1 z2 : Value} (hle : W0.heap.size ≤ ob) (hob : W.heap[ob]? = some (.cells #[z0, z1, z2] 25)) (h1 : OwnI W0.heap.size W A c xs) (h2 : xs.length ≤ c) (h3 : OwnI W0.heap.size W A' c' ys) (h4 : ys.length ≤ c') (hb : Below W0.heap.size W0 W) :
    CpMid xs ys W0 (.pointer (some ⟨ob, 0, none⟩)) (((W.setCell ⟨ob, 0, none⟩ (.slice A xs.length c)).setCell ⟨ob, 1, none⟩ (.slice A' ys.length c')).setCell ⟨ob, 2, none⟩ (.slice none 0 0)) :=
  have hr : ∀ (g : Nat) (cs : Array Value) (fz : Nat × Nat), some ob = some g → W.heap[g]? = some (.cells cs 3 fz) → False := fun g cs fz e h => by cases e; rw [hob] at h; simp at h
  ⟨ob, A, c, A', c', rfl, hle, put3_same _ _ _ hob, ⟨h1.step (put3_grown _ _ _ _ _) hr, h2⟩, ⟨h3.step (put3_grown _ _ _ _ _) hr, h4⟩, below_of_grown hb (put3_grown _ _ _ _ _) (fun k e => by cases e; exact hle)⟩
theorem cpMid_new {xs ys : List Int} {W0 W : World} {A A' : Option Addr} {c c' : Nat} (h1 : OwnI W0.heap.size W A c xs) (h2 : xs.length ≤ c) (h3 : OwnI W0.heap.size W A' c' ys) (h4 : ys.length ≤ c') (hb : Below W0.heap.size W0 W) :
    CpMid xs ys W0 (.pointer (some ⟨W.heap.size, 0, none⟩)) (W.alloc (.cells #[.slice A xs.length c, .slice A' ys.length c', .slice none 0 0] 25)) :=
  ⟨W.heap.size, A, c, A', c', rfl, hb.size, World.alloc_heap_new _ _, ⟨h1.below ((Below.refl _ _).alloc (Nat.le_refl _) _), h2⟩, ⟨h3.below ((Below.refl _ _).alloc (Nat.le_refl _) _), h4⟩, hb.alloc hb.size _⟩
theorem Try.info_ints : (Try.prog.info? 22).map (fun i => (i.zero, i.size, i.bytes)) = some (some (.slice none 0 0), 1, 24) := by kernel_rfl
end Go.Proofs.Ytfaiogajaaclcaa
