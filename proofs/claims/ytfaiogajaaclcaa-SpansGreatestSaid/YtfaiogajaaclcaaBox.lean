/- Boxes: a slice of spans that came in, copied, and checked by the reference. -/
import Derived.Test.YtfaiogajaaclcaaCopy3
import Derived.Test.YtfaiogajaaclcaaOpen2
namespace Go.Proofs.Ytfaiogajaaclcaa
open Go.RowKit Go.Deep

def SV (l : List (Int × Int)) : List Value := l.flatMap fun x => [.int .i64 x.1, .int .i64 x.2]
theorem SV_len (l : List (Int × Int)) : (SV l).length = l.length * 2 := by
  induction l with
  | nil => rfl
  | cons x l ih => simp only [SV, List.flatMap_cons, List.length_append, List.length_cons, List.length_nil] at *; omega
theorem SV_at (l : List (Int × Int)) (k : Nat) (h : k < l.length) : (SV l)[k * 2]? = some (.int .i64 (l[k]?.getD (0, 0)).1) ∧ (SV l)[k * 2 + 1]? = some (.int .i64 (l[k]?.getD (0, 0)).2) := by
  induction l generalizing k with
  | nil => simp at h
  | cons x l ih =>
    cases k with
    | zero => simp [SV]
    | succ k =>
      have := ih k (by simpa using h)
      have e1 : (SV (x :: l))[(k + 1) * 2]? = (SV l)[k * 2]? := by
        show (([.int .i64 x.1, .int .i64 x.2] : List Value) ++ SV l)[(k + 1) * 2]? = _
        rw [List.getElem?_append_right (by simp; omega)]
        congr 1
        simp; omega
      have e2 : (SV (x :: l))[(k + 1) * 2 + 1]? = (SV l)[k * 2 + 1]? := by
        show (([.int .i64 x.1, .int .i64 x.2] : List Value) ++ SV l)[(k + 1) * 2 + 1]? = _
        rw [List.getElem?_append_right (by simp; omega)]
        congr 1
        simp; omega
      rw [e1, e2]
      simpa using this
theorem SV_one (l : List (Int × Int)) : ∀ u ∈ SV l, u.oneCell' = true := by
  intro u hu
  simp only [SV, List.mem_flatMap] at hu
  obtain ⟨x, _, hx⟩ := hu
  simp at hx
  rcases hx with rfl | rfl <;> rfl
theorem sps_of_own {w : World} {base : Nat} {e : TypeId} {A : Option Addr} {c : Nat} {l : List (Int × Int)} (h : w.ownsRow base e 2 (.slice A l.length c) l.length (SV l)) : Sps w A l := fun hl => by
  obtain ⟨h1, ⟨e1, h0⟩ | ⟨g, cap, cur, e1, hb, hg, hc, hm, hs, ht⟩⟩ := h
  · omega
  · cases e1
    refine ⟨g, 0, rfl, (Array.getElem?_eq_some_iff.1 hg).1, fun k hk => ?_⟩
    obtain ⟨s1, s2⟩ := SV_at l k hk
    have q : ∀ j, j < l.length * 2 → w.cell? ⟨g, 0 + j, none⟩ = (SV l)[j]? := fun j hj => by
      rw [cell_of_row w g (0 + j) cur e (0, 0) hg, Nat.zero_add, ← Array.getElem?_toList, ← ht, List.getElem?_take, if_pos hj]
    exact ⟨(q _ (by omega)).trans s1, by rw [Nat.add_assoc]; exact (q _ (by omega)).trans s2⟩
/-- the cells of a slice of spans, as a copy wants them -/
theorem sps_cells {w : World} {A : Option Addr} {l : List (Int × Int)} (h : Sps w A l) : 0 < l.length → ∃ a, A = some a ∧ ∀ j u, (SV l)[j]? = some u → w.cell? (a.add j) = some u := fun hl => by
  obtain ⟨b, off, rfl, hlt, hc⟩ := h hl
  refine ⟨_, rfl, fun j u hu => ?_⟩
  have hj : j < l.length * 2 := by
    have := (List.getElem?_eq_some_iff.1 hu).1
    rwa [SV_len] at this
  have key : w.cell? ⟨b, off + j, none⟩ = some u := by
    obtain ⟨s1, s2⟩ := SV_at l (j / 2) (by omega)
    obtain ⟨c1, c2⟩ := hc (j / 2) (by omega)
    rcases Nat.mod_two_eq_zero_or_one j with h0 | h1
    · have e : j / 2 * 2 = j := by omega
      rw [e] at s1 c1
      rw [s1] at hu
      cases hu
      exact c1
    · have e : j / 2 * 2 + 1 = j := by omega
      rw [e] at s2
      rw [show off + j / 2 * 2 + 1 = off + j by omega] at c2
      rw [s2] at hu
      cases hu
      exact c2
  by_cases h0 : j = 0
  · subst h0; simpa [Addr.add] using key
  · simpa [Addr.add, h0] using key
section
variable {H : Type} {enc : TypeId × Value → H} {P : Program} {w : World} {base : Nat} {held : Bool}
theorem sps_open {t e : TypeId} {fuel : Nat} {cs : List Value} {x : DataW H × List MemPlace} (ht : P.underlying t = some (.slice e)) (he : AllI P e 2) (hc : P.cellsOf e = 2)
    (h : DataW.trod enc P w base (fun _ => true) held fuel t cs = some x) : ∃ (A : Option Addr) (l : List (Int × Int)) (c : Nat), cs = [.slice A l.length c] ∧ Sps w A l ∧ l.length ≤ c ∧ c ≤ maxLen ∧ (A = none → c = 0) := by
  rcases open_slice ht h with ⟨rfl, _⟩ | ⟨a, len, cap, m, n, D, Pl, rfl, _, hl, hm, hmm, _, hi⟩
  · exact ⟨none, [], 0, rfl, fun h => by simp at h, by simp, by simp [maxLen], fun _ => rfl⟩
  · simp only [if_true] at hmm
    subst hmm
    have each : ∀ i, i < len → ∃ y : Int × Int, w.cell? (a.add (i * 2)) = some (.int .i64 y.1) ∧ w.cell? (a.add (i * 2 + 1)) = some (.int .i64 y.2) := fun i him => by
      obtain ⟨cs', h1, h2⟩ := hi i (by omega)
      rw [hc] at h1
      obtain ⟨hlen, hints⟩ := he enc w base _ held _ _ _ h2
      obtain ⟨_, _, hat⟩ := World.cells?_some h1
      match cs', hlen with
      | [u, v], _ =>
        obtain ⟨p, rfl, _⟩ := hints u (by simp)
        obtain ⟨q, rfl, _⟩ := hints v (by simp)
        have a0 := hat 0 (by omega)
        have a1 := hat 1 (by omega)
        rw [Go.Deep.add_add] at a0 a1
        exact ⟨(p, q), by simpa using a0, by simpa using a1⟩
    obtain ⟨f, hf⟩ := choose_lt (α := Int × Int) each
    have hlen : ((List.range len).map f).length = len := by simp
    refine ⟨some a, (List.range len).map f, m, by rw [hlen], fun h0 => ?_, by omega, hm, fun e => by cases e⟩
    rw [hlen] at h0
    obtain ⟨c0, c1⟩ := hf 0 (by omega)
    simp only [Nat.zero_mul] at c0
    have ha := addr_of_cell c0
    refine ⟨a.block, a.off, by rw [← ha], by have := blk_of_cell c0; simpa [Addr.add] using this, fun k hk => ?_⟩
    rw [hlen] at hk
    obtain ⟨c2, c3⟩ := hf k hk
    have e : ((List.range len).map f)[k]?.getD (0, 0) = f k := by simp [hk]
    rw [e]
    exact ⟨add_eq c0 c2, by rw [Nat.add_assoc]; exact add_eq c0 c3⟩
end
theorem Try.info_span : (Try.prog.info? 27).map (fun i => (i.zero, i.size, i.bytes)) = some (some (.agg #[.int .i64 0, .int .i64 0]), 2, 16) := by kernel_rfl
def BoxPost (l : List (Int × Int)) (w : World) (e : Ending) (w' : World) : Prop := ∃ A c, e = .returned (.slice A l.length c) ∧ Copied 27 2 l.length (SV l) w A c w'
set_option maxHeartbeats 1000000 in
theorem box_any (A : Option Addr) (l : List (Int × Int)) (c : Nat) (w : World) (hl : l.length ≤ 1000000) (hA : Sps w A l) (hn : A = none → c = 0) :
    Calls Try.prog 24 #[.slice A l.length c] w fun e w' => ∃ B d, e = .returned (.slice B l.length d) ∧ Sps w' B l ∧ Below w.heap.size w w' := by
  obtain ⟨i0, hi0, hz0, hz1, hz2⟩ := info_parts Try.info_span
  have HA := Lib.hid (hA.below ((Below.refl _ w).alloc (Nat.le_refl _) (.cells #[] 27)))
  have HN := Lib.hid hn
  clear hA hn
  go_enter Try.func24, Try.ntmps24
  go_wp2_with (at_builtin; refine wpList_copy _ rfl _ _ 38 rfl 27 i0 (.agg #[.int .i64 0, .int .i64 0]) 2 16 Try.underlying38 hi0 hz0 hz1 hz2 rfl (by decide) _ rfl A l.length c rfl (SV l) (SV_len l) (sps_cells HA.out) HN.out (by simp only [maxLen]; omega) (by omega) ?_; intro B d w1 hcp; have HCP := Lib.hid hcp; clear hcp)
  go_ret
  refine ⟨B, d, rfl, ?_, ((Below.refl _ w).alloc (Nat.le_refl _) _).trans (HCP.out.below.mono (by simp))⟩
  rcases Nat.eq_zero_or_pos l.length with h0 | h0
  · intro h; omega
  · exact sps_of_own (HCP.out.own h0)
theorem boxErr_eq (l : List (Int × Int)) : boxErr l = if wB l.length 1 3 then (if l.any (fun x => !vB x) then 10 else 0) else 10 := rfl
set_option maxHeartbeats 1000000 in
theorem rcheck_any (A : Option Addr) (l : List (Int × Int)) (c : Nat) (w : World) (hl : l.length ≤ maxLen) (hA : Sps w A l) :
   Calls Try.prog 25 #[.slice A l.length c] w fun e w' => e = .returned (.int .i64 (boxErr l)) ∧ Below w.heap.size w w' := by
  unfold maxLen at hl
  have HA := Lib.hid hA
  have HE := Lib.hid (boxErr_eq l)
  clear hA
  by_cases h : wB l.length 1 3 = true
  · have E := Lib.hid h
    rw [if_pos h] at HE
    obtain ⟨g1, g2⟩ := wB_iff.1 h
    clear h
    go_enter Try.func25, Try.ntmps25
    go_wp2_with fail
    refine (from_any _ _ _ _).mono ?_
    rintro e w' ⟨rfl, rfl⟩
    rw [E.out]
    go_wp2_with fail
    go_loopw [3] (fun i wr => ∃ k : Nat, k ≤ l.length ∧ i = .int .i64 k ∧ (l.drop k).any (fun x => !vB x) = l.any (fun x => !vB x) ∧ Below w'.heap.size w' wr) (fun i _ => l.length - (intOf i).toNat)
    case atStart => exact ⟨0, by omega, rfl, by simp, Below.refl _ _⟩
    case round =>
      obtain ⟨k, hk, rfl, hp, hbr⟩ := hrel
      have HP := Lib.hid hp
      have HBR := Lib.hid hbr
      clear hp hbr
      by_cases hlt : k < l.length
      · obtain ⟨b, off, rfl, hbl, hc⟩ := HA.out (by omega)
        obtain ⟨c1, c2⟩ := hc k hlt
        have d1 := cell_b' HBR.out c1
        have d2 := cell_b' HBR.out c2
        have HD := Lib.hid (any_drop (fun x => !vB x) l (0, 0) k hlt)
        clear hc c1 c2
        generalize l[k]?.getD (0, 0) = x at d1 d2 HD
        obtain ⟨lo, hi⟩ := x
        simp only at d1 d2
        go_wp2_with fail
        refine (rvalid_any (lo, hi) _).mono ?_
        rintro e w1 ⟨rfl, hb1⟩
        have HB1 := Lib.hid (HBR.out.trans (hb1.mono HBR.out.size))
        clear hb1
        by_cases hv : vB (lo, hi) = true
        · rw [hv]
          have HV := Lib.hid hv
          clear hv
          go_wp2_with fail
          go_roundw
          case rel => exact ⟨k + 1, by omega, by go_num, by rw [← HP.out, HD.out, HV.out]; simp, HB1.out⟩
          case measure => simp [intOf]; omega
        · have hv' : vB (lo, hi) = false := by simpa using hv
          rw [hv']
          have HV := Lib.hid hv'
          clear hv hv'
          go_wp2_with fail
          go_ret
          exact ⟨by rw [HE.out, ← HP.out, HD.out, HV.out]; rfl, HB1.out⟩
      · go_wp2_with fail
        go_ret
        exact ⟨by rw [HE.out, ← HP.out, List.drop_eq_nil_of_le (by omega)]; rfl, HBR.out⟩
  · rw [if_neg h] at HE
    have h' : wB l.length 1 3 = false := by simpa using h
    have E := Lib.hid h'
    clear h h'
    go_enter Try.func25, Try.ntmps25
    go_wp2_with fail
    refine (from_any _ _ _ _).mono ?_
    rintro e w' ⟨rfl, rfl⟩
    rw [E.out]
    go_wp2_with fail
    go_ret
    exact ⟨by rw [HE.out]; rfl, Below.refl _ _⟩
end Go.Proofs.Ytfaiogajaaclcaa
