/- The contract of spans.stops: the ends of a span and the knots within it, as a new slice; old memory stays. -/
import Derived.Test.YtfaiogajaaclcaaAt
import Derived.Maps.AppendAt
namespace Go.Proofs.Ytfaiogajaaclcaa
open Go.RowKit

def IV (l : List Int) : List Value := l.map (Value.int .i64)
theorem IV_snoc (l : List Int) (x : Int) : IV (l ++ [x]) = IV l ++ [.int .i64 x] := by simp [IV]
theorem ints_of_own {w : World} {base : Nat} {e : TypeId} {v : Value} {l : List Int} (h : w.ownsRow base e 1 v l.length (IV l)) :
    ∃ A c, v = .slice A l.length c ∧ Ints w A l ∧ l.length ≤ c ∧ ∀ ad, A = some ad → base ≤ ad.block := by
  obtain ⟨h1, ⟨rfl, h0⟩ | ⟨g, cap, cur, rfl, hb, hg, hc, hm, hs, ht⟩⟩ := h
  · exact ⟨none, 0, by rw [h0], fun hl => by omega, by omega, fun ad h => by cases h⟩
  · refine ⟨some ⟨g, 0, none⟩, cap, rfl, fun _ => ⟨g, 0, rfl, ?_, fun k hk => ?_⟩, hc, fun ad h => by cases h; exact hb⟩
    · rcases Nat.lt_or_ge g w.heap.size with hlt | hge
      · exact hlt
      · rw [Array.getElem?_eq_none hge] at hg; cases hg
    · rw [cell_of_row w g (0 + k) cur e (0, 0) hg]
      have h2 : (cur.toList.take (l.length * 1))[k]? = (IV l)[k]? := by rw [ht]
      unfold IV at h2
      rw [List.getElem?_take, if_pos (by omega), List.getElem?_map] at h2
      rw [Nat.zero_add, ← Array.getElem?_toList, h2]
      simp [hk]
theorem Try.info_int : (Try.prog.info? 3).map (fun i => (i.zero, i.size, i.bytes)) = some (some (.int .i64 0), 1, 8) := by kernel_rfl
def midL (l : List Int) (lo hi : Int) : List Int := l.filter (fun x => decide (lo < x) && decide (x < hi))
def stopsL (l : List Int) (lo hi : Int) : List Int := lo :: midL l lo hi ++ (if lo < hi then [hi] else [])
theorem midL_take (l : List Int) (lo hi : Int) (k : Nat) (h : k < l.length) : midL (l.take (k + 1)) lo hi = midL (l.take k) lo hi ++ (if lo < l[k]?.getD 0 ∧ l[k]?.getD 0 < hi then [l[k]?.getD 0] else []) := by
  unfold midL
  rw [List.take_succ_eq_append_getElem h, List.filter_append]
  have e : l[k]?.getD 0 = l[k] := by simp [h]
  rw [e]
  by_cases h1 : lo < l[k] ∧ l[k] < hi <;> simp [h1]
theorem midL_len (l : List Int) (lo hi : Int) : (midL l lo hi).length ≤ l.length := List.length_filter_le _ _
def accL (l : List Int) (lo hi : Int) (k : Nat) : List Int := lo :: midL (l.take k) lo hi
theorem accL_len (l : List Int) (lo hi : Int) (k : Nat) : (accL l lo hi k).length ≤ l.length + 1 := by
  have h1 := midL_len (l.take k) lo hi
  have h2 : (l.take k).length ≤ l.length := by simp; omega
  simp [accL]; omega
theorem accL_yes {l : List Int} {lo hi x : Int} {k : Nat} (h : k < l.length) (hx : l[k]?.getD 0 = x) (h1 : lo < x) (h2 : x < hi) : accL l lo hi (k + 1) = accL l lo hi k ++ [x] := by
  unfold accL; rw [midL_take l lo hi k h, hx, if_pos ⟨h1, h2⟩]; rfl
theorem accL_no {l : List Int} {lo hi x : Int} {k : Nat} (h : k < l.length) (hx : l[k]?.getD 0 = x) (hn : ¬ (lo < x ∧ x < hi)) : accL l lo hi (k + 1) = accL l lo hi k := by
  unfold accL; rw [midL_take l lo hi k h, hx, if_neg hn]; simp
theorem accL_end {l : List Int} {lo hi : Int} : accL l lo hi l.length = lo :: midL l lo hi := by simp [accL]
def OutInts (l : List Int) (w : World) (e : Ending) (w' : World) : Prop := ∃ A c, e = .returned (.slice A l.length c) ∧ Ints w' A l ∧ l.length ≤ c ∧ (∀ ad, A = some ad → w.heap.size ≤ ad.block) ∧ Below w.heap.size w w'
theorem outInts_mk {w w' : World} {base : Nat} {e : TypeId} {v : Value} {l : List Int} (h : w'.ownsRow base e 1 v l.length (IV l)) (hbs : w.heap.size ≤ base) (hb : Below w.heap.size w w') : OutInts l w (.returned v) w' := by
  obtain ⟨A, c, rfl, hi, hc, hf⟩ := ints_of_own h
  exact ⟨A, c, rfl, hi, hc, fun ad h => Nat.le_trans hbs (hf ad h), hb⟩
theorem ownBlock_ge {w : World} {base : Nat} {e : TypeId} {s : Nat} {v : Value} {n : Nat} {xs : List Value} (h : w.ownsRow base e s v n xs) : ∀ k, v.ownBlock = some k → base ≤ k := by
  intro k hk
  obtain ⟨h1, ⟨rfl, h0⟩ | ⟨g, cap, cur, rfl, hb, hg, hc, hm, hs, ht⟩⟩ := h
  · simp [Value.ownBlock] at hk
  · simp [Value.ownBlock] at hk; omega
set_option maxHeartbeats 1000000 in
theorem stops_any (A : Option Addr) (l : List Int) (c : Nat) (lo hi : Int) (w : World) (hl : l.length ≤ 1000000) (hA : Ints w A l) :
    Calls Try.prog 110 #[.slice A l.length c, .agg #[.int .i64 lo, .int .i64 hi]] w (OutInts (stopsL l lo hi) w) := by
  obtain ⟨i0, hi0, hz0, hz1, hz2⟩ := info_parts Try.info_int
  have HA := Lib.hid hA
  clear hA
  have hsp : ∀ k, (accL l lo hi k).length ≤ l.length + 1 := accL_len l lo hi
  have HSP := Lib.hid hsp
  have HW1 := Lib.hid (show Below w.heap.size w (w.alloc (.cells #[.int .i64 lo, .int .i64 hi] 27)) from (Below.refl _ _).alloc (Nat.le_refl _) _)
  clear hsp
  go_enter Try.func110, Try.ntmps110
  go_wp2_with fail
  go_loopw [5, 7, 13] (fun v _ i wr => ∃ k : Nat, k ≤ l.length ∧ i = .int .i64 k ∧ wr.ownsRow (w.heap.size + 1) 3 1 v (accL l lo hi k).length (IV (accL l lo hi k)) ∧
      Below (w.heap.size + 1) (w.alloc (.cells #[.int .i64 lo, .int .i64 hi] 27)) wr) (fun _ _ i _ => l.length - (intOf i).toNat)
  case atStart =>
    refine ⟨0, by omega, rfl, ?_, (Below.refl _ _).alloc (by simp) _⟩
    have := World.ownsRow_lit (base := w.heap.size + 1) (e := 3) (size := 1) (w.alloc (.cells #[.int .i64 lo, .int .i64 hi] 27)) #[.int .i64 lo] 1 (by simp) (by simp [maxLen]) (by simp)
    simpa [midL, accL, IV] using this
  case round =>
    obtain ⟨k, hk, rfl, hown, hb⟩ := hrel
    have hlo : wr.cell? ⟨w.heap.size, 0, none⟩ = some (.int .i64 lo) := (hb.cell (by simp)).trans (by simp)
    have hhi : wr.cell? ⟨w.heap.size, 1, none⟩ = some (.int .i64 hi) := (hb.cell (by simp)).trans (by simp)
    have hszr := hb.size
    simp only [World.size_alloc] at hszr
    have HOWN := Lib.hid hown
    have HBR := Lib.hid hb
    clear hown hb
    by_cases hlt : k < l.length
    · obtain ⟨b, off, rfl, hbl, hc⟩ := HA.out (by omega)
      have hc1 : wr.cell? ⟨b, off + k, none⟩ = some (.int .i64 (l[k]?.getD 0)) := (HBR.out.cell (p := ⟨b, off + k, none⟩) (by simp; omega)).trans ((World.cell?_alloc_lt _ _ _ hbl).trans (hc k hlt))
      clear hc
      generalize hx : l[k]?.getD 0 = x at hc1
      have HX := Lib.hid hx
      clear hx
      by_cases h1 : lo < x
      · by_cases h2 : x < hi
        · go_wp2_with (at_builtin; refine wpList_append_own _ rfl _ _ 22 rfl (w.heap.size + 1) 3 i0 (.int .i64 0) 1 8 Try.underlying22 hi0 hz0 hz1 hz2 rfl (by decide) _ _ _ rfl (HOWN.out.alloc _) ⟨wr.heap.size, 0, none⟩ 1 1 [.int .i64 x] rfl rfl ?c1 ?c2 ?c3 ?c4 ?c5 ?_)
          case c1 => exact cell_one_new _ _ _
          case c2 => simp [Value.oneCell']
          case c3 => have := HSP.out k; simp only [maxLen]; omega
          case c4 => have := HSP.out k; omega
          case c5 => simp; omega
          intro v' w1 hown1 hg1 _
          have HO1 := Lib.hid hown1
          have HB1 := Lib.hid ((HBR.out.alloc (by omega) _).grown hg1 (by simp; omega) (ownBlock_ge HOWN.out))
          clear hown1 hg1
          go_wp2_with fail
          go_roundw
          case rel => exact ⟨k + 1, by omega, by go_num, by rw [accL_yes hlt HX.out h1 h2, List.length_append, IV_snoc]; exact HO1.out, HB1.out⟩
          case measure => simp [intOf]; omega
        · go_wp2_with fail
          go_roundw
          case rel => exact ⟨k + 1, by omega, by go_num, by rw [accL_no hlt HX.out (by omega)]; exact HOWN.out, HBR.out⟩
          case measure => simp [intOf]; omega
      · go_wp2_with fail
        go_roundw
        case rel => exact ⟨k + 1, by omega, by go_num, by rw [accL_no hlt HX.out (by omega)]; exact HOWN.out, HBR.out⟩
        case measure => simp [intOf]; omega
    · obtain rfl : k = l.length := by omega
      by_cases hlh : lo < hi
      · go_wp2_with (at_builtin; refine wpList_append_own _ rfl _ _ 22 rfl (w.heap.size + 1) 3 i0 (.int .i64 0) 1 8 Try.underlying22 hi0 hz0 hz1 hz2 rfl (by decide) _ _ _ rfl (HOWN.out.alloc _) ⟨wr.heap.size, 0, none⟩ 1 1 [.int .i64 hi] rfl rfl ?c1 ?c2 ?c3 ?c4 ?c5 ?_)
        case c1 => exact cell_one_new _ _ _
        case c2 => simp [Value.oneCell']
        case c3 => have := HSP.out l.length; simp only [maxLen]; omega
        case c4 => have := HSP.out l.length; omega
        case c5 => simp; omega
        intro v' w1 hown1 hg1 _
        have HO1 := Lib.hid hown1
        have HB1 := Lib.hid ((HBR.out.alloc (by omega) _).grown hg1 (by simp; omega) (ownBlock_ge HOWN.out))
        clear hown1 hg1
        go_wp2_with fail
        go_ret
        refine outInts_mk (base := w.heap.size + 1) (e := 3) ?_ (by omega) (HW1.out.trans (HB1.out.mono (by omega)))
        have e : stopsL l lo hi = accL l lo hi l.length ++ [hi] := by rw [accL_end, stopsL, if_pos hlh]
        rw [e, List.length_append, IV_snoc]; exact HO1.out
      · go_wp2_with fail
        go_ret
        refine outInts_mk (base := w.heap.size + 1) (e := 3) ?_ (by omega) (HW1.out.trans (HBR.out.mono (by omega)))
        have e : stopsL l lo hi = accL l lo hi l.length := by rw [accL_end, stopsL, if_neg (by omega)]; simp
        rw [e]; exact HOWN.out
end Go.Proofs.Ytfaiogajaaclcaa
