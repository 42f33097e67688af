/- The reference's CheckBound, corners and less. -/
import Derived.Test.YtfaiogajaaclcaaFrac
import Derived.Test.YtfaiogajaaclcaaTref2
import Derived.Test.YtfaiogajaaclcaaSp2
import Derived.Test.YtfaiogajaaclcaaBnd
namespace Go.Proofs.Ytfaiogajaaclcaa
open Go.RowKit

set_option maxRecDepth 100000 in
set_option maxHeartbeats 2000000 in
theorem rcb_any (xs ys : List Int) (vs : List (List Int)) (X Y V : Option Addr) (cx cy cv : Nat) (x y : Int × Int) (w : World) (hS : TSm xs ys vs) (hR : TabR w X Y V cx cy cv xs ys vs) :
   Calls Try.prog 41 #[.agg #[.slice X xs.length cx, .slice Y ys.length cy, .slice V vs.length cv], .agg #[.int .i64 x.1, .int .i64 x.2], .agg #[.int .i64 y.1, .int .i64 y.2]] w fun e w' => e = .returned (.int .i64 (cpErr xs ys vs x y)) ∧ Below w.heap.size w w' := by
  obtain ⟨xl, xh⟩ := x
  obtain ⟨yl, yh⟩ := y
  show Calls Try.prog 41 #[.agg #[.slice X xs.length cx, .slice Y ys.length cy, .slice V vs.length cv], .agg #[.int .i64 xl, .int .i64 xh], .agg #[.int .i64 yl, .int .i64 yh]] w _
  have HS := Lib.hid hS
  have HE : Hid (cpErr xs ys vs (xl, xh) (yl, yh) = if tabB xs ys vs then (if spErr [(xl, xh), (yl, yh)] != 0 then spErr [(xl, xh), (yl, yh)] else if liesB xs (xl, xh) && liesB ys (yl, yh) then 0 else 1) else 11) := rfl
  obtain ⟨W0, hW0⟩ : ∃ W0, (((w.alloc (.cells #[.slice X xs.length cx, .slice Y ys.length cy, .slice V vs.length cv] 25)).alloc (.cells #[.int .i64 xl, .int .i64 xh] 27)).alloc (.cells #[.int .i64 yl, .int .i64 yh] 27)) = W0 := ⟨_, rfl⟩
  have HB : Hid (Below w.heap.size w W0) := by
    unfold Hid; rw [← hW0]
    repeat (first | exact Below.refl _ _ | refine Below.alloc ?_ (by simp <;> omega) _)
  have ha : W0.heap[w.heap.size]? = some (.cells #[.slice X xs.length cx, .slice Y ys.length cy, .slice V vs.length cv] 25) := by
    rw [← hW0]; simp only [heap_alloc_at, World.size_alloc]; repeat (first | rw [if_pos trivial] | rw [if_neg (by omega)])
  have hb : W0.heap[w.heap.size + 1]? = some (.cells #[.int .i64 xl, .int .i64 xh] 27) := by
    rw [← hW0]; simp only [heap_alloc_at, World.size_alloc]; repeat (first | rw [if_pos trivial] | rw [if_neg (by omega)])
  have hc : W0.heap[w.heap.size + 1 + 1]? = some (.cells #[.int .i64 yl, .int .i64 yh] 27) := by
    rw [← hW0]; simp only [heap_alloc_at, World.size_alloc]; repeat (first | rw [if_pos trivial] | rw [if_neg (by omega)])
  obtain ⟨⟨c0, c1, c2⟩, _⟩ := cells3 ha
  obtain ⟨⟨p0, p1⟩, _⟩ := cells2 hb
  obtain ⟨⟨q0, q1⟩, _⟩ := cells2 hc
  have HR := Lib.hid (hR.below HB.out)
  have HW0 := Lib.hid hW0
  clear hW0 ha hb hc hS hR
  go_enter Try.func41, Try.ntmps41
  go_wp2_with fail
  rw [HW0.out]
  refine (rcheckTable_any xs ys vs X Y V cx cy cv _ HS.out HR.out).mono ?_
  rintro e w1 ⟨rfl, hb1⟩
  replace c0 := cell_b hb1 c0
  replace c1 := cell_b hb1 c1
  replace c2 := cell_b hb1 c2
  replace p0 := cell_b hb1 p0
  replace p1 := cell_b hb1 p1
  replace q0 := cell_b hb1 q0
  replace q1 := cell_b hb1 q1
  replace HR := Lib.hid (HR.out.below hb1)
  replace HB := Lib.hid (HB.out.trans (hb1.mono HB.out.size))
  clear hb1
  by_cases ht : tabB xs ys vs = true
  · have hte : tabErr xs ys vs = 0 := by unfold tabErr; rw [if_pos ht]
    rw [hte]
    rw [if_pos ht] at HE
    have hx2 := (tbl_of ht).ax.two
    have hx12 := (tbl_of ht).ax.twelve
    have hy2 := (tbl_of ht).ay.two
    have hy12 := (tbl_of ht).ay.twelve
    clear ht hte
    go_wp2_with fail
    refine (two_any (xl, xh) (yl, yh) _).mono ?_
    rintro e w2 ⟨rfl, hb2⟩
    replace c0 := cell_b hb2 c0
    replace c1 := cell_b hb2 c1
    replace c2 := cell_b hb2 c2
    replace p0 := cell_b hb2 p0
    replace p1 := cell_b hb2 p1
    replace q0 := cell_b hb2 q0
    replace q1 := cell_b hb2 q1
    replace HR := Lib.hid (HR.out.below hb2)
    replace HB := Lib.hid (HB.out.trans (hb2.mono HB.out.size))
    clear hb2
    by_cases hs : (spErr [(xl, xh), (yl, yh)] != 0) = true
    · rw [if_pos hs] at HE
      generalize spErr [(xl, xh), (yl, yh)] = se at *
      go_wp2_with fail
      go_ret
      exact ⟨by rw [HE.out]; rfl, HB.out⟩
    · have hs' : spErr [(xl, xh), (yl, yh)] = 0 := by simpa using hs
      rw [if_neg hs] at HE
      rw [hs']
      clear hs hs'
      go_wp2_with fail
      refine (between_any X xs cx xl xh _ (by omega) (by omega) HR.out.hX).mono ?_
      rintro e w3 ⟨rfl, hb3⟩
      replace c0 := cell_b hb3 c0
      replace c1 := cell_b hb3 c1
      replace c2 := cell_b hb3 c2
      replace p0 := cell_b hb3 p0
      replace p1 := cell_b hb3 p1
      replace q0 := cell_b hb3 q0
      replace q1 := cell_b hb3 q1
      replace HR := Lib.hid (HR.out.below hb3)
      replace HB := Lib.hid (HB.out.trans (hb3.mono HB.out.size))
      clear hb3
      by_cases l1 : liesB xs (xl, xh) = true
      · rw [l1] at HE ⊢
        clear l1
        go_wp2_with fail
        refine (between_any Y ys cy yl yh _ (by omega) (by omega) HR.out.hY).mono ?_
        rintro e w4 ⟨rfl, hb4⟩
        replace c0 := cell_b hb4 c0
        replace c1 := cell_b hb4 c1
        replace c2 := cell_b hb4 c2
        replace p0 := cell_b hb4 p0
        replace p1 := cell_b hb4 p1
        replace q0 := cell_b hb4 q0
        replace q1 := cell_b hb4 q1
        replace HR := Lib.hid (HR.out.below hb4)
        replace HB := Lib.hid (HB.out.trans (hb4.mono HB.out.size))
        clear hb4
        by_cases l2 : liesB ys (yl, yh) = true
        · rw [l2] at HE ⊢
          clear l2
          go_wp2_with fail
          go_ret
          exact ⟨by rw [HE.out]; rfl, HB.out⟩
        · have l2' : liesB ys (yl, yh) = false := by simpa using l2
          rw [l2'] at HE ⊢
          clear l2 l2'
          go_wp2_with fail
          go_ret
          exact ⟨by rw [HE.out]; rfl, HB.out⟩
      · have l1' : liesB xs (xl, xh) = false := by simpa using l1
        rw [l1'] at HE ⊢
        clear l1 l1'
        go_wp2_with fail
        go_ret
        exact ⟨by rw [HE.out]; rfl, HB.out⟩
  · have hte : tabErr xs ys vs = 11 := by unfold tabErr; rw [if_neg ht]
    rw [hte]
    rw [if_neg ht] at HE
    clear ht hte
    go_wp2_with fail
    go_ret
    exact ⟨by rw [HE.out]; rfl, HB.out⟩
theorem own_drewN {w : World} {base : Nat} {e : TypeId} {s : Nat} {v : Value} {n : Nat} {xs : List Value} (h : w.ownsRow base e s v n xs) (m : Nat) : (w.drewN m).ownsRow base e s v n xs := h
set_option maxRecDepth 100000 in
set_option maxHeartbeats 1000000 in
theorem rcorners_any (A : Option Addr) (l : List Int) (c : Nat) (lo hi : Int) (w : World) (hl : l.length ≤ 1000000) (hA : Ints w A l) :
    Calls Try.prog 79 #[.slice A l.length c, .agg #[.int .i64 lo, .int .i64 hi]] w (OutInts (stopsL l lo hi) w) := by
  obtain ⟨i0, hi0, hz0, hz1, hz2⟩ := info_parts Try.info_int
  have HA := Lib.hid hA
  clear hA
  have hsp : ∀ k, (accL l lo hi k).length ≤ l.length + 1 := accL_len l lo hi
  have HSP := Lib.hid hsp
  have HW1 := Lib.hid (show Below w.heap.size w (w.alloc (.cells #[.int .i64 lo, .int .i64 hi] 27)) from (Below.refl _ _).alloc (Nat.le_refl _) _)
  clear hsp
  go_enter Try.func79, Try.ntmps79
  go_wp2_with fail
  go_loopw [5, 6] (fun v i wr => ∃ k : Nat, k ≤ l.length ∧ i = .int .i64 k ∧ wr.ownsRow (w.heap.size + 1) 3 1 v (accL l lo hi k).length (IV (accL l lo hi k)) ∧
      Below (w.heap.size + 1) (w.alloc (.cells #[.int .i64 lo, .int .i64 hi] 27)) wr) (fun _ i _ => l.length - (intOf i).toNat)
  case atStart =>
    refine ⟨0, by omega, rfl, ?_, (Below.refl _ _).alloc (by simp) _⟩
    have := World.ownsRow_lit (base := w.heap.size + 1) (e := 3) (size := 1) (w.alloc (.cells #[.int .i64 lo, .int .i64 hi] 27)) #[.int .i64 lo] 1 (by simp) (by simp [maxLen]) (by simp)
    simpa [midL, accL, IV] using this
  case round =>
    obtain ⟨k, hk, rfl, hown, hb⟩ := hrel
    have hlo : wr.cell? ⟨w.heap.size, 0, none⟩ = some (.int .i64 lo) := (hb.cell (by simp)).trans (by simp)
    have hhi : wr.cell? ⟨w.heap.size, 1, none⟩ = some (.int .i64 hi) := (hb.cell (by simp)).trans (by simp)
    have hszr := hb.size
    simp only [World.size_alloc] at hszr
    have HOWN := Lib.hid hown
    have HBR := Lib.hid hb
    clear hown hb
    by_cases hlt : k < l.length
    · obtain ⟨b, off, rfl, hbl, hc⟩ := HA.out (by omega)
      have hc1 : wr.cell? ⟨b, off + k, none⟩ = some (.int .i64 (l[k]?.getD 0)) := (HBR.out.cell (p := ⟨b, off + k, none⟩) (by simp; omega)).trans ((World.cell?_alloc_lt _ _ _ hbl).trans (hc k hlt))
      clear hc
      have t1 : (k : Int) < (l.length : Int) := by omega
      have t2 : (0 : Int) ≤ (k : Int) := by omega
      generalize hx : l[k]?.getD 0 = x at hc1
      have HX := Lib.hid hx
      clear hx
      by_cases h1 : lo < x
      · by_cases h2 : x < hi
        · go_wp2_with fail
          go_quiet (fail)
          go_wp2_with (at_builtin; refine wpList_append_own _ rfl _ _ 22 rfl (w.heap.size + 1) 3 i0 (.int .i64 0) 1 8 Try.underlying22 hi0 hz0 hz1 hz2 rfl (by decide) _ _ _ rfl ((own_drewN HOWN.out nq).alloc _) ⟨wr.heap.size, 0, none⟩ 1 1 [.int .i64 x] rfl rfl ?c1 ?c2 ?c3 ?c4 ?c5 ?_)
          case c1 => exact cell_one_new _ _ _
          case c2 => simp [Value.oneCell']
          case c3 => have := HSP.out k; simp only [maxLen]; omega
          case c4 => have := HSP.out k; omega
          case c5 => simp; omega
          intro v' w1 hown1 hg1 _
          have HO1 := Lib.hid hown1
          have HB1 := Lib.hid (((Below.drewN' HBR.out nq).alloc (by simp; omega) _).grown hg1 (by simp; omega) (ownBlock_ge HOWN.out))
          clear hown1 hg1
          go_wp2_with fail
          go_roundw
          case rel => exact ⟨k + 1, by omega, by go_num, by rw [accL_yes hlt HX.out h1 h2, List.length_append, IV_snoc]; exact HO1.out, HB1.out⟩
          case measure => simp [intOf]; omega
        · go_wp2_with fail
          go_quiet (fail)
          go_wp2_with fail
          go_roundw
          case rel => exact ⟨k + 1, by omega, by go_num, by rw [accL_no hlt HX.out (by omega)]; exact own_drewN HOWN.out _, Below.drewN' HBR.out _⟩
          case measure => simp [intOf]; omega
      · have d1 : decide (lo < x) = false := decide_eq_false h1
        have d2 : decide (x > lo) = false := decide_eq_false h1
        go_wp2_with fail
        go_quiet (fail)
        go_wp2_with fail
        go_roundw
        case rel => exact ⟨k + 1, by omega, by go_num, by rw [accL_no hlt HX.out (by omega)]; exact own_drewN HOWN.out _, Below.drewN' HBR.out _⟩
        case measure => simp [intOf]; omega
    · obtain rfl : k = l.length := by omega
      by_cases hlh : lo < hi
      · go_wp2_with (at_builtin; refine wpList_append_own _ rfl _ _ 22 rfl (w.heap.size + 1) 3 i0 (.int .i64 0) 1 8 Try.underlying22 hi0 hz0 hz1 hz2 rfl (by decide) _ _ _ rfl (HOWN.out.alloc _) ⟨wr.heap.size, 0, none⟩ 1 1 [.int .i64 hi] rfl rfl ?c1 ?c2 ?c3 ?c4 ?c5 ?_)
        case c1 => exact cell_one_new _ _ _
        case c2 => simp [Value.oneCell']
        case c3 => have := HSP.out l.length; simp only [maxLen]; omega
        case c4 => have := HSP.out l.length; omega
        case c5 => simp; omega
        intro v' w1 hown1 hg1 _
        have HO1 := Lib.hid hown1
        have HB1 := Lib.hid ((HBR.out.alloc (by omega) _).grown hg1 (by simp; omega) (ownBlock_ge HOWN.out))
        clear hown1 hg1
        go_wp2_with fail
        go_ret
        refine outInts_mk (base := w.heap.size + 1) (e := 3) ?_ (by omega) (HW1.out.trans (HB1.out.mono (by omega)))
        have e : stopsL l lo hi = accL l lo hi l.length ++ [hi] := by rw [accL_end, stopsL, if_pos hlh]
        rw [e, List.length_append, IV_snoc]; exact HO1.out
      · go_wp2_with fail
        go_ret
        refine outInts_mk (base := w.heap.size + 1) (e := 3) ?_ (by omega) (HW1.out.trans (HBR.out.mono (by omega)))
        have e : stopsL l lo hi = accL l lo hi l.length := by rw [accL_end, stopsL, if_neg (by omega)]; simp
        rw [e]; exact HOWN.out
theorem less_plain {n d m f : Int} (hd : 1 ≤ d) (hf : 1 ≤ f) : (if n / d = m / f then decide ((n - n / d * d) * f < (m - m / f * f) * d) else decide (n / d < m / f)) = decide (n * f < m * d) := by
  have c := (cmpV_sign (n := n) (m := m) hd hf).1
  have hC : cmpV n d m f = if n / d - m / f = 0 then (if (n - n / d * d) * f - (m - m / f * f) * d = 0 then 0 else (n - n / d * d) * f - (m - m / f * f) * d) else n / d - m / f := rfl
  rw [hC] at c
  by_cases h : n / d = m / f
  · rw [if_pos h]
    rw [if_pos (by omega)] at c
    refine decide_eq_decide.2 (Iff.trans ?_ c)
    split <;> constructor <;> intro h <;> omega
  · rw [if_neg h]
    rw [if_neg (by omega)] at c
    refine decide_eq_decide.2 (Iff.trans ?_ c)
    constructor <;> intro h <;> omega
set_option maxHeartbeats 1000000 in
theorem rless_any (n d m f : Int) (w : World) (hd : 1 ≤ d) (hd' : d ≤ 100000000) (hf : 1 ≤ f) (hf' : f ≤ 100000000) (hn : -1000000000000000 ≤ n) (hn' : n ≤ 1000000000000000) (hm : -1000000000000000 ≤ m) (hm' : m ≤ 1000000000000000) :
    Calls Try.prog 81 #[.int .i64 n, .int .i64 d, .int .i64 m, .int .i64 f] w fun e w' => e = .returned (.bool (decide (n * f < m * d))) ∧ w' = w := by
  have HP := Lib.hid (less_plain (n := n) (m := m) hd hf)
  have hq1 : ∀ W, Calls Try.prog 85 #[.int .i64 n, .int .i64 d] W fun e w' => e = .returned (.int .i64 (n / d)) ∧ w' = W := fun W => rfloor_any n d W hd (by omega) (by omega) (by omega)
  have hq2 : ∀ W, Calls Try.prog 85 #[.int .i64 m, .int .i64 f] W fun e w' => e = .returned (.int .i64 (m / f)) ∧ w' = W := fun W => rfloor_any m f W hf (by omega) (by omega) (by omega)
  have b1 := ediv_bd n d 1000000000000000 (by omega) hd hn hn'
  have b2 := ediv_bd m f 1000000000000000 (by omega) hf hm hm'
  have r1 := rem_bd n d hd
  have r2 := rem_bd m f hf
  generalize n / d = a at *
  generalize m / f = b at *
  have p1 := mul_bd (a := n - a * d) (b := f) (A := 100000000) (B := 100000000) (by omega) (by omega) (by omega) (by omega)
  have p2 := mul_bd (a := m - b * f) (b := d) (A := 100000000) (B := 100000000) (by omega) (by omega) (by omega) (by omega)
  have u1 : IntKind.i64.wrap (a * d) = a * d := IntWalk.i64_in _ (by omega)
  have u2 : IntKind.i64.wrap (b * f) = b * f := IntWalk.i64_in _ (by omega)
  have u3 : IntKind.i64.wrap (n - a * d) = n - a * d := IntWalk.i64_in _ (by omega)
  have u4 : IntKind.i64.wrap (m - b * f) = m - b * f := IntWalk.i64_in _ (by omega)
  have u5 : IntKind.i64.wrap ((n - a * d) * f) = (n - a * d) * f := IntWalk.i64_in _ (by omega)
  have u6 : IntKind.i64.wrap ((m - b * f) * d) = (m - b * f) * d := IntWalk.i64_in _ (by omega)
  have HQ1 := Lib.hid hq1
  have HQ2 := Lib.hid hq2
  clear hq1 hq2
  by_cases hab : a = b
  · have hne : (a != b) = false := by simp [hab]
    rw [if_pos hab] at HP
    clear hab
    go_enter Try.func81, Try.ntmps81
    go_wp2_with fail
    refine (HQ1.out _).mono ?_
    rintro e w' ⟨rfl, rfl⟩
    go_wp2_with fail
    refine (HQ2.out _).mono ?_
    rintro e w' ⟨rfl, rfl⟩
    go_wp2_with fail
    go_ret
    exact ⟨by rw [← HP.out]; rfl, rfl⟩
  · have hne : (a != b) = true := by simp [hab]
    rw [if_neg hab] at HP
    clear hab
    go_enter Try.func81, Try.ntmps81
    go_wp2_with fail
    refine (HQ1.out _).mono ?_
    rintro e w' ⟨rfl, rfl⟩
    go_wp2_with fail
    refine (HQ2.out _).mono ?_
    rintro e w' ⟨rfl, rfl⟩
    go_wp2_with fail
    go_ret
    exact ⟨by rw [← HP.out]; rfl, rfl⟩
end Go.Proofs.Ytfaiogajaaclcaa
