/- The contract of the reference's Copy. -/
import Derived.Test.YtfaiogajaaclcaaCopy2
import Derived.Deep.DeepCutAuto
import Derived.Deep.AppendLies
import Derived.Maps.AppendAt
namespace Go.Proofs.Ytfaiogajaaclcaa
open Go.RowKit

/-- what the loop of Copy keeps -/
def CpLoop (xs ys : List Int) (l : List (List Int)) (W0 : World) (ob : Nat) (AX : Option Addr) (cX : Nat) (AY : Option Addr) (cY : Nat) (v : Value) (rs : List Value) (wr : World) : Prop :=
  wr.heap[ob]? = some (.cells #[.slice AX xs.length cX, .slice AY ys.length cY, v] 25) ∧ wr.ownsRow W0.heap.size 22 1 v l.length rs ∧ OwnRows W0.heap.size wr rs l ∧ OwnI W0.heap.size wr AX cX xs ∧ OwnI W0.heap.size wr AY cY ys ∧ Below W0.heap.size W0 wr
theorem own_below {base : Nat} {W W' : World} {e : TypeId} {s n : Nat} {v : Value} {xs : List Value} (h : W.ownsRow base e s v n xs) (hb : Below W.heap.size W W') : W'.ownsRow base e s v n xs :=
  h.kept (grown_of_below hb) (by cases hv : v.ownBlock <;> simp)
/-- behind the append, before the store -/
theorem cp_app {xs ys : List Int} {l : List (List Int)} {r : List Int} {W0 wr wR w7 : World} {ob : Nat} {AX AY AR : Option Addr} {cX cY cR g cap : Nat} {v : Value} {rs : List Value} {tmp : Obj}
    (h : CpLoop xs ys l W0 ob AX cX AY cY v rs wr) (hb : Below wr.heap.size wr wR) (ho : OwnI wr.heap.size wR AR cR r) (hl : r.length ≤ cR)
    (hown : w7.ownsRow W0.heap.size 22 1 (.slice (some ⟨g, 0, none⟩) (l.length + 1) cap) (l.length + 1) (rs ++ [.slice AR r.length cR])) (hg : (wR.alloc tmp).grownBy w7 v.ownBlock) :
    w7.heap[ob]? = some (.cells #[.slice AX xs.length cX, .slice AY ys.length cY, v] 25) ∧ w7.ownsRow W0.heap.size 22 1 (.slice (some ⟨g, 0, none⟩) (l.length + 1) cap) (l.length + 1) (rs ++ [.slice AR r.length cR]) ∧
      OwnRows W0.heap.size w7 (rs ++ [.slice AR r.length cR]) (l ++ [r]) ∧ OwnI W0.heap.size w7 AX cX xs ∧ OwnI W0.heap.size w7 AY cY ys ∧ Below W0.heap.size W0 w7 := by
  obtain ⟨h1, h2, h3, h4, h5, h6⟩ := h
  have hal : Below wr.heap.size wr (wR.alloc tmp) := hb.alloc hb.size _
  have hv := own_below h2 hal
  have hr : ∀ (q : Nat) (cs : Array Value) (fz : Nat × Nat), v.ownBlock = some q → (wR.alloc tmp).heap[q]? = some (.cells cs 3 fz) → False := fun q cs fz e hq => by
    obtain ⟨cs', hq'⟩ := own_type hv q e
    rw [hq'] at hq
    simp at hq
  have hob := blk' hal h1
  refine ⟨?_, hown, ?_, (h4.below hal).step hg hr, (h5.below hal).step hg hr, below_of_grown (h6.trans (hal.mono h6.size)) hg (fun k e => ownBlock_ge hv k e)⟩
  · refine (hg.block ob (blk_lt hob) (fun e => ?_)).trans hob
    obtain ⟨cs', hq'⟩ := own_type hv ob e.symm
    rw [hob] at hq'
    simp at hq'
  · exact ((h3.step (grown_of_below hal) (fun q cs fz e => by cases e)).snoc hl ((ho.mono h6.size).below ((Below.refl _ wR).alloc (Nat.le_refl _) tmp))).step hg hr
theorem cp_store {xs ys : List Int} {l : List (List Int)} {W0 w7 : World} {ob : Nat} {AX AY : Option Addr} {cX cY n : Nat} {v v' : Value} {rs : List Value} (hle : W0.heap.size ≤ ob)
    (h1 : w7.heap[ob]? = some (.cells #[.slice AX xs.length cX, .slice AY ys.length cY, v] 25)) (h2 : w7.ownsRow W0.heap.size 22 1 v' n rs) (hn : n = l.length) (h3 : OwnRows W0.heap.size w7 rs l)
    (h4 : OwnI W0.heap.size w7 AX cX xs) (h5 : OwnI W0.heap.size w7 AY cY ys) (h6 : Below W0.heap.size W0 w7) : CpLoop xs ys l W0 ob AX cX AY cY v' rs (w7.setCell ⟨ob, 2, none⟩ v') := by
  subst hn
  have hr : ∀ (q : Nat) (cs : Array Value) (fz : Nat × Nat), some ob = some q → w7.heap[q]? = some (.cells cs 3 fz) → False := fun q cs fz e hq => by cases e; rw [h1] at hq; simp at hq
  refine ⟨heap_set_same 2 v' h1, h2.kept (grownBy_set w7 ob 2 v') ?_, h3.step (grownBy_set w7 ob 2 v') hr, h4.step (grownBy_set w7 ob 2 v') hr, h5.step (grownBy_set w7 ob 2 v') hr, below_of_grown h6 (grownBy_set w7 ob 2 v') (fun k e => by cases e; exact hle)⟩
  right
  intro e
  obtain ⟨cs, hq⟩ := own_type h2 ob e
  rw [h1] at hq
  simp at hq
theorem heap_drew (W : World) : W.drew.heap = W.heap := rfl
def CopyPost (xs ys : List Int) (vs : List (List Int)) (w : World) (e : Ending) (w' : World) : Prop :=
  ∃ X Y V cx cy cv, e = .returned (.agg #[.slice X xs.length cx, .slice Y ys.length cy, .slice V vs.length cv]) ∧ TabR w' X Y V cx cy cv xs ys vs ∧ Below w.heap.size w w'
set_option maxRecDepth 100000 in
set_option maxHeartbeats 4000000 in
theorem copy_any (xs ys : List Int) (vs : List (List Int)) (X Y V : Option Addr) (cx cy cv : Nat) (w : World) (hlx : xs.length ≤ 1000000) (hly : ys.length ≤ 1000000) (hlv : vs.length ≤ 1000000) (hlr : ∀ r ∈ vs, r.length ≤ 1000000)
   (hR : TabR w X Y V cx cy cv xs ys vs) (hN : TabN w X Y V cx cy cv xs ys vs) :
   Calls Try.prog 21 #[.agg #[.slice X xs.length cx, .slice Y ys.length cy, .slice V vs.length cv]] w (CopyPost xs ys vs w) := by
  obtain ⟨i0, hi0, hz0, hz1, hz2⟩ := info_parts Try.info_int
  obtain ⟨i1, hi1, hy0, hy1, hy2⟩ := info_parts Try.info_ints
  obtain ⟨W0, hW0⟩ : ∃ W0, ((w.alloc (.cells #[.slice X xs.length cx, .slice Y ys.length cy, .slice V vs.length cv] 25)).alloc (.cells #[.slice none 0 0, .slice none 0 0, .slice none 0 0] 25)) = W0 := ⟨_, rfl⟩
  have HB : Hid (Below w.heap.size w W0) := by
    unfold Hid; rw [← hW0]
    repeat (first | exact Below.refl _ _ | refine Below.alloc ?_ (by simp <;> omega) _)
  have ha : W0.heap[w.heap.size]? = some (.cells #[.slice X xs.length cx, .slice Y ys.length cy, .slice V vs.length cv] 25) := by
    rw [← hW0]; simp only [heap_alloc_at, World.size_alloc]; repeat (first | rw [if_pos trivial] | rw [if_neg (by omega)])
  have hb : W0.heap[w.heap.size + 1]? = some (.cells #[.slice none 0 0, .slice none 0 0, .slice none 0 0] 25) := by
    rw [← hW0]; simp only [heap_alloc_at, World.size_alloc]; repeat (first | rw [if_pos trivial] | rw [if_neg (by omega)])
  have HA := Lib.hid ha
  have HC := Lib.hid hb
  have HX := Lib.hid (hR.hX.below HB.out)
  have HY := Lib.hid (hR.hY.below HB.out)
  have HMV := Lib.hid (hN.mv.below HB.out)
  have HNX := Lib.hid hN.nx
  have HNY := Lib.hid hN.ny
  have HLR := Lib.hid hlr
  have HW0 := Lib.hid hW0
  obtain ⟨⟨c0, c1, c2⟩, _⟩ := cells3 ha
  have za := blk_lt ha
  have zb := blk_lt hb
  have e0 : (undef : Value) = undef := rfl
  clear hW0 ha hb hR hN hlr e0
  go_enter Try.func21, Try.ntmps21
  go_upto_region 1 with fail
  rw [HW0.out]
  have HBc := Lib.hid (Below.refl W0.heap.size W0)
  go_cut [3] (fun s3 wx => CpMid xs ys W0 s3 wx)
  case first =>
    go_region_held3 (fun w' => w'.cell? ⟨w.heap.size, 0, none⟩ = some (.slice X xs.length cx) ∧ w'.cell? ⟨w.heap.size, 1, none⟩ = some (.slice Y ys.length cy)) (refine ⟨cell_b' (W := W0) ?_ c0, cell_b' (W := W0) ?_ c1⟩ <;> (repeat (first | exact HBc.out | refine Below.alloc ?_ (by have := HBc.out.size; simp <;> omega) _ | refine Below.drew ?_ | refine Below.setCell ?_ (by have := HBc.out.size; simp <;> omega) _)))
      (first | (refine step_copy _ rfl (.tmp 5) (.tmp 7) 22 rfl 3 i0 (.int .i64 0) 1 8 Try.underlying22 hi0 hz0 hz1 hz2 rfl (by decide) _ rfl X xs.length cx rfl (IV xs) (by simp [IV]) (ints_cells (Ints.below HX.out (by repeat (first | exact HBc.out | refine Below.alloc ?_ (by have := HBc.out.size; simp <;> omega) _ | refine Below.drew ?_)))) HNX.out (by simp only [maxLen]; omega) (by omega) ?_; intro AX cX wX hcp; obtain ⟨hq1, hq2, hq3, hq4⟩ := copied_in (W0 := W0) (by repeat (first | exact HBc.out | refine Below.alloc ?_ (by have := HBc.out.size; simp <;> omega) _ | refine Below.drew ?_)) hcp; obtain ⟨rX1, rX2⟩ := bcell hq2; have HQX := Lib.hid hq2; have HOX := Lib.hid hq3; have HLX := Lib.hid hq4; have hs := hq2.size; (try simp at hs); have zX0 : W0.heap.size < wX.heap.size := (by omega); (try (have zX1 : W0.heap.size + 1 < wX.heap.size := (by omega))); (try (have zX2 : W0.heap.size + 1 + 1 < wX.heap.size := (by omega))); replace HBc := Lib.hid hq1; clear hcp hq1 hq2 hq3 hq4 hs) | (refine step_copy _ rfl (.tmp 9) (.tmp 11) 22 rfl 3 i0 (.int .i64 0) 1 8 Try.underlying22 hi0 hz0 hz1 hz2 rfl (by decide) _ rfl Y ys.length cy rfl (IV ys) (by simp [IV]) (ints_cells (Ints.below HY.out (by repeat (first | exact HBc.out | refine Below.alloc ?_ (by have := HBc.out.size; simp <;> omega) _ | refine Below.drew ?_)))) HNY.out (by simp only [maxLen]; omega) (by omega) ?_; intro AY cY wY hcp; obtain ⟨hq1, hq2, hq3, hq4⟩ := copied_in (W0 := W0) (by repeat (first | exact HBc.out | refine Below.alloc ?_ (by have := HBc.out.size; simp <;> omega) _ | refine Below.drew ?_)) hcp; obtain ⟨rY1, rY2⟩ := bcell hq2; have HQY := Lib.hid hq2; have HOY := Lib.hid hq3; have HLY := Lib.hid hq4; have hs := hq2.size; (try simp at hs); have zY0 : W0.heap.size < wY.heap.size := (by omega); (try (have zY1 : W0.heap.size + 1 < wY.heap.size := (by omega))); (try (have zY2 : W0.heap.size + 1 + 1 < wY.heap.size := (by omega))); replace HBc := Lib.hid hq1; clear hcp hq1 hq2 hq3 hq4 hs))
    all_goals
      go_wp2_with fail
      go_meet
      have HXY := Lib.hid (HOX.out.below (bel_step (by repeat (first | exact Below.refl _ _ | refine Below.alloc ?_ (by simp <;> omega) _)) HQY.out))
      first
        | exact cpMid_new HXY.out HLX.out HOY.out HLY.out HBc.out
        | (refine cpMid_set (z0 := .slice none 0 0) (z1 := .slice none 0 0) (z2 := .slice none 0 0) ?_ ?_ HXY.out HLX.out HOY.out HLY.out HBc.out
           · omega
           · repeat (first | (rw [HQY.out.block _ (by first | omega | (simp <;> omega))]) | (rw [HQX.out.block _ (by first | omega | (simp <;> omega))]) | (simp only [heap_alloc_at, World.size_alloc, heap_drew]; repeat (first | rw [if_pos trivial] | rw [if_pos (by omega)] | rw [if_neg (by omega)]))))
  case rest =>
    obtain ⟨ob, AX, cX, AY, cY, rfl, hob, hobk, ⟨hox, hlx1⟩, ⟨hoy, hly1⟩, hbc⟩ := hcut
    have HOBK := Lib.hid hobk
    have HOX := Lib.hid hox
    have HOY := Lib.hid hoy
    have HLX := Lib.hid hlx1
    have HLY := Lib.hid hly1
    have HBC := Lib.hid hbc
    clear HBc hobk hox hoy hlx1 hly1 hbc c0 c1 c2 za zb
    go_wp2_with fail
    go_loopw [4] (fun i wr => ∃ (k : Nat) (v : Value) (rs : List Value), k ≤ vs.length ∧ i = .int .i64 k ∧ CpLoop xs ys (vs.take k) W0 ob AX cX AY cY v rs wr) (fun i _ => vs.length - (intOf i).toNat)
    case atStart => exact ⟨0, .slice none 0 0, [], by omega, rfl, HOBK.out, World.ownsRow_nil _ _ _ _, ⟨by simp, fun k hk => by simp at hk⟩, HOX.out, HOY.out, HBC.out⟩
    case round =>
      obtain ⟨k, v, rs, hk, rfl, hL⟩ := hrel
      have HL := Lib.hid hL
      have ho := hL.1
      have hA1 := blk' hL.2.2.2.2.2 HA.out
      obtain ⟨⟨c0, c1, c2⟩, _⟩ := cells3 hA1
      obtain ⟨⟨d0, d1, d2⟩, _, _, f2⟩ := cells3 ho
      have zo := blk_lt ho
      have za := blk_lt hA1
      clear hL ho hA1
      by_cases hlt : k < vs.length
      · obtain ⟨bV, off, hVe, hbl, hc⟩ := HMV.out (by omega)
        obtain ⟨B, c, hc1, hI, hBn⟩ := hc k hlt
        have HL1 := HL.out
        have c5 := cell_b' HL1.2.2.2.2.2 hc1
        have HI := Lib.hid (hI.below HL1.2.2.2.2.2)
        have HBN := Lib.hid hBn
        have hrl : (vs[k]?.getD []).length ≤ 1000000 := HLR.out _ (by simp [hlt])
        have HTK : Hid (vs.take (k + 1) = vs.take k ++ [vs[k]?.getD []]) := by unfold Hid; rw [List.take_succ_eq_append_getElem hlt]; simp [hlt]
        clear hc hc1 hI hBn HL1
        generalize vs[k]?.getD [] = r at *
        subst hVe
        have t1 : (k : Int) < (vs.length : Int) := by omega
        have t2 : (0 : Int) ≤ (k : Int) := by omega
        have HBc := Lib.hid (Below.refl wr.heap.size wr)
        go_wp2_with fail
        have zV : bV < wr.heap.size := Nat.lt_of_lt_of_le hbl HL.out.2.2.2.2.2.size
        go_region_law
          (first | (refine step_copy _ rfl (.tmp 23) (.tmp 28) 22 rfl 3 i0 (.int .i64 0) 1 8 Try.underlying22 hi0 hz0 hz1 hz2 rfl (by decide) _ rfl B r.length c rfl (IV r) (by simp [IV]) (ints_cells (Ints.below HI.out (by repeat (first | exact HBc.out | refine Below.alloc ?_ (by have := HBc.out.size; simp <;> omega) _ | refine Below.drew ?_)))) HBN.out (by simp only [maxLen]; omega) (by omega) ?_; intro AR cR wR hcp; obtain ⟨hq1, hq2, hq3, hq4⟩ := copied_in (W0 := wr) (by repeat (first | exact HBc.out | refine Below.alloc ?_ (by have := HBc.out.size; simp <;> omega) _ | refine Below.drew ?_)) hcp; have HOR := Lib.hid hq3; have HLR2 := Lib.hid hq4; have zR := Nat.lt_of_lt_of_le zo hq1.size; replace d2 := cell_b' hq1 d2; replace HBc := Lib.hid hq1; clear hcp hq1 hq2 hq3 hq4) | (refine step_append_lies _ rfl (.tmp 22) (.tmp 30) 23 rfl W0.heap.size 22 i1 (.slice none 0 0) 1 24 Try.underlying23 hi1 hy0 hy1 hy2 rfl (by decide) v (vs.take k).length rs rfl (World.ownsRow.alloc (own_below HL.out.2.1 HBc.out) _) ⟨wR.heap.size, 0, none⟩ 1 1 [.slice AR r.length cR] rfl rfl (cell_one_new _ _ _) (by simp [Value.oneCell']) (by decide) (by simp only [maxLen, List.length_take]; omega) (by simp only [List.length_take]; omega) (by have := HBc.out.size; have := HL.out.2.2.2.2.2.size; simp; omega) _ rfl ?_; intro g cap w7 hown7 hgr7 hg7 hlt7; have HCL := Lib.hid (cp_app HL.out HBc.out HOR.out HLR2.out hown7 hgr7); obtain ⟨⟨x0, x1, x2⟩, y0', y1', y2'⟩ := cells3 HCL.out.1; clear hown7 hgr7 hg7 hlt7))
        all_goals
          go_wp2_with fail
          have hk' : (vs.take k).length = k := by simp; omega
          have hC := HCL.out
          rw [hk'] at hC
          refine ⟨⟨k + 1, _, _, by omega, by go_num, by rw [HTK.out]; exact cp_store hob hC.1 hC.2.1 (by simp; omega) hC.2.2.1 hC.2.2.2.1 hC.2.2.2.2.1 hC.2.2.2.2.2⟩, by simp [intOf]; omega⟩
      · obtain rfl : k = vs.length := by omega
        have hC1 := blk' HL.out.2.2.2.2.2 HC.out
        obtain ⟨⟨p0, p1, p2⟩, p3, p4, p5⟩ := cells3 hC1
        have HL1 := HL.out
        rw [List.take_length] at HL1
        obtain ⟨V', cV', hv, hM⟩ := mat_of_own HL1.2.1 HL1.2.2.1
        subst hv
        have HM := Lib.hid hM
        have HL2 := Lib.hid HL1
        have HC1 := Lib.hid hC1
        clear HL1 hM hC1
        go_wp2_with fail
        refine bodyPost_ret (v := .agg #[.slice AX xs.length cX, .slice AY ys.length cY, .slice V' vs.length cV']) (by simp [results, Try.results21, go_sem, p0, p1, p2]) rfl ?_
        obtain ⟨l1, l2, l3, l4, l5, l6⟩ := HL2.out
        have hr : ∀ (q : Nat) (cs : Array Value) (fz : Nat × Nat), some (w.heap.size + 1) = some q → wr.heap[q]? = some (.cells cs 3 fz) → False := fun q cs fz e hq => by cases e; rw [HC1.out] at hq; simp at hq
        have hg := put3_grown wr (w.heap.size + 1) (.slice AX xs.length cX) (.slice AY ys.length cY) (.slice V' vs.length cV')
        have m2 := l2.kept hg (by
          right
          intro e
          obtain ⟨cs, hq⟩ := own_type l2 _ e
          rw [HC1.out] at hq
          simp at hq)
        obtain ⟨V2, c2', e2, hM2⟩ := mat_of_own m2 (l3.step hg hr)
        cases e2
        exact ⟨_, _, _, _, _, _, rfl, ⟨(l4.step hg hr).ints, (l5.step hg hr).ints, hM2, HLX.out, HLY.out⟩, (HB.out.trans (l6.mono HB.out.size)).grown hg (Nat.le_trans HB.out.size l6.size) (fun k e => by cases e; omega)⟩
end Go.Proofs.Ytfaiogajaaclcaa
