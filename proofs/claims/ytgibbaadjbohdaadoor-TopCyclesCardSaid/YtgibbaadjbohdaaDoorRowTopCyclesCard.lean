/- The law TopCycles returns true for every input; no conditions. -/
import Derived.Test.YtgibbaadjbohdaaDoorPTopCyclesCard11
import Derived.Test.YtgibbaadjbohdaaDoorTie
import Derived.Test.YtgibbaadjbohdaaDoorCards
import Derived.LaidLaws
import Derived.LaidHandle
import Derived.ChangeSame
import Derived.ChangeVars
import Derived.SevenTiedAt
import Derived.Stop.Joined
namespace Go.Proofs.YtgibbaadjbohdaaDoor.topCycles
open Go.ChangeShapes Go.WideShapes Go.ChangeAt Go.RowKit Go.Joins Lift

theorem law (ds0 ds1 ds2 : List D) (h0 : CfL [.sl [.int, .int, .int], .sl [.int, .int, .int, .bool], .int, .sl [.int, .int], .sl [.int, .int, .int, .int]] ds0) (h1 : CfL [.int, .sl [.int], .sl [.int], .sl [.sl [.int]], .int, .int, .int, .sl [.int, .int]] ds1) (h2 : CfL [.int] ds2) :
    AC Tryd.prog 3 [oneD true ds0, oneD true ds1, oneD false ds2] [] [] (.val (.bool true)) := by
  obtain ⟨r, W, rfl⟩ := in_hang h0
  obtain ⟨h, wd, l, rfl, hh⟩ := in_hoi h1
  obtain ⟨n, _, rfl, e⟩ := fin_int h2
  cases e
  exact lawCycles_ac r W h wd l n hh
/-- a world in which the two variables hold what the row says -/
noncomputable def laidWorld (os : Os) : World :=
  let w0 := World.holding Tryd.prog os ⟨#[], #[], []⟩
  { w0 with heap := (w0.heap.modify 0 fun
      | .cells _ t frozen => .cells #[.int .i64 (-1), .int .i64 (-1)] t frozen
      | o => o).modify 1 fun
      | .cells _ t frozen => .cells #[.int .i64 (-2), .int .i64 (-2)] t frozen
      | o => o }
set_option maxRecDepth 100000 in
theorem laidWorld_met (os : Os) (args : Array Value) : laidMetH Tryd.prog Rows.topCyclesRow.laid ((laidWorld os).forCall (fun _ _ => 0) ⟨#[], args, []⟩).memory :=
  show laidMet Tryd.prog Rows.topCyclesRow.laid ((laidWorld os).forCall (fun _ _ => 0) ⟨#[], args, []⟩).memory from laidMet_of_run' 8 (by kernel_rfl) (by kernel_rfl)
theorem laid_gl {W : World} (h : laidMetH Tryd.prog Rows.topCyclesRow.laid W) : ∀ g, Rep W (fun _ => none) (fun _ => False) (.pointer (some ⟨g, 0, none⟩)) (GL g) := by
  have h' : laidMet Tryd.prog Rows.topCyclesRow.laid W := h
  obtain ⟨ps, hv, _⟩ := h'
  obtain ⟨c0, q, hq⟩ := spot_cells (e := 3) (by kernel_rfl) (by kernel_rfl) Tryd.underlying75 Tryd.underlying3 (by kernel_rfl) (by kernel_rfl) hv
  obtain ⟨c1, _⟩ := spot_cells (e := 3) (by kernel_rfl) (by kernel_rfl) Tryd.underlying75 Tryd.underlying3 (by kernel_rfl) (by kernel_rfl) hq
  exact gl_of c0 c1
set_option maxRecDepth 100000 in
set_option maxHeartbeats 1000000 in
theorem lifted (os : Os) (started : os.Started) (H : Type) (enc : TypeId × Value → H) :
    ReturnsInHanded {} Tryd.checked os 3 .any (fun w args => (Rows.topCyclesSpec.pre enc Tryd.prog Tryd.f3 Rows.topCyclesRow.domain false w args ∧ laidMetH Tryd.prog Rows.topCyclesRow.laid w) ∧ sizedMet enc Tryd.prog Tryd.f3 (OpenSpec.ofChange Rows.topCyclesSpec) false w args) (Rows.topCyclesSpec.post enc Tryd.prog Tryd.f3 false true false false) := by
  refine returnsInHanded_of_change_and (C := Tryd.checked) (X := fun w _ => laidMetH Tryd.prog Rows.topCyclesRow.laid w) (fun _ _ _ hh h => h.of_heap hh) Tryd.own started (by kernel_rfl) Tryd.func3
    (ChangeSpec.witness_at (enc := enc) (C := Tryd.checked) (os := os) (X := fun w _ => laidMetH Tryd.prog Rows.topCyclesRow.laid w) false (laidWorld os) #[.agg #[.slice none 0 0, .slice none 0 0, .int .i64 0, .slice none 0 0, .slice none 0 0], .agg #[.int .i64 0, .slice none 0 0, .slice none 0 0, .slice none 0 0, .int .i64 0, .int .i64 0, .int .i64 0, .slice none 0 0], .int .i64 0] 8 rfl (by kernel_rfl) (by kernel_rfl) (by kernel_rfl) (by kernel_rfl) (by kernel_rfl) (laidWorld_met os _)) ?_
  intro W base args ds gs before hval0 hW hcnd _ hL _
  have hval : ∀ (j : Nat) t v, Tryd.f3.params[j]? = some t → args[j]? = some v → Value.okWide Tryd.prog W .any base t v := hval0
  have hW' := hW
  obtain ⟨p, q, hA0, hV, rfl, hfz, hnd⟩ := hW
  have hA : DataW.TrodAll enc Tryd.prog W 0 (fun _ => true) true Tryd.f3.params.toList args.toList ds p := hA0
  rw [Tryd.params3] at hA hval
  obtain ⟨u0, vs0, d0, ds0, p0, q0, hargs, rfl, rfl, h0, r0⟩ := trodAll_cons hA
  obtain ⟨u1, vs1, d1, ds1, p1, q1, rfl, rfl, rfl, h1, r1⟩ := trodAll_cons r0
  obtain ⟨u2, vs2, d2, ds2, p2, q2, rfl, rfl, rfl, h2, r2⟩ := trodAll_cons r1
  obtain ⟨rfl, rfl, rfl⟩ := trodAll_nil r2
  obtain rfl : args = #[u0, u1, u2] := by cases args; simp_all
  obtain ⟨rfl, rfl⟩ := trodVars_none hV
  have k0 := h0
  have lt0 : ∀ x ∈ p0, x.block < W.heap.size := by obtain ⟨m, hm⟩ := k0; exact DataW.trod_lt m _ _ _ hm
  have k1 := h1
  have lt1 : ∀ x ∈ p1, x.block < W.heap.size := by obtain ⟨m, hm⟩ := k1; exact DataW.trod_lt m _ _ _ hm
  have k2 := h2
  have lt2 : ∀ x ∈ p2, x.block < W.heap.size := by obtain ⟨m, hm⟩ := k2; exact DataW.trod_lt m _ _ _ hm
  obtain ⟨e0, c0, a0⟩ := open_arg (m := 9) (ss := [.sl [.int, .int, .int], .sl [.int, .int, .int, .bool], .int, .sl [.int, .int], .sl [.int, .int, .int, .int]]) Tryd.underlying29 (fun _ => agg_struct Tryd.underlying29 (hval 0 29 _ rfl rfl)) (fun h => nomatch h) h0 (by kernel_rfl)
  obtain ⟨e1, c1, a1⟩ := open_arg (m := 9) (ss := [.int, .sl [.int], .sl [.int], .sl [.sl [.int]], .int, .int, .int, .sl [.int, .int]]) Tryd.underlying40 (fun _ => agg_struct Tryd.underlying40 (hval 1 40 _ rfl rfl)) (fun h => nomatch h) h1 (by kernel_rfl)
  obtain ⟨e2, c2, a2⟩ := open_arg (m := 9) (ss := [.int]) Tryd.underlying3 (fun h => nomatch h) (fun _ => notagg_int Tryd.underlying3 (hval 2 3 _ rfl rfl)) h2 (by kernel_rfl)
  clear hA0 hval0
  refine ((law e0 e1 e2 c0 c1 c2).calls rfl ?_ (laid_gl hL)).mono fun e W' ⟨he, bel⟩ => ?_
  · intro i hi
    match i, hi with
    | 0, _ => exact a0
    | 1, _ => exact a1
    | 2, _ => exact a2
  subst he
  exact ⟨_, rfl, _, _, _, [], _, [], hW', trodAll_mk1 (shut_bool Tryd.underlying4 _), (trodAll_cons_mk (Below.trod Tryd.laidOut (by kernel_rfl) (of_decide_eq_true (by kernel_rfl)) k0 bel lt0) (trodAll_cons_mk (Below.trod Tryd.laidOut (by kernel_rfl) (of_decide_eq_true (by kernel_rfl)) k1 bel lt1) (trodAll_cons_mk (Below.trod Tryd.laidOut (by kernel_rfl) (of_decide_eq_true (by kernel_rfl)) k2 bel lt2) trodAll_mk0))), rfl, bel.frame _, fun h => by cases h⟩
theorem over : Rows.topCyclesRow.holds Tryd.pinned (OpenSpec.ofChange Rows.topCyclesSpec) :=
  OpenClaim.holds_of_wide 3 Tryd.f3 rfl rfl rfl rfl rfl rfl rfl ⟨rfl, rfl, rfl, rfl, rfl⟩ rfl rfl rfl rfl rfl (by kernel_rfl) Tryd.func3 (by kernel_rfl)
    (of_decide_eq_true (by kernel_rfl)) (by unfold Func.isWrapper; first | (rw [if_pos (by decide +kernel)]; kernel_rfl) | (rw [if_neg (by decide +kernel)]; exact ⟨rfl, rfl⟩))
    (fun os started H enc _ => lifted os started H enc)
end Go.Proofs.YtgibbaadjbohdaaDoor.topCycles
namespace Go.Proofs.YtgibbaadjbohdaaDoor
set_option maxRecDepth 100000 in
/-- the statement -/
theorem topCyclesCard_holds : Rows.TopCyclesCardSaid :=
  Claim7.holds_tied_plain_at .later [] [.data, .data] true Rows.topCyclesCard.stood.harness false
    topCycles.over (fun _ h => by cases h) (by kernel_rfl) (fun _ h => by cases h) topCycles_row_tie rfl ⟨rfl, rfl⟩ (by kernel_rfl) rfl
    (fun f fn hf hfn => by
      obtain rfl : f = 3 := Option.some.inj ((show Tryd.prog.funcNamed "swashplate/swashplatetop.TopCycles" = some 3 by kernel_rfl).symm.trans hf) |>.symm
      obtain rfl : fn = Tryd.f3 := (Option.some.inj (Tryd.func3.symm.trans hfn)).symm
      exact ⟨by kernel_rfl, fun j t ht => by
        rw [Tryd.params3] at ht
        rcases j with _ | j
        · cases ht; exact (by kernel_rfl)
        · rcases j with _ | j
          · cases ht; exact (by kernel_rfl)
          · first | (rcases j with _ | j; (cases ht; exact (by kernel_rfl)); simp at ht) | simp at ht⟩)
    (by kernel_rfl)
#print axioms topCyclesCard_holds
end Go.Proofs.YtgibbaadjbohdaaDoor
