/- The law RecordLives returns true for every input; no conditions. -/
import Derived.Test.YtdcodicoclecnaaDoorPRecordLivesCard12
import Derived.Test.YtdcodicoclecnaaDoorTie
import Derived.Test.YtdcodicoclecnaaDoorCards
import Derived.LaidLaws
import Derived.LaidHandle
import Derived.ChangeSame
import Derived.ChangeVars
import Derived.SevenTiedAt
import Derived.Stop.Joined
namespace Go.Proofs.YtdcodicoclecnaaDoor.recordLives
open Go.ChangeShapes Go.WideShapes Go.ChangeAt Go.RowKit Go.Joins Lift

theorem law (ds0 ds1 : List D) (h0 : CfL [.int, .int, .int, .int, .int, .sl [.int, .int, .int, .bool, .int, .int, .int, .int, .int], .sl [.sl [.int]]] ds0) (h1 : CfL [.sl [.int, .int, .int], .sl [.int, .int, .int, .bool], .int, .sl [.int, .int], .sl [.int, .int, .int, .int], .sl [.int, .int, .bool], .int, .int, .int] ds1) :
    AC Tryd.prog 3 [oneD true ds0, oneD true ds1] [] [] (.val (.bool true)) := by
  obtain ⟨l, frs, rfl, hl, hf⟩ := in_tape h0
  obtain ⟨r, W, cs, n, m, o, rfl, hn⟩ := in_lives h1
  exact lawLives_ac l frs r W cs n m o hl hf hn
/-- a world in which the two variables hold what the row says -/
noncomputable def laidWorld (os : Os) : World :=
  let w0 := World.holding Tryd.prog os ⟨#[], #[], []⟩
  { w0 with heap := (w0.heap.modify 0 fun
      | .cells _ t frozen => .cells #[.int .i64 (-1), .int .i64 (-1)] t frozen
      | o => o).modify 1 fun
      | .cells _ t frozen => .cells #[.int .i64 (-2), .int .i64 (-2)] t frozen
      | o => o }
set_option maxRecDepth 100000 in
theorem laidWorld_met (os : Os) (args : Array Value) : laidMetH Tryd.prog Rows.recordLivesRow.laid ((laidWorld os).forCall (fun _ _ => 0) ⟨#[], args, []⟩).memory :=
  show laidMet Tryd.prog Rows.recordLivesRow.laid ((laidWorld os).forCall (fun _ _ => 0) ⟨#[], args, []⟩).memory from laidMet_of_run' 8 (by kernel_rfl) (by kernel_rfl)
theorem laid_gl {W : World} (h : laidMetH Tryd.prog Rows.recordLivesRow.laid W) : ∀ g, Rep W (fun _ => none) (fun _ => False) (.pointer (some ⟨g, 0, none⟩)) (GL g) := by
  have h' : laidMet Tryd.prog Rows.recordLivesRow.laid W := h
  obtain ⟨ps, hv, _⟩ := h'
  obtain ⟨c0, q, hq⟩ := spot_cells (e := 3) (by kernel_rfl) (by kernel_rfl) Tryd.underlying83 Tryd.underlying3 (by kernel_rfl) (by kernel_rfl) hv
  obtain ⟨c1, _⟩ := spot_cells (e := 3) (by kernel_rfl) (by kernel_rfl) Tryd.underlying83 Tryd.underlying3 (by kernel_rfl) (by kernel_rfl) hq
  exact gl_of c0 c1
set_option maxRecDepth 100000 in
set_option maxHeartbeats 1000000 in
theorem lifted (os : Os) (started : os.Started) (H : Type) (enc : TypeId × Value → H) :
    ReturnsInHanded {} Tryd.checked os 3 .any (fun w args => (Rows.recordLivesSpec.pre enc Tryd.prog Tryd.f3 Rows.recordLivesRow.domain false w args ∧ laidMetH Tryd.prog Rows.recordLivesRow.laid w) ∧ sizedMet enc Tryd.prog Tryd.f3 (OpenSpec.ofChange Rows.recordLivesSpec) false w args) (Rows.recordLivesSpec.post enc Tryd.prog Tryd.f3 false true false false) := by
  refine returnsInHanded_of_change_and (C := Tryd.checked) (X := fun w _ => laidMetH Tryd.prog Rows.recordLivesRow.laid w) (fun _ _ _ hh h => h.of_heap hh) Tryd.own started (by kernel_rfl) Tryd.func3
    (ChangeSpec.witness_at (enc := enc) (C := Tryd.checked) (os := os) (X := fun w _ => laidMetH Tryd.prog Rows.recordLivesRow.laid w) false (laidWorld os) #[.agg #[.int .i64 0, .int .i64 0, .int .i64 0, .int .i64 0, .int .i64 0, .slice none 0 0, .slice none 0 0], .agg #[.slice none 0 0, .slice none 0 0, .int .i64 0, .slice none 0 0, .slice none 0 0, .slice none 0 0, .int .i64 0, .int .i64 0, .int .i64 0]] 8 rfl (by kernel_rfl) (by kernel_rfl) (by kernel_rfl) (by kernel_rfl) (by kernel_rfl) (laidWorld_met os _)) ?_
  intro W base args ds gs before hval0 hW hcnd _ hL _
  have hval : ∀ (j : Nat) t v, Tryd.f3.params[j]? = some t → args[j]? = some v → Value.okWide Tryd.prog W .any base t v := hval0
  have hW' := hW
  obtain ⟨p, q, hA0, hV, rfl, hfz, hnd⟩ := hW
  have hA : DataW.TrodAll enc Tryd.prog W 0 (fun _ => true) true Tryd.f3.params.toList args.toList ds p := hA0
  rw [Tryd.params3] at hA hval
  obtain ⟨u0, vs0, d0, ds0, p0, q0, hargs, rfl, rfl, h0, r0⟩ := trodAll_cons hA
  obtain ⟨u1, vs1, d1, ds1, p1, q1, rfl, rfl, rfl, h1, r1⟩ := trodAll_cons r0
  obtain ⟨rfl, rfl, rfl⟩ := trodAll_nil r1
  obtain rfl : args = #[u0, u1] := by cases args; simp_all
  obtain ⟨rfl, rfl⟩ := trodVars_none hV
  have k0 := h0
  have lt0 : ∀ x ∈ p0, x.block < W.heap.size := by obtain ⟨m, hm⟩ := k0; exact DataW.trod_lt m _ _ _ hm
  have k1 := h1
  have lt1 : ∀ x ∈ p1, x.block < W.heap.size := by obtain ⟨m, hm⟩ := k1; exact DataW.trod_lt m _ _ _ hm
  obtain ⟨e0, c0, a0⟩ := open_arg (m := 9) (ss := [.int, .int, .int, .int, .int, .sl [.int, .int, .int, .bool, .int, .int, .int, .int, .int], .sl [.sl [.int]]]) Tryd.underlying28 (fun _ => agg_struct Tryd.underlying28 (hval 0 28 _ rfl rfl)) (fun h => nomatch h) h0 (by kernel_rfl)
  obtain ⟨e1, c1, a1⟩ := open_arg (m := 9) (ss := [.sl [.int, .int, .int], .sl [.int, .int, .int, .bool], .int, .sl [.int, .int], .sl [.int, .int, .int, .int], .sl [.int, .int, .bool], .int, .int, .int]) Tryd.underlying41 (fun _ => agg_struct Tryd.underlying41 (hval 1 41 _ rfl rfl)) (fun h => nomatch h) h1 (by kernel_rfl)
  clear hA0 hval0
  refine ((law e0 e1 c0 c1).calls rfl ?_ (laid_gl hL)).mono fun e W' ⟨he, bel⟩ => ?_
  · intro i hi
    match i, hi with
    | 0, _ => exact a0
    | 1, _ => exact a1
  subst he
  exact ⟨_, rfl, _, _, _, [], _, [], hW', trodAll_mk1 (shut_bool Tryd.underlying4 _), (trodAll_cons_mk (Below.trod Tryd.laidOut (by kernel_rfl) (of_decide_eq_true (by kernel_rfl)) k0 bel lt0) (trodAll_cons_mk (Below.trod Tryd.laidOut (by kernel_rfl) (of_decide_eq_true (by kernel_rfl)) k1 bel lt1) trodAll_mk0)), rfl, bel.frame _, fun h => by cases h⟩
theorem over : Rows.recordLivesRow.holds Tryd.pinned (OpenSpec.ofChange Rows.recordLivesSpec) :=
  OpenClaim.holds_of_wide 3 Tryd.f3 rfl rfl rfl rfl rfl rfl rfl ⟨rfl, rfl, rfl, rfl, rfl⟩ rfl rfl rfl rfl rfl (by kernel_rfl) Tryd.func3 (by kernel_rfl)
    (of_decide_eq_true (by kernel_rfl)) (by unfold Func.isWrapper; first | (rw [if_pos (by decide +kernel)]; kernel_rfl) | (rw [if_neg (by decide +kernel)]; exact ⟨rfl, rfl⟩))
    (fun os started H enc _ => lifted os started H enc)
end Go.Proofs.YtdcodicoclecnaaDoor.recordLives
namespace Go.Proofs.YtdcodicoclecnaaDoor
set_option maxRecDepth 100000 in
/-- the statement -/
theorem recordLivesCard_holds : Rows.RecordLivesCardSaid :=
  Claim7.holds_tied_plain_at .later [] [.data, .data] true Rows.recordLivesCard.stood.harness false
    recordLives.over (fun _ h => by cases h) (by kernel_rfl) (fun _ h => by cases h) recordLives_row_tie rfl ⟨rfl, rfl⟩ (by kernel_rfl) rfl
    (fun f fn hf hfn => by
      obtain rfl : f = 3 := Option.some.inj ((show Tryd.prog.funcNamed "swashplate/swashplatelaw12.RecordLives" = some 3 by kernel_rfl).symm.trans hf) |>.symm
      obtain rfl : fn = Tryd.f3 := (Option.some.inj (Tryd.func3.symm.trans hfn)).symm
      exact ⟨by kernel_rfl, fun j t ht => by
        rw [Tryd.params3] at ht
        rcases j with _ | j
        · cases ht; exact (by kernel_rfl)
        · rcases j with _ | j
          · cases ht; exact (by kernel_rfl)
          · first | (rcases j with _ | j; (cases ht; exact (by kernel_rfl)); simp at ht) | simp at ht⟩)
    (by kernel_rfl)
#print axioms recordLivesCard_holds
end Go.Proofs.YtdcodicoclecnaaDoor
