/- The law TopDescends returns true for every input; no conditions. -/
import Derived.Test.YtbncpngjclabhaaGreatPTopDescends14
namespace Go.Proofs.YtbncpngjclabhaaGreat.topDescends
open Go.ChangeShapes Go.WideShapes Go.ChangeAt Go.RowKit Go.Joins Lift

theorem law (ds0 ds1 ds2 : List D) (h0 : CfL [.sl [.int], .sl [.int], .sl [.sl [.int]], .sl [.int], .sl [.int], .sl [.sl [.int]], .sl [.int], .sl [.int], .sl [.sl [.int]], .sl [.int], .sl [.int], .sl [.sl [.int]], .sl [.int], .sl [.int], .sl [.sl [.int]], .sl [.int], .sl [.int], .sl [.sl [.int]], .sl [.int], .sl [.int], .sl [.sl [.int]], .sl [.int], .sl [.int], .sl [.sl [.int]], .int, .int, .int, .int, .int, .int, .int, .int, .int] ds0) (h1 : CfL [.int, .int, .int, .int, .int, .int, .int, .int] ds1) (h2 : CfL [.int, .int, .int, .sl [.int, .int], .int, .int, .int] ds2) :
    AC Tryz.prog 3 [oneD true ds0, oneD true ds1, oneD true ds2] [] [] (.val (.bool true)) := by
  obtain ⟨c, rfl, hc⟩ := in_crf h0
  obtain ⟨a, rfl⟩ := in_airC h1
  obtain ⟨f, p, rfl⟩ := in_fal h2
  exact descends_ac c a f p hc
set_option maxRecDepth 100000 in
set_option maxHeartbeats 1000000 in
theorem lifted (os : Os) (started : os.Started) (H : Type) (enc : TypeId × Value → H) :
    ReturnsInHanded {} Tryz.checked os 3 .any (Rows.topDescendsSpec.pre6 enc Tryz.prog Tryz.f3 Rows.topDescendsRow.domain false) (Rows.topDescendsSpec.post enc Tryz.prog Tryz.f3 false true false false) := by
  refine returnsInHanded_of_change (C := Tryz.checked) Tryz.own started (by kernel_rfl) Tryz.func3
    (ChangeSpec.witness6 (enc := enc) (C := Tryz.checked) false ⟨#[], #[.agg #[.slice none 0 0, .slice none 0 0, .slice none 0 0, .slice none 0 0, .slice none 0 0, .slice none 0 0, .slice none 0 0, .slice none 0 0, .slice none 0 0, .slice none 0 0, .slice none 0 0, .slice none 0 0, .slice none 0 0, .slice none 0 0, .slice none 0 0, .slice none 0 0, .slice none 0 0, .slice none 0 0, .slice none 0 0, .slice none 0 0, .slice none 0 0, .slice none 0 0, .slice none 0 0, .slice none 0 0, .int .i64 0, .int .i64 0, .int .i64 0, .int .i64 0, .int .i64 0, .int .i64 0, .int .i64 0, .int .i64 0, .int .i64 0], .agg #[.int .i64 0, .int .i64 0, .int .i64 0, .int .i64 0, .int .i64 0, .int .i64 0, .int .i64 0, .int .i64 0], .agg #[.int .i64 0, .int .i64 0, .int .i64 0, .slice none 0 0, .int .i64 0, .int .i64 0, .int .i64 0]], []⟩ 8 (by kernel_rfl) (by kernel_rfl) (by kernel_rfl) (by kernel_rfl)) ?_
  intro W base args ds gs before hval0 hW hcnd _
  have hval : ∀ (j : Nat) t v, Tryz.f3.params[j]? = some t → args[j]? = some v → Value.okWide Tryz.prog W .any base t v := hval0
  have hW' := hW
  obtain ⟨p, q, hA0, hV, rfl, hfz, hnd⟩ := hW
  have hA : DataW.TrodAll enc Tryz.prog W 0 (fun _ => true) true Tryz.f3.params.toList args.toList ds p := hA0
  rw [Tryz.params3] at hA hval
  obtain ⟨u0, vs0, d0, ds0, p0, q0, hargs, rfl, rfl, h0, r0⟩ := trodAll_cons hA
  obtain ⟨u1, vs1, d1, ds1, p1, q1, rfl, rfl, rfl, h1, r1⟩ := trodAll_cons r0
  obtain ⟨u2, vs2, d2, ds2, p2, q2, rfl, rfl, rfl, h2, r2⟩ := trodAll_cons r1
  obtain ⟨rfl, rfl, rfl⟩ := trodAll_nil r2
  obtain rfl : args = #[u0, u1, u2] := by cases args; simp_all
  obtain ⟨rfl, rfl⟩ := trodVars_none hV
  have k0 := h0
  have lt0 : ∀ x ∈ p0, x.block < W.heap.size := by obtain ⟨m, hm⟩ := k0; exact DataW.trod_lt m _ _ _ hm
  have k1 := h1
  have lt1 : ∀ x ∈ p1, x.block < W.heap.size := by obtain ⟨m, hm⟩ := k1; exact DataW.trod_lt m _ _ _ hm
  have k2 := h2
  have lt2 : ∀ x ∈ p2, x.block < W.heap.size := by obtain ⟨m, hm⟩ := k2; exact DataW.trod_lt m _ _ _ hm
  obtain ⟨e0, c0, a0⟩ := open_arg (m := 9) (ss := [.sl [.int], .sl [.int], .sl [.sl [.int]], .sl [.int], .sl [.int], .sl [.sl [.int]], .sl [.int], .sl [.int], .sl [.sl [.int]], .sl [.int], .sl [.int], .sl [.sl [.int]], .sl [.int], .sl [.int], .sl [.sl [.int]], .sl [.int], .sl [.int], .sl [.sl [.int]], .sl [.int], .sl [.int], .sl [.sl [.int]], .sl [.int], .sl [.int], .sl [.sl [.int]], .int, .int, .int, .int, .int, .int, .int, .int, .int]) Tryz.underlying29 (fun _ => agg_struct Tryz.underlying29 (hval 0 29 _ rfl rfl)) (fun h => nomatch h) h0 (by kernel_rfl)
  obtain ⟨e1, c1, a1⟩ := open_arg (m := 9) (ss := [.int, .int, .int, .int, .int, .int, .int, .int]) Tryz.underlying33 (fun _ => agg_struct Tryz.underlying33 (hval 1 33 _ rfl rfl)) (fun h => nomatch h) h1 (by kernel_rfl)
  obtain ⟨e2, c2, a2⟩ := open_arg (m := 9) (ss := [.int, .int, .int, .sl [.int, .int], .int, .int, .int]) Tryz.underlying40 (fun _ => agg_struct Tryz.underlying40 (hval 2 40 _ rfl rfl)) (fun h => nomatch h) h2 (by kernel_rfl)
  clear hA0 hval0
  refine ((law e0 e1 e2 c0 c1 c2).calls rfl ?_).mono fun e W' ⟨he, bel⟩ => ?_
  · intro i hi
    match i, hi with
    | 0, _ => exact a0
    | 1, _ => exact a1
    | 2, _ => exact a2
  subst he
  exact ⟨_, rfl, _, _, _, [], _, [], hW', trodAll_mk1 (shut_bool Tryz.underlying4 _), (trodAll_cons_mk (Below.trod Tryz.laidOut (by kernel_rfl) (of_decide_eq_true (by kernel_rfl)) k0 bel lt0) (trodAll_cons_mk (Below.trod Tryz.laidOut (by kernel_rfl) (of_decide_eq_true (by kernel_rfl)) k1 bel lt1) (trodAll_cons_mk (Below.trod Tryz.laidOut (by kernel_rfl) (of_decide_eq_true (by kernel_rfl)) k2 bel lt2) trodAll_mk0))), rfl, bel.frame _, fun h => by cases h⟩
theorem over : Rows.topDescendsRow.holds Tryz.pinned (OpenSpec.ofChange Rows.topDescendsSpec) :=
  OpenClaim.holds_of_wide 3 Tryz.f3 rfl rfl rfl rfl rfl rfl rfl ⟨rfl, rfl, rfl, rfl, rfl⟩ rfl rfl rfl rfl rfl (by kernel_rfl) Tryz.func3 (by kernel_rfl)
    (of_decide_eq_true (by kernel_rfl)) (by unfold Func.isWrapper; first | (rw [if_pos (by decide +kernel)]; kernel_rfl) | (rw [if_neg (by decide +kernel)]; exact ⟨rfl, rfl⟩))
    (fun os started H enc _ => lifted os started H enc)
end Go.Proofs.YtbncpngjclabhaaGreat.topDescends
namespace Go.Proofs.YtbncpngjclabhaaGreat
/-- the statement -/
theorem topDescends_holds : Rows.TopDescendsSaid := topDescends.over
#print axioms topDescends_holds
end Go.Proofs.YtbncpngjclabhaaGreat
