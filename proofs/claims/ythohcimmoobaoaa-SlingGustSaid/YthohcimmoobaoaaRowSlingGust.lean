/- The law SlingGust returns true for every input; no conditions. -/
import Derived.Test.YthohcimmoobaoaaPSlingGust
namespace Go.Proofs.Ythohcimmoobaoaa.slingGust
open Go.ChangeShapes Go.WideShapes Go.ChangeAt Go.RowKit Go.Joins Lift

theorem law (ds0 ds1 : List D) (h0 : CfL [.int, .int, .int] ds0) (h1 : CfL [.sl [.int, .int], .int, .int, .int, .int, .int] ds1) :
    AC Try.prog 13 [oneD true ds0, oneD true ds1] [] [] (.val (.bool true)) := by
  obtain ⟨s, rfl, hs⟩ := in_3 h0
  obtain ⟨x, rfl, hx⟩ := in_sts h1
  exact lawGust_ac s x hx
set_option maxRecDepth 100000 in
set_option maxHeartbeats 1000000 in
theorem lifted (os : Os) (started : os.Started) (H : Type) (enc : TypeId × Value → H) :
    ReturnsInHanded {} Try.checked os 13 .any (Rows.slingGustSpec.pre6 enc Try.prog Try.f13 Rows.slingGustRow.domain false) (Rows.slingGustSpec.post enc Try.prog Try.f13 false true false false) := by
  refine returnsInHanded_of_change (C := Try.checked) Try.own started (by kernel_rfl) Try.func13
    (ChangeSpec.witness6 (enc := enc) (C := Try.checked) false ⟨#[], #[.agg #[.int .i64 0, .int .i64 0, .int .i64 0], .agg #[.slice none 0 0, .int .i64 0, .int .i64 0, .int .i64 0, .int .i64 0, .int .i64 0]], []⟩ 8 (by kernel_rfl) (by kernel_rfl) (by kernel_rfl) (by kernel_rfl)) ?_
  intro W base args ds gs before hval0 hW hcnd _
  have hval : ∀ (j : Nat) t v, Try.f13.params[j]? = some t → args[j]? = some v → Value.okWide Try.prog W .any base t v := hval0
  have hW' := hW
  obtain ⟨p, q, hA0, hV, rfl, hfz, hnd⟩ := hW
  have hA : DataW.TrodAll enc Try.prog W 0 (fun _ => true) true Try.f13.params.toList args.toList ds p := hA0
  rw [Try.params13] at hA hval
  obtain ⟨u0, vs0, d0, ds0, p0, q0, hargs, rfl, rfl, h0, r0⟩ := trodAll_cons hA
  obtain ⟨u1, vs1, d1, ds1, p1, q1, rfl, rfl, rfl, h1, r1⟩ := trodAll_cons r0
  obtain ⟨rfl, rfl, rfl⟩ := trodAll_nil r1
  obtain rfl : args = #[u0, u1] := by cases args; simp_all
  obtain ⟨rfl, rfl⟩ := trodVars_none hV
  have k0 := h0
  have lt0 : ∀ x ∈ p0, x.block < W.heap.size := by obtain ⟨m, hm⟩ := k0; exact DataW.trod_lt m _ _ _ hm
  have k1 := h1
  have lt1 : ∀ x ∈ p1, x.block < W.heap.size := by obtain ⟨m, hm⟩ := k1; exact DataW.trod_lt m _ _ _ hm
  obtain ⟨e0, c0, a0⟩ := open_arg (m := 9) (ss := [.int, .int, .int]) Try.underlying23 (fun _ => agg_struct Try.underlying23 (hval 0 23 _ rfl rfl)) (fun h => nomatch h) h0 (by kernel_rfl)
  obtain ⟨e1, c1, a1⟩ := open_arg (m := 9) (ss := [.sl [.int, .int], .int, .int, .int, .int, .int]) Try.underlying70 (fun _ => agg_struct Try.underlying70 (hval 1 70 _ rfl rfl)) (fun h => nomatch h) h1 (by kernel_rfl)
  clear hA0 hval0
  refine ((law e0 e1 c0 c1).calls rfl ?_).mono fun e W' ⟨he, bel⟩ => ?_
  · intro i hi
    match i, hi with
    | 0, _ => exact a0
    | 1, _ => exact a1
  subst he
  exact ⟨_, rfl, _, _, _, [], _, [], hW', trodAll_mk1 (shut_bool Try.underlying4 _), (trodAll_cons_mk (Below.trod Try.laidOut (by kernel_rfl) (of_decide_eq_true (by kernel_rfl)) k0 bel lt0) (trodAll_cons_mk (Below.trod Try.laidOut (by kernel_rfl) (of_decide_eq_true (by kernel_rfl)) k1 bel lt1) trodAll_mk0)), rfl, bel.frame _, fun h => by cases h⟩
theorem over : Rows.slingGustRow.holds Try.pinned (OpenSpec.ofChange Rows.slingGustSpec) :=
  OpenClaim.holds_of_wide 13 Try.f13 rfl rfl rfl rfl rfl rfl rfl ⟨rfl, rfl, rfl, rfl, rfl⟩ rfl rfl rfl rfl rfl (by kernel_rfl) Try.func13 (by kernel_rfl)
    (of_decide_eq_true (by kernel_rfl)) (by unfold Func.isWrapper; first | (rw [if_pos (by decide +kernel)]; kernel_rfl) | (rw [if_neg (by decide +kernel)]; exact ⟨rfl, rfl⟩))
    (fun os started H enc _ => lifted os started H enc)
end Go.Proofs.Ythohcimmoobaoaa.slingGust
namespace Go.Proofs.Ythohcimmoobaoaa
/-- the statement -/
theorem slingGust_holds : Rows.SlingGustSaid := slingGust.over
#print axioms slingGust_holds
end Go.Proofs.Ythohcimmoobaoaa
