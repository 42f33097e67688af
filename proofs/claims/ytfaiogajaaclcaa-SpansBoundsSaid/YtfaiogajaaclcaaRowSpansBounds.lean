/- The law SpansBounds returns true for every input; no conditions. -/
import Derived.Test.YtfaiogajaaclcaaBounds
import Derived.Test.YtfaiogajaaclcaaOpen3
import Derived.Test.YtfaiogajaaclcaaOpen2
namespace Go.Proofs.Ytfaiogajaaclcaa.spansBounds
open Go.ChangeShapes Go.WideShapes Go.ChangeAt Go.RowKit Go.Joins

set_option maxRecDepth 100000 in
set_option maxHeartbeats 1000000 in
theorem lifted (os : Os) (started : os.Started) (H : Type) (enc : TypeId × Value → H) :
    ReturnsInHanded {} Try.checked os 5 .any (Rows.spansBoundsSpec.pre6 enc Try.prog Try.f5 Rows.spansBoundsRow.domain false) (Rows.spansBoundsSpec.post enc Try.prog Try.f5 false true false false) := by
  refine returnsInHanded_of_change (C := Try.checked) Try.own started (by kernel_rfl) Try.func5
    (ChangeSpec.witness6 (enc := enc) (C := Try.checked) false ⟨#[], #[.agg #[.slice none 0 0, .slice none 0 0, .slice none 0 0], .agg #[.int .i64 0, .int .i64 0, .int .i64 0, .int .i64 0]], []⟩ 8 (by kernel_rfl) (by kernel_rfl) (by kernel_rfl) (by kernel_rfl)) ?_
  intro W base args ds gs before hval0 hW hcnd _
  have hval : ∀ (j : Nat) t v, Try.f5.params[j]? = some t → args[j]? = some v → Value.okWide Try.prog W .any base t v := hval0
  have hW' := hW
  obtain ⟨p, q, hA0, hV, rfl, hfz, hnd⟩ := hW
  have hA : DataW.TrodAll enc Try.prog W 0 (fun _ => true) true Try.f5.params.toList args.toList ds p := hA0
  rw [Try.params5] at hA hval
  obtain ⟨u0, vs0, d0, ds0, p0, q0, hargs, rfl, rfl, h0, r0⟩ := trodAll_cons hA
  obtain ⟨u1, vs1, d1, ds1, p1, q1, rfl, rfl, rfl, h1, r1⟩ := trodAll_cons r0
  obtain ⟨rfl, rfl, rfl⟩ := trodAll_nil r1
  obtain rfl : args = #[u0, u1] := by cases args; simp_all
  obtain ⟨rfl, rfl⟩ := trodVars_none hV
  have k0 := h0
  have lt0 : ∀ x ∈ p0, x.block < W.heap.size := by obtain ⟨m, hm⟩ := k0; exact DataW.trod_lt m _ _ _ hm
  have k1 := h1
  have lt1 : ∀ x ∈ p1, x.block < W.heap.size := by obtain ⟨m, hm⟩ := k1; exact DataW.trod_lt m _ _ _ hm
  obtain ⟨X0, Y0, V0, cx0, cy0, cv0, xs, ys, vs, e0, tr0, ts0, tn0⟩ := Try.open_tableN (hval 0 25 _ rfl rfl) h0
  obtain ⟨xl, xh, yl, yh, e1, wf1⟩ : ∃ xl xh yl yh, u1 = .agg #[.int .i64 xl, .int .i64 xh, .int .i64 yl, .int .i64 yh] ∧ ((Lit.int .i64 xl).wf = true ∧ (Lit.int .i64 xh).wf = true ∧ (Lit.int .i64 yl).wf = true ∧ (Lit.int .i64 yh).wf = true) := by
    obtain ⟨zs, e, hl, hw⟩ := agg_ints Try.allArea (agg_struct Try.underlying43 (hval 1 43 _ rfl rfl)) h1
    match zs, hl with
    | [xl, xh, yl, yh], _ => exact ⟨xl, xh, yl, yh, e, hw _ (by simp), hw _ (by simp), hw _ (by simp), hw _ (by simp)⟩
  subst e0 e1
  clear hA0 hval0
  refine (bounds_any xs ys vs X0 Y0 V0 cx0 cy0 cv0 xl xh yl yh W ts0 tr0 tn0).mono fun e W' ⟨he, bel⟩ => ?_
  subst he
  exact ⟨_, rfl, _, _, _, [], _, [], hW', trodAll_mk1 (shut_bool Try.underlying4 _), (trodAll_cons_mk (Below.trod Try.laidOut (by kernel_rfl) (of_decide_eq_true (by kernel_rfl)) k0 bel lt0) (trodAll_cons_mk (Below.trod Try.laidOut (by kernel_rfl) (of_decide_eq_true (by kernel_rfl)) k1 bel lt1) trodAll_mk0)), rfl, bel.frame _, fun h => by cases h⟩
theorem over : Rows.spansBoundsRow.holds Try.pinned (OpenSpec.ofChange Rows.spansBoundsSpec) :=
  OpenClaim.holds_of_wide 5 Try.f5 rfl rfl rfl rfl rfl rfl rfl ⟨rfl, rfl, rfl, rfl, rfl⟩ rfl rfl rfl rfl rfl (by kernel_rfl) Try.func5 (by kernel_rfl)
    (of_decide_eq_true (by kernel_rfl)) (by unfold Func.isWrapper; first | (rw [if_pos (by decide +kernel)]; kernel_rfl) | (rw [if_neg (by decide +kernel)]; exact ⟨rfl, rfl⟩))
    (fun os started H enc _ => lifted os started H enc)
end Go.Proofs.Ytfaiogajaaclcaa.spansBounds
namespace Go.Proofs.Ytfaiogajaaclcaa
/-- the statement -/
theorem spansBounds_holds : Rows.SpansBoundsSaid := spansBounds.over
#print axioms spansBounds_holds
end Go.Proofs.Ytfaiogajaaclcaa
