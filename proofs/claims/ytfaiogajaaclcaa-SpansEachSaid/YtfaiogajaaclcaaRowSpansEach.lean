/- The law SpansEach returns true for every input; no conditions. -/
import Derived.Test.YtfaiogajaaclcaaEach2
import Derived.Test.YtfaiogajaaclcaaOpen2
namespace Go.Proofs.Ytfaiogajaaclcaa.spansEach
open Go.ChangeShapes Go.WideShapes Go.ChangeAt Go.RowKit Go.Joins

set_option maxRecDepth 100000 in
theorem lifted (os : Os) (started : os.Started) (H : Type) (enc : TypeId × Value → H) :
    ReturnsInHanded {} Try.checked os 11 .any (Rows.spansEachSpec.pre6 enc Try.prog Try.f11 Rows.spansEachRow.domain false) (Rows.spansEachSpec.post enc Try.prog Try.f11 false true false false) := by
  refine returnsInHanded_of_change (C := Try.checked) Try.own started (by kernel_rfl) Try.func11
    (ChangeSpec.witness6 (enc := enc) (C := Try.checked) false ⟨#[], #[.agg #[.int .i64 0, .int .i64 0], .agg #[.int .i64 0, .int .i64 0], .agg #[.int .i64 0, .int .i64 0, .int .i64 0, .int .i64 0]], []⟩ 8 (by kernel_rfl) (by kernel_rfl) (by kernel_rfl) (by kernel_rfl)) ?_
  intro W base args ds gs before hval0 hW hcnd _
  have hval : ∀ (j : Nat) t v, Try.f11.params[j]? = some t → args[j]? = some v → Value.okWide Try.prog W .any base t v := hval0
  have hW' := hW
  obtain ⟨p, q, hA0, hV, rfl, hfz, hnd⟩ := hW
  have hA : DataW.TrodAll enc Try.prog W 0 (fun _ => true) true Try.f11.params.toList args.toList ds p := hA0
  rw [Try.params11] at hA hval
  obtain ⟨u0, vs0, d0, ds0, p0, q0, hargs, rfl, rfl, h0, r0⟩ := trodAll_cons hA
  obtain ⟨u1, vs1, d1, ds1, p1, q1, rfl, rfl, rfl, h1, r1⟩ := trodAll_cons r0
  obtain ⟨u2, vs2, d2, ds2, p2, q2, rfl, rfl, rfl, h2, r2⟩ := trodAll_cons r1
  obtain ⟨rfl, rfl, rfl⟩ := trodAll_nil r2
  obtain rfl : args = #[u0, u1, u2] := by cases args; simp_all
  obtain ⟨rfl, rfl⟩ := trodVars_none hV
  have k0 := h0
  have lt0 : ∀ x ∈ p0, x.block < W.heap.size := by obtain ⟨m, hm⟩ := k0; exact DataW.trod_lt m _ _ _ hm
  have k1 := h1
  have lt1 : ∀ x ∈ p1, x.block < W.heap.size := by obtain ⟨m, hm⟩ := k1; exact DataW.trod_lt m _ _ _ hm
  have k2 := h2
  have lt2 : ∀ x ∈ p2, x.block < W.heap.size := by obtain ⟨m, hm⟩ := k2; exact DataW.trod_lt m _ _ _ hm
  obtain ⟨a1, a2, e0, wf0⟩ : ∃ a1 a2, u0 = .agg #[.int .i64 a1, .int .i64 a2] ∧ ((Lit.int .i64 a1).wf = true ∧ (Lit.int .i64 a2).wf = true) := by
    obtain ⟨zs, e, hl, hw⟩ := agg_ints Try.allSpan (agg_struct Try.underlying27 (hval 0 27 _ rfl rfl)) h0
    match zs, hl with
    | [a1, a2], _ => exact ⟨a1, a2, e, hw _ (by simp), hw _ (by simp)⟩
  obtain ⟨b1, b2, e1, wf1⟩ : ∃ b1 b2, u1 = .agg #[.int .i64 b1, .int .i64 b2] ∧ ((Lit.int .i64 b1).wf = true ∧ (Lit.int .i64 b2).wf = true) := by
    obtain ⟨zs, e, hl, hw⟩ := agg_ints Try.allSpan (agg_struct Try.underlying27 (hval 1 27 _ rfl rfl)) h1
    match zs, hl with
    | [b1, b2], _ => exact ⟨b1, b2, e, hw _ (by simp), hw _ (by simp)⟩
  obtain ⟨n0, n1, n2, n3, e2, wf2⟩ : ∃ n0 n1 n2 n3, u2 = .agg #[.int .i64 n0, .int .i64 n1, .int .i64 n2, .int .i64 n3] ∧ ((Lit.int .i64 n0).wf = true ∧ (Lit.int .i64 n1).wf = true ∧ (Lit.int .i64 n2).wf = true ∧ (Lit.int .i64 n3).wf = true) := by
    obtain ⟨zs, e, hl, hw⟩ := agg_ints Try.allArr4 (agg_array Try.underlying68 (hval 2 68 _ rfl rfl)) h2
    match zs, hl with
    | [n0, n1, n2, n3], _ => exact ⟨n0, n1, n2, n3, e, hw _ (by simp), hw _ (by simp), hw _ (by simp), hw _ (by simp)⟩
  subst e0 e1 e2
  clear hA0 hval0
  refine (each_any a1 a2 b1 b2 n0 n1 n2 n3 W).mono fun e W' ⟨he, bel⟩ => ?_
  subst he
  exact ⟨_, rfl, _, _, _, [], _, [], hW', trodAll_mk1 (shut_bool Try.underlying4 _), (trodAll_cons_mk (Below.trod Try.laidOut (by kernel_rfl) (of_decide_eq_true (by kernel_rfl)) k0 bel lt0) (trodAll_cons_mk (Below.trod Try.laidOut (by kernel_rfl) (of_decide_eq_true (by kernel_rfl)) k1 bel lt1) (trodAll_cons_mk (Below.trod Try.laidOut (by kernel_rfl) (of_decide_eq_true (by kernel_rfl)) k2 bel lt2) trodAll_mk0))), rfl, bel.frame _, fun h => by cases h⟩
theorem over : Rows.spansEachRow.holds Try.pinned (OpenSpec.ofChange Rows.spansEachSpec) :=
  OpenClaim.holds_of_wide 11 Try.f11 rfl rfl rfl rfl rfl rfl rfl ⟨rfl, rfl, rfl, rfl, rfl⟩ rfl rfl rfl rfl rfl (by kernel_rfl) Try.func11 (by kernel_rfl)
    (of_decide_eq_true (by kernel_rfl)) (by unfold Func.isWrapper; first | (rw [if_pos (by decide +kernel)]; kernel_rfl) | (rw [if_neg (by decide +kernel)]; exact ⟨rfl, rfl⟩))
    (fun os started H enc _ => lifted os started H enc)
end Go.Proofs.Ytfaiogajaaclcaa.spansEach
namespace Go.Proofs.Ytfaiogajaaclcaa
/-- the statement -/
theorem spansEach_holds : Rows.SpansEachSaid := spansEach.over
#print axioms spansEach_holds
end Go.Proofs.Ytfaiogajaaclcaa
