/- The law SlingLinear returns true for every input; no conditions. -/
import Derived.Test.YthohcimmoobaoaaPLin09
namespace Go.Proofs.Ythohcimmoobaoaa.slingLinear
open Go.ChangeShapes Go.WideShapes Go.ChangeAt Go.RowKit Go.Joins Lift

theorem law (s : Slg) (x y : Swg) (hs : I64 s.num ∧ I64 s.damp ∧ I64 s.den) (hx : SwgOk x) (hy : SwgOk y) (hl : x.gs.length ≤ 17592186043904) :
    AC Try.prog 3 [oneD true [dI s.num, dI s.damp, dI s.den], oneD true [dI x.st.1, dI x.st.2, .list (ints x.gs), dI x.n, dI x.band.1, dI x.band.2], oneD true [dI y.st.1, dI y.st.2, .list (ints y.gs), dI y.n, dI y.band.1, dI y.band.2]] [] [] (.val (.bool true)) :=
  lawLinear_ac s x y hs hx hy hl
set_option maxRecDepth 100000 in
set_option maxHeartbeats 1000000 in
theorem lifted (os : Os) (started : os.Started) (H : Type) (enc : TypeId × Value → H) :
    ReturnsInHanded {} Try.checked os 3 .any (Rows.slingLinearSpec.pre6 enc Try.prog Try.f3 Rows.slingLinearRow.domain false) (Rows.slingLinearSpec.post enc Try.prog Try.f3 false true false false) := by
  refine returnsInHanded_of_change_sized (C := Try.checked) Try.own started (by kernel_rfl) Try.func3
    (ChangeSpec.witness6 (enc := enc) (C := Try.checked) false ⟨#[], #[.agg #[.int .i64 0, .int .i64 0, .int .i64 0], .agg #[.int .i64 0, .int .i64 0, .slice none 0 0, .int .i64 0, .int .i64 0, .int .i64 0], .agg #[.int .i64 0, .int .i64 0, .slice none 0 0, .int .i64 0, .int .i64 0, .int .i64 0]], []⟩ 8 (by kernel_rfl) (by kernel_rfl) (by kernel_rfl) (by kernel_rfl)) ?_
  intro W base args ds gs before hval0 hW hcnd hz _
  have hval : ∀ (j : Nat) t v, Try.f3.params[j]? = some t → args[j]? = some v → Value.okWide Try.prog W .any base t v := hval0
  have hW' := hW
  obtain ⟨p, q, hA0, hV, rfl, hfz, hnd⟩ := hW
  have hA : DataW.TrodAll enc Try.prog W 0 (fun _ => true) true Try.f3.params.toList args.toList ds p := hA0
  rw [Try.params3] at hA hval
  obtain ⟨u0, vs0, d0, ds0, p0, q0, hargs, rfl, rfl, h0, r0⟩ := trodAll_cons hA
  obtain ⟨u1, vs1, d1, ds1, p1, q1, rfl, rfl, rfl, h1, r1⟩ := trodAll_cons r0
  obtain ⟨u2, vs2, d2, ds2, p2, q2, rfl, rfl, rfl, h2, r2⟩ := trodAll_cons r1
  obtain ⟨rfl, rfl, rfl⟩ := trodAll_nil r2
  obtain rfl : args = #[u0, u1, u2] := by cases args; simp_all
  obtain ⟨rfl, rfl⟩ := trodVars_none hV
  have k0 := h0
  have lt0 : ∀ x ∈ p0, x.block < W.heap.size := by obtain ⟨m, hm⟩ := k0; exact DataW.trod_lt m _ _ _ hm
  have k1 := h1
  have lt1 : ∀ x ∈ p1, x.block < W.heap.size := by obtain ⟨m, hm⟩ := k1; exact DataW.trod_lt m _ _ _ hm
  have k2 := h2
  have lt2 : ∀ x ∈ p2, x.block < W.heap.size := by obtain ⟨m, hm⟩ := k2; exact DataW.trod_lt m _ _ _ hm
  obtain ⟨e0, c0, a0⟩ := open_arg (m := 9) (ss := [.int, .int, .int]) Try.underlying23 (fun _ => agg_struct Try.underlying23 (hval 0 23 _ rfl rfl)) (fun h => nomatch h) h0 (by kernel_rfl)
  obtain ⟨e1, c1, a1⟩ := open_arg (m := 9) (ss := [.int, .int, .sl [.int], .int, .int, .int]) Try.underlying29 (fun _ => agg_struct Try.underlying29 (hval 1 29 _ rfl rfl)) (fun h => nomatch h) h1 (by kernel_rfl)
  obtain ⟨e2, c2, a2⟩ := open_arg (m := 9) (ss := [.int, .int, .sl [.int], .int, .int, .int]) Try.underlying29 (fun _ => agg_struct Try.underlying29 (hval 2 29 _ rfl rfl)) (fun h => nomatch h) h2 (by kernel_rfl)
  clear hA0 hval0
  obtain ⟨s, rfl, hs⟩ := in_3 c0
  obtain ⟨x, rfl, hx⟩ := in_swg c1
  obtain ⟨y, rfl, hy⟩ := in_swg c2
  have hl := swung_len (x := x) h1 a1 fun n hn => by simpa using List.all_eq_true.1 hz n (DataW.weights_mem_each (j := 1) rfl rfl n hn)
  refine ((law s x y hs hx hy hl).calls rfl ?_).mono fun e W' ⟨he, bel⟩ => ?_
  · intro i hi
    match i, hi with
    | 0, _ => exact a0
    | 1, _ => exact a1
    | 2, _ => exact a2
  subst he
  exact ⟨_, rfl, _, _, _, [], _, [], hW', trodAll_mk1 (shut_bool Try.underlying4 _), (trodAll_cons_mk (Below.trod Try.laidOut (by kernel_rfl) (of_decide_eq_true (by kernel_rfl)) k0 bel lt0) (trodAll_cons_mk (Below.trod Try.laidOut (by kernel_rfl) (of_decide_eq_true (by kernel_rfl)) k1 bel lt1) (trodAll_cons_mk (Below.trod Try.laidOut (by kernel_rfl) (of_decide_eq_true (by kernel_rfl)) k2 bel lt2) trodAll_mk0))), rfl, bel.frame _, fun h => by cases h⟩
theorem over : Rows.slingLinearRow.holds Try.pinned (OpenSpec.ofChange Rows.slingLinearSpec) :=
  OpenClaim.holds_of_wide 3 Try.f3 rfl rfl rfl rfl rfl rfl rfl ⟨rfl, rfl, rfl, rfl, rfl⟩ rfl rfl rfl rfl rfl (by kernel_rfl) Try.func3 (by kernel_rfl)
    (of_decide_eq_true (by kernel_rfl)) (by unfold Func.isWrapper; first | (rw [if_pos (by decide +kernel)]; kernel_rfl) | (rw [if_neg (by decide +kernel)]; exact ⟨rfl, rfl⟩))
    (fun os started H enc _ => lifted os started H enc)
end Go.Proofs.Ythohcimmoobaoaa.slingLinear
namespace Go.Proofs.Ythohcimmoobaoaa
/-- the statement -/
theorem slingLinear_holds : Rows.SlingLinearSaid := slingLinear.over
#print axioms slingLinear_holds
end Go.Proofs.Ythohcimmoobaoaa
