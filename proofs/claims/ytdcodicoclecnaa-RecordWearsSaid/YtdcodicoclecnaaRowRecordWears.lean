/- The law RecordWears returns true for every input; no conditions. -/
import Derived.Test.YtdcodicoclecnaaPRecordWears12
namespace Go.Proofs.Ytdcodicoclecnaa.recordWears
open Go.ChangeShapes Go.WideShapes Go.ChangeAt Go.RowKit Go.Joins Lift

theorem law (ds0 ds1 ds2 : List D) (h0 : CfL [.int, .int, .int, .int, .int, .sl [.int, .int, .int, .bool, .int, .int, .int, .int, .int], .sl [.sl [.int]]] ds0) (h1 : CfL [.int] ds1) (h2 : CfL [.sl [.int, .int]] ds2) :
    AC Try.prog 13 [oneD true ds0, oneD false ds1, oneD false ds2] [] [] (.val (.bool true)) := by
  obtain ⟨l, frs, rfl, hl, hf⟩ := in_tape h0
  obtain ⟨x, rfl, _⟩ := in_num h1
  obtain ⟨st, rfl⟩ := in_steps h2
  exact lawWears_ac l frs x st hl hf
set_option maxRecDepth 100000 in
set_option maxHeartbeats 1000000 in
theorem lifted (os : Os) (started : os.Started) (H : Type) (enc : TypeId × Value → H) :
    ReturnsInHanded {} Try.checked os 13 .any (Rows.recordWearsSpec.pre6 enc Try.prog Try.f13 Rows.recordWearsRow.domain false) (Rows.recordWearsSpec.post enc Try.prog Try.f13 false true false false) := by
  refine returnsInHanded_of_change (C := Try.checked) Try.own started (by kernel_rfl) Try.func13
    (ChangeSpec.witness6 (enc := enc) (C := Try.checked) false ⟨#[], #[.agg #[.int .i64 0, .int .i64 0, .int .i64 0, .int .i64 0, .int .i64 0, .slice none 0 0, .slice none 0 0], .int .i64 0, .slice none 0 0], []⟩ 8 (by kernel_rfl) (by kernel_rfl) (by kernel_rfl) (by kernel_rfl)) ?_
  intro W base args ds gs before hval0 hW hcnd _
  have hval : ∀ (j : Nat) t v, Try.f13.params[j]? = some t → args[j]? = some v → Value.okWide Try.prog W .any base t v := hval0
  have hW' := hW
  obtain ⟨p, q, hA0, hV, rfl, hfz, hnd⟩ := hW
  have hA : DataW.TrodAll enc Try.prog W 0 (fun _ => true) true Try.f13.params.toList args.toList ds p := hA0
  rw [Try.params13] at hA hval
  obtain ⟨u0, vs0, d0, ds0, p0, q0, hargs, rfl, rfl, h0, r0⟩ := trodAll_cons hA
  obtain ⟨u1, vs1, d1, ds1, p1, q1, rfl, rfl, rfl, h1, r1⟩ := trodAll_cons r0
  obtain ⟨u2, vs2, d2, ds2, p2, q2, rfl, rfl, rfl, h2, r2⟩ := trodAll_cons r1
  obtain ⟨rfl, rfl, rfl⟩ := trodAll_nil r2
  obtain rfl : args = #[u0, u1, u2] := by cases args; simp_all
  obtain ⟨rfl, rfl⟩ := trodVars_none hV
  have k0 := h0
  have lt0 : ∀ x ∈ p0, x.block < W.heap.size := by obtain ⟨m, hm⟩ := k0; exact DataW.trod_lt m _ _ _ hm
  have k1 := h1
  have lt1 : ∀ x ∈ p1, x.block < W.heap.size := by obtain ⟨m, hm⟩ := k1; exact DataW.trod_lt m _ _ _ hm
  have k2 := h2
  have lt2 : ∀ x ∈ p2, x.block < W.heap.size := by obtain ⟨m, hm⟩ := k2; exact DataW.trod_lt m _ _ _ hm
  obtain ⟨e0, c0, a0⟩ := open_arg (m := 9) (ss := [.int, .int, .int, .int, .int, .sl [.int, .int, .int, .bool, .int, .int, .int, .int, .int], .sl [.sl [.int]]]) Try.underlying28 (fun _ => agg_struct Try.underlying28 (hval 0 28 _ rfl rfl)) (fun h => nomatch h) h0 (by kernel_rfl)
  obtain ⟨e1, c1, a1⟩ := open_arg (m := 9) (ss := [.int]) Try.underlying3 (fun h => nomatch h) (fun _ => notagg_int Try.underlying3 (hval 1 3 _ rfl rfl)) h1 (by kernel_rfl)
  obtain ⟨e2, c2, a2⟩ := open_arg (m := 9) (ss := [.sl [.int, .int]]) Try.underlying32 (fun h => nomatch h) (fun _ => notagg_slice Try.underlying32 (hval 2 32 _ rfl rfl)) h2 (by kernel_rfl)
  clear hA0 hval0
  refine ((law e0 e1 e2 c0 c1 c2).calls rfl ?_).mono fun e W' ⟨he, bel⟩ => ?_
  · intro i hi
    match i, hi with
    | 0, _ => exact a0
    | 1, _ => exact a1
    | 2, _ => exact a2
  subst he
  exact ⟨_, rfl, _, _, _, [], _, [], hW', trodAll_mk1 (shut_bool Try.underlying4 _), (trodAll_cons_mk (Below.trod Try.laidOut (by kernel_rfl) (of_decide_eq_true (by kernel_rfl)) k0 bel lt0) (trodAll_cons_mk (Below.trod Try.laidOut (by kernel_rfl) (of_decide_eq_true (by kernel_rfl)) k1 bel lt1) (trodAll_cons_mk (Below.trod Try.laidOut (by kernel_rfl) (of_decide_eq_true (by kernel_rfl)) k2 bel lt2) trodAll_mk0))), rfl, bel.frame _, fun h => by cases h⟩
theorem over : Rows.recordWearsRow.holds Try.pinned (OpenSpec.ofChange Rows.recordWearsSpec) :=
  OpenClaim.holds_of_wide 13 Try.f13 rfl rfl rfl rfl rfl rfl rfl ⟨rfl, rfl, rfl, rfl, rfl⟩ rfl rfl rfl rfl rfl (by kernel_rfl) Try.func13 (by kernel_rfl)
    (of_decide_eq_true (by kernel_rfl)) (by unfold Func.isWrapper; first | (rw [if_pos (by decide +kernel)]; kernel_rfl) | (rw [if_neg (by decide +kernel)]; exact ⟨rfl, rfl⟩))
    (fun os started H enc _ => lifted os started H enc)
end Go.Proofs.Ytdcodicoclecnaa.recordWears
namespace Go.Proofs.Ytdcodicoclecnaa
/-- the statement -/
theorem recordWears_holds : Rows.RecordWearsSaid := recordWears.over
#print axioms recordWears_holds
end Go.Proofs.Ytdcodicoclecnaa
