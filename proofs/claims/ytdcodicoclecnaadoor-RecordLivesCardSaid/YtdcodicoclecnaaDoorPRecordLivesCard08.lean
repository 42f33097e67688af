/- Texts of the law RecordLivesCard, part 8. No conditions. -/
import Derived.Test.YtdcodicoclecnaaDoorPRecordLivesCard07
import Derived.Test.YtdcodicoclecnaaDoorRows
set_option linter.unusedSimpArgs false
set_option linter.unusedVariables false
/- The functions' bodies, translated. Written by a program; no conditions. -/
namespace Go.Proofs.YtdcodicoclecnaaDoor
open Go.RowKit Lift

def crecord_newTape : ACode :=
 (.seq
 (.region false [oo 2 (.box (.tmp 0)),
 oo 4 (.mv (.const (.pointer none))),
 oo 5 (.mv (kI 0))] [])
 (.seq
 (.seq
 (.region false [oo 12 (.loadN 6 (.tmp 2)),
 oo 13 (.call (.func 49) [(.tmp 12)]),
 oo 6 (.mv (.tmp 13))] [12,13])
 (.seq
 (.region false [oo 14 (.mv (.tmp 6)),
 oo 15 (.bin .neq (.tmp 14) (kI 0))] [14])
 (.cond (.tmp 15)
 (.seq
 (.region false [oo 16 (.mv (.tmp 6)),
 oo 4 (.mv (.const (.pointer none))),
 oo 5 (.mv (.tmp 16))] [16])
 .ret)
 .skip)))
 (.seq
 (.seq
 (.region false [oo 17 (.mv (.tmp 1)),
 oo 18 (.len_ (.tmp 17)),
 oo 19 (.bin .gtr (.tmp 18) (kI 200))] [17,18])
 (.cond (.tmp 19)
 (.seq
 (.region false [oo 4 (.mv (.const (.pointer none))),
 oo 5 (.mv (kI 2))] [])
 .ret)
 .skip))
 (.seq
 (.region false [oo 20 (.loadN 6 (.tmp 2)),
 oo 21 (.mv (.tmp 1)),
 oo 22 (.build [(.val (.int .i64 0)), (.val (.int .i64 0)), (.val (.int .i64 0)), (.val (.int .i64 0)), (.val (.int .i64 0)), (.val (.slice none 0 0)), (.val (.slice none 0 0)), (.val (.slice none 0 0))] [(0,6, (.tmp 20)), (6,1, (.tmp 21))]),
 oo 23 (.box (.tmp 22)),
 oo 7 (.mv (.tmp 23))] [20,21,22,23])
 (.seq
 (.region false [oo 8 (.mv (.func 50))] [])
 (.seq
 (.seq
 (.region false [oo 24 (.mv (.tmp 1)),
 oo 25 (.len_ (.tmp 24)),
 oo 26 (.mv (kI 0))] [])
 (.block 0
 (.loop
 (.seq
 (.region false [oo 27 (.bin .lss (.tmp 26) (.tmp 25))] [])
 (.seq
 (.cond (.tmp 27)
 .skip
 (.exit 0))
 (.seq
 (.block 1
 (.seq
 (.region false [oo 28 (.iadS 1 (.tmp 24) (.tmp 26)),
 oo 29 (.load1 (.tmp 28)),
 oo 10 (.mv (.tmp 29))] [28,29])
 (.seq
 (.region false [oo 11 (.mv (kI (-1)))] [])
 (.seq
 (.seq
 (.region false [oo 30 (.mv (.tmp 10)),
 oo 31 (.len_ (.tmp 30)),
 oo 32 (.fad 0 (.tmp 2)),
 oo 33 (.load1 (.tmp 32)),
 oo 34 (.bin .eql (.tmp 31) (.tmp 33)),
 oo 35 (.mv (.tmp 34)),
 og 36 35 true (.mv (.tmp 10)) [],
 og 37 35 true (.mv (.tmp 8)) [],
 og 38 35 true (.call (.func 35) [(.tmp 36), (.tmp 37)]) [],
 og 39 35 true (.un .not (.tmp 38)) [],
 oo 40 (.pick (.tmp 35) (.tmp 39) (.const (.bool false)))] [30,31,32,33,34,35,36,37,38,39])
 (.cond (.tmp 40)
 (.region true [oo 41 (.fad 1 (.tmp 2)),
 oa 42 (.slA 4 1 (.tmp 41) none none) [0],
 oo 43 (.mv (.tmp 10)),
 oa 44 (.iadS 1 (.tmp 43) (kI 0)) [2],
 oa 45 (.load1 (.tmp 44)) [3,2],
 oa 46 (.call (.func 51) [(.tmp 42), (.tmp 45)]) [1,0,4,3,2],
 oa 11 (.mv (.tmp 46)) [5,1,0,4,3,2]] [41,42,43,44,45,46])
 .skip))
 (.region false [oo 47 (.mv (.tmp 7)),
 oo 48 (.mv (.tmp 7)),
 oo 49 (.nilc (.tmp 48)),
 oo 50 (.fad 7 (.tmp 49)),
 oo 51 (.load1 (.tmp 50)),
 oo 52 (.mv (.tmp 11)),
 oo 53 (.buildSl 1 1 [(.val (.int .i64 0))] [(0,1, (.tmp 52))]),
 oo 54 (.app 1 8 (.tmp 51) (.tmp 53)),
 oo 55 (.nilc (.tmp 47)),
 oo 56 (.fad 7 (.tmp 55)),
 on (.store 1 (.tmp 56) (.tmp 54))] [47,48,49,50,51,52,53,54,55,56])))))
 (.region false [oo 57 (.bin .add (.tmp 26) (kI 1)),
 oo 26 (.mv (.tmp 57))] [57])))))))
 (.seq
 (.region false [oo 58 (.mv (.tmp 7)),
 oo 4 (.mv (.tmp 58)),
 oo 5 (.mv (kI 0))] [58])
 .ret)))))))
set_option maxRecDepth 100000 in
theorem krecord_newTape : IsCode Tryd.prog 29 59 crecord_newTape [.tmp 4, .tmp 5] :=
 ⟨Tryd.f29, _, [40,27,19,15,0,2,6,1,26,25,24,10,8,7,11,4,5], Tryd.func29, rfl, by decide, rfl, by kernel_rfl, by kernel_rfl⟩
def cprecord_tape_good : ACode :=
 (.seq
 (.region false [oo 6 (.mv (.tmp 0)),
 oo 7 (.nilc (.tmp 6)),
 oo 8 (.fad 7 (.tmp 7)),
 oo 9 (.load1 (.tmp 8)),
 oo 10 (.len_ (.tmp 9)),
 oo 11 (.mv (kI 0))] [6,7,8])
 (.block 0
 (.loop
 (.seq
 (.region false [oo 12 (.bin .lss (.tmp 11) (.tmp 10))] [])
 (.seq
 (.cond (.tmp 12)
 .skip
 (.exit 0))
 (.seq
 (.block 1
 (.seq
 (.region false [oo 13 (.mv (.tmp 11)),
 oo 14 (.iadS 1 (.tmp 9) (.tmp 11)),
 oo 15 (.load1 (.tmp 14)),
 oo 4 (.mv (.tmp 13)),
 oo 5 (.mv (.tmp 15))] [13,14,15])
 (.seq
 (.region false [oo 16 (.mv (.tmp 5)),
 oo 17 (.bin .geq (.tmp 16) (kI 0)),
 oo 18 (.mv (.tmp 17)),
 og 19 18 true (.mv (.tmp 1)) [],
 og 20 18 true (.mv (.tmp 4)) [],
 og 21 18 true (.mv (.tmp 5)) [],
 og 22 18 true (.call (.tmp 19) [(.tmp 20), (.tmp 21)]) [],
 og 23 18 true (.un .not (.tmp 22)) [],
 oo 24 (.pick (.tmp 18) (.tmp 23) (.const (.bool false)))] [16,17,18,19,20,21,22,23])
 (.cond (.tmp 24)
 .ret
 .skip))))
 (.region false [oo 25 (.bin .add (.tmp 11) (kI 1)),
 oo 11 (.mv (.tmp 25))] [25])))))))
set_option maxRecDepth 100000 in
theorem kprecord_tape_good : IsCode Tryd.prog 39 26 cprecord_tape_good [] :=
 ⟨Tryd.f39, _, [24,12,0,11,10,9,5,1,4], Tryd.func39, rfl, by decide, rfl, by kernel_rfl, by kernel_rfl⟩
def cprecord_tape_samples : ACode :=
 (.seq
 (.region false [oo 2 (.box (.tmp 0)),
 oo 4 (.mv (.const (.nilFunc)))] [])
 (.seq
 (.region false [oo 6 (.load1 (.tmp 2)),
 oo 7 (.nilc (.tmp 6)),
 oo 8 (.fad 0 (.tmp 7)),
 oo 9 (.fad 5 (.tmp 8)),
 oo 10 (.load1 (.tmp 9)),
 oo 11 (.mv (.tmp 1)),
 oo 12 (.iadS 9 (.tmp 10) (.tmp 11)),
 oo 13 (.loadN 9 (.tmp 12)),
 oo 14 (.build [(.val (.int .i64 0)), (.val (.int .i64 0)), (.val (.int .i64 0)), (.val (.bool false)), (.val (.int .i64 0)), (.val (.int .i64 0)), (.val (.int .i64 0)), (.val (.int .i64 0)), (.val (.int .i64 0))] [(0,9, (.tmp 13))]),
 oo 5 (.mem [(.val (.int .i64 0)), (.val (.int .i64 0)), (.val (.int .i64 0)), (.val (.bool false)), (.val (.int .i64 0)), (.val (.int .i64 0)), (.val (.int .i64 0)), (.val (.int .i64 0)), (.val (.int .i64 0))]),
 on (.store 9 (.tmp 5) (.tmp 14))] [6,7,8,9,10,11,12,13,14])
 (.seq
 (.region false [oo 15 (.mkfn 38 [] [(.tmp 2), (.tmp 5)]),
 oo 4 (.mv (.tmp 15))] [15])
 .ret)))
set_option maxRecDepth 100000 in
theorem kprecord_tape_samples : IsCode Tryd.prog 25 16 cprecord_tape_samples [.tmp 4] :=
 ⟨Tryd.f25, _, [0,2,1,5,4], Tryd.func25, rfl, by decide, rfl, by kernel_rfl, by kernel_rfl⟩
def cprecord_tape_samples_S1_B8 : ACode :=
 (.block 1
 (.seq
 (.region true [oo 10 (.loadN 9 (.tmp 2)),
 oo 11 (.mv (.tmp 5)),
 oa 12 (.call (.func 40) [(.tmp 10), (.tmp 11)]) [0,1],
 oa 13 (.mv (.tmp 12)) [2,0,1],
 og 14 13 true (.load1 (.tmp 3)) [3,2,0,1],
 og 15 13 true (.mv (.tmp 4)) [3,2,0,1],
 og 16 13 true (.loadN 9 (.tmp 2)) [3,2,0,1],
 og 17 13 true (.loadN 9 (.tmp 2)) [3,2,0,1],
 og 18 13 true (.load1 (.tmp 1)) [3,2,0,1],
 og 19 13 true (.nilc (.tmp 18)) [8,3,2,0,1],
 og 20 13 true (.fad 6 (.tmp 19)) [9,8,3,2,0,1],
 og 21 13 true (.load1 (.tmp 20)) [10,9,8,3,2,0,1],
 og 22 13 true (.mv (.tmp 4)) [3,2,0,1],
 og 23 13 true (.iadS 1 (.tmp 21) (.tmp 22)) [11,10,9,8,3,2,0,1,12],
 og 24 13 true (.load1 (.tmp 23)) [13,11,10,9,8,3,2,0,1,12],
 og 25 13 true (.fad 0 (.tmp 2)) [3,2,0,1],
 og 26 13 true (.fad 0 (.tmp 25)) [15,3,2,0,1],
 og 27 13 true (.load1 (.tmp 26)) [16,15,3,2,0,1],
 og 28 13 true (.iadS 1 (.tmp 24) (.tmp 27)) [14,13,11,10,9,8,3,2,0,1,12,17,16,15],
 og 29 13 true (.load1 (.tmp 28)) [18,14,13,11,10,9,8,3,2,0,1,12,17,16,15],
 og 30 13 true (.call (.func 42) [(.tmp 17), (.tmp 29)]) [7,3,2,0,1,19,18,14,13,11,10,9,8,12,17,16,15],
 og 31 13 true (.call (.func 41) [(.tmp 16), (.tmp 30)]) [6,3,2,0,1,20,7,19,18,14,13,11,10,9,8,12,17,16,15],
 og 32 13 true (.call (.tmp 14) [(.tmp 15), (.tmp 31)]) [4,3,2,0,1,5,21,6,20,7,19,18,14,13,11,10,9,8,12,17,16,15],
 og 33 13 true (.un .not (.tmp 32)) [22,4,3,2,0,1,5,21,6,20,7,19,18,14,13,11,10,9,8,12,17,16,15],
 oa 34 (.pick (.tmp 13) (.tmp 33) (.const (.bool false))) [3,2,0,1,23,22,4,5,21,6,20,7,19,18,14,13,11,10,9,8,12,17,16,15]] [10,11,12,13,14,15,16,17,18,19,20,21,22,23,24,25,26,27,28,29,30,31,32,33])
 (.cond (.tmp 34)
 .ret
 .skip)))
def cprecord_tape_samples_S1 : ACode :=
 (.seq
 (.region false [oo 3 (.box (.tmp 0))] [])
 (.seq
 (.region false [oo 6 (.load1 (.tmp 1)),
 oo 7 (.mkfn 39 [(.tmp 6)] [])] [6])
 (.block 0
 (.rangeFunc (.tmp 7) [8,9] [(4,8), (5,9)] cprecord_tape_samples_S1_B8))))
set_option maxRecDepth 100000 in
theorem kprecord_tape_samples_S1 : IsCode Tryd.prog 38 35 cprecord_tape_samples_S1 [] :=
 ⟨Tryd.f38, _, [34,8,9,7,0,1,2,5,3,4], Tryd.func38, rfl, by decide, rfl, by kernel_rfl, by kernel_rfl⟩
def cprecord_tape_has : ACode :=
 (.seq
 (.region false [oo 4 (.mv (.const (.bool false)))] [])
 (.seq
 (.region false [oo 5 (.mv (.tmp 1)),
 oo 6 (.mv (.tmp 0)),
 oo 7 (.nilc (.tmp 6)),
 oo 8 (.fad 0 (.tmp 7)),
 oo 9 (.fad 5 (.tmp 8)),
 oo 10 (.load1 (.tmp 9)),
 oo 11 (.len_ (.tmp 10)),
 oo 12 (.bin .sub (.tmp 11) (kI 1)),
 oo 13 (.call (.func 19) [(.tmp 5), (kI 0), (.tmp 12)]),
 oo 4 (.mv (.tmp 13))] [5,6,7,8,9,10,11,12,13])
 .ret))
set_option maxRecDepth 100000 in
theorem kprecord_tape_has : IsCode Tryd.prog 37 14 cprecord_tape_has [.tmp 4] :=
 ⟨Tryd.f37, _, [1,0,4], Tryd.func37, rfl, by decide, rfl, by kernel_rfl, by kernel_rfl⟩
def crecord_withField : ACode :=
 (.seq
 (.region false [oo 3 (.box (.tmp 0)),
 oo 6 (.mv (.const (.pointer none))),
 oo 7 (.mv (kI 0))] [])
 (.seq
 (.region false [oo 11 (.loadN 6 (.tmp 3)),
 oo 12 (.mv (.tmp 1)),
 oo 13 (.call (.func 29) [(.tmp 11), (.tmp 12)]),
 oo 10 (.mv (.tmp 13)),
 oo 14 (.ext (.tmp 10) 0),
 oo 15 (.ext (.tmp 10) 1),
 oo 8 (.mem [(.val (.pointer none))]),
 on (.store 1 (.tmp 8) (.tmp 14)),
 oo 9 (.mv (.tmp 15))] [11,12,13,10,14,15])
 (.seq
 (.seq
 (.region false [oo 16 (.mv (.tmp 9)),
 oo 17 (.bin .neq (.tmp 16) (kI 0))] [16])
 (.cond (.tmp 17)
 (.seq
 (.region false [oo 18 (.mv (.tmp 9)),
 oo 6 (.mv (.const (.pointer none))),
 oo 7 (.mv (.tmp 18))] [18])
 .ret)
 .skip))
 (.seq
 (.seq
 (.region false [oo 19 (.mv (.tmp 2)),
 oo 20 (.mkfn 36 [] [(.tmp 8)]),
 oo 21 (.call (.func 35) [(.tmp 19), (.tmp 20)])] [19,20])
 (.cond (.tmp 21)
 (.seq
 (.region false [oo 6 (.mv (.const (.pointer none))),
 oo 7 (.mv (kI 1))] [])
 .ret)
 .skip))
 (.seq
 (.region false [oo 22 (.load1 (.tmp 8)),
 oo 6 (.mv (.tmp 22)),
 oo 7 (.mv (kI 0))] [22])
 .ret)))))
set_option maxRecDepth 100000 in
theorem krecord_withField : IsCode Tryd.prog 24 23 crecord_withField [.tmp 6, .tmp 7] :=
 ⟨Tryd.f24, _, [21,17,0,3,1,9,2,8,6,7], Tryd.func24, rfl, by decide, rfl, by kernel_rfl, by kernel_rfl⟩
def crecord_withField_S1 : ACode :=
 (.seq
 (.region false [oo 3 (.mv (.const (.bool false)))] [])
 (.seq
 (.region false [oo 4 (.load1 (.tmp 1)),
 oo 5 (.mv (.tmp 0)),
 oo 6 (.call (.func 37) [(.tmp 4), (.tmp 5)]),
 oo 7 (.un .not (.tmp 6)),
 oo 3 (.mv (.tmp 7))] [4,5,6,7])
 .ret))
set_option maxRecDepth 100000 in
theorem krecord_withField_S1 : IsCode Tryd.prog 36 8 crecord_withField_S1 [.tmp 3] :=
 ⟨Tryd.f36, _, [1,0,3], Tryd.func36, rfl, by decide, rfl, by kernel_rfl, by kernel_rfl⟩
end Go.Proofs.YtdcodicoclecnaaDoor
/- record: a new tape. No conditions. -/
namespace Go.Proofs.YtdcodicoclecnaaDoor
open Go.RowKit Lift

set_option maxRecDepth 100000 in
set_option maxHeartbeats 1000000 in
theorem newTape_err (l : Lay) (frs : List (List Int)) (hl : LayIn l) (he : ¬ (LayOk l ∧ frs.length ≤ 200)) (hf : FrIn frs) : AC Tryd.prog 29 [layD l, .list (rows frs)] [] [] (.tup [.val (.pointer none), dI (tpE l frs)]) := by
  refine krecord_newTape.ac (n0 := 0) (by simp) ⟨in_layD _ _, .list _, trivial⟩ trivial rfl ?_
  unfold crecord_newTape layD layC
  have hmax : maxLen = 9223372036854775807 := rfl
  have hn := hf.n
  have ck := check_ac l hl
  by_cases h1 : LayOk l
  · have h2 : ¬ frs.length ≤ 200 := fun h => he ⟨h1, h⟩
    rw [layE_ok h1] at ck
    rw [tpE_many h1 h2]
    have q : decide ((frs.length : Int) > 200) = true := decide_eq_true (by omega)
    (repeat' (first | (with_reducible first | refine thenQ_n ?_ | refine blockQ_n ?_ | refine thenQ_e ?_ | refine blockQ_t ?_ | refine blockQ_f (by decide) ?_) | apply aw_seq | apply aw_skip | apply aw_exit | apply aw_ret | apply aw_block | apply aw_condT rfl | apply aw_condF rfl | ((first | refine aw_hide fun K hK => aw_region ?_ | refine acall0 (ck) ?_ | refine ago_if (by omega) ?_ | skip); simp (disch := first | exact okY | omega) only [ZU, Nat.reduceAdd, Nat.reduceMul, dI, AOpRun, aexec, D.isBot, ↓eget_h, or_self, ↓reduceIte, D.cells, Nat.reduceBEq, Nat.reduceLeDiff, List.drop, List.take, isSh, abin, bne_self_eq_false, rows_len, q]) | subst hK))
    all_goals (refine end_q [] [] ?_ ?_ <;> repeat' (first | exact trivial | exact vr_val _ | apply vr_tup | apply And.intro))
  · rw [layE_no h1] at ck
    rw [tpE_no h1]
    (repeat' (first | (with_reducible first | refine thenQ_n ?_ | refine blockQ_n ?_ | refine thenQ_e ?_ | refine blockQ_t ?_ | refine blockQ_f (by decide) ?_) | apply aw_seq | apply aw_skip | apply aw_exit | apply aw_ret | apply aw_block | apply aw_condT rfl | apply aw_condF rfl | ((first | refine aw_hide fun K hK => aw_region ?_ | refine acall0 (ck) ?_ | refine ago_if (by omega) ?_ | skip); simp (disch := first | exact okY | omega) only [ZU, Nat.reduceAdd, Nat.reduceMul, dI, AOpRun, aexec, D.isBot, ↓eget_h, or_self, ↓reduceIte, D.cells, Nat.reduceBEq, Nat.reduceLeDiff, List.drop, List.take, isSh, abin, Int.reduceBNe]) | subst hK))
    all_goals (refine end_q [] [] ?_ ?_ <;> repeat' (first | exact trivial | exact vr_val _ | apply vr_tup | apply And.intro))
set_option maxRecDepth 100000 in
set_option maxHeartbeats 8000000 in
theorem newTape_ok (l : Lay) (frs : List (List Int)) (hl : LayIn l) (h1 : LayOk l) (h2 : frs.length ≤ 200) (hf : FrIn frs) : AC Tryd.prog 29 [layD l, .list (rows frs)] [] [(96, some (tpC l frs))] (.tup [.ptr 96 0, dI 0]) := by
  refine krecord_newTape.ac (n0 := 0) (by simp) ⟨in_layD _ _, .list _, trivial⟩ trivial rfl ?_
  unfold crecord_newTape layD layC
  have hmax : maxLen = 9223372036854775807 := rfl
  have w1 := h1.w1
  have w2 := h1.w2
  have ck := check_ac l hl
  rw [layE_ok h1] at ck
  have q : decide ((frs.length : Int) > 200) = false := decide_eq_false (by omega)
  (repeat' (first | (with_reducible first | refine thenQ_n ?_ | refine blockQ_n ?_ | refine thenQ_e ?_ | refine blockQ_t ?_ | refine blockQ_f (by decide) ?_) | apply aw_seq | apply aw_skip | apply aw_exit | apply aw_ret | apply aw_block | apply aw_condT rfl | apply aw_condF rfl | ((first | refine aw_hide fun K hK => aw_region ?_ | refine acall0 (ck) ?_ | refine ago_if (by omega) ?_ | skip); simp (disch := first | exact okY | omega) only [ZU, Nat.reduceAdd, Nat.reduceMul, dI, AOpRun, aexec, D.isBot, ↓eget_h, or_self, ↓reduceIte, D.cells, Nat.reduceBEq, Nat.reduceLeDiff, List.drop, List.take, isSh, abin, bne_self_eq_false, rows_len, q, fillD, ne_eq, not_true_eq_false, Nat.reduceGT, splice, Int.reduceNeg]) | subst hK))
  refine aw_loop (fun k : Nat => ⟨[(1, .list (rows frs)), (2, .ptr 0 0), (7, .ptr 40 0), (8, .fn 50 [] []), (24, .list (rows frs)), (25, dI frs.length), (26, dI k)],
    [(0, [dI l.words, dI l.s0, dI l.s1, dI l.s2, dI l.s3, .list (fls l.fl)]), (40, [dI l.words, dI l.s0, dI l.s1, dI l.s2, dI l.s3, .list (fls l.fl), .list (rows frs), .vec 48 k 1]), (48, icells (subsK l frs k))], 100⟩) (fun k => k ≤ frs.length) (fun k => frs.length - k) ⟨0, by omega, ?_⟩ ?_
  · refine wk_q [] [(0, 0), (40, 112), (48, 900)] ?_ ?_ <;> repeat' (first | exact trivial | exact vr_val _ | exact vr_list _ | exact vr_ptr _ _ _ rfl | exact vr_nilv _ _ _ rfl | apply vr_fn | refine And.intro ⟨_, rfl, .inl ⟨_, rfl, by decide, ?_⟩⟩ ?_ | refine And.intro ⟨_, rfl, .inr ⟨rfl, rfl, of_decide_eq_true (by kernel_rfl)⟩⟩ ?_ | apply And.intro)
  intro k hk
  by_cases hk2 : k < frs.length
  case neg =>
    obtain rfl : k = frs.length := by omega
    have hl2 := subsK_len l frs frs.length
    (have hg : (987654321 : Nat) - 987654321 = 0 := rfl; have hr := hg; repeat' (first | (with_reducible first | refine thenQ_n ?_ | refine blockQ_n ?_ | refine thenQ_e ?_ | refine blockQ_t ?_ | refine blockQ_f (by decide) ?_) | apply aw_seq | apply aw_skip | apply aw_exit | apply aw_ret | apply aw_block | apply aw_condT rfl | apply aw_condF rfl | (refine aw_cond rfl (fun hg => ?_) (fun hg => ?_) <;> (try (have hq := hg; simp only [Bool.not_eq_true', Bool.not_eq_false', Bool.and_eq_true, Bool.and_eq_false_iff, Bool.or_eq_true, Bool.or_eq_false_iff, decide_eq_true_eq, decide_eq_false_iff_not, bne_iff_ne, beq_iff_eq, beq_eq_false_iff_ne, bne_eq_false_iff_eq, ne_eq, Int.not_lt, Int.not_le, Decidable.not_not] at hq)) <;> (try (have hr := hg; simp only [decide_eq_true_eq, decide_eq_false_iff_not] at hr)) <;> (try (exfalso; omega))) | ((first | refine aw_hide fun K hK => aw_region ?_ | refine ago_if (by omega) ?_ | skip); simp (disch := first | exact okY | omega) only [ZU, Nat.reduceMul, Nat.reduceAdd, dI, AOpRun, aexec, Nat.reduceBEq, ↓eget_h, isSh, ↓reduceIte, abin, hr, decide_false]) | subst hK))
    refine end_q [48] [(96, 40)] ?_ ?_ <;> repeat' (first | exact trivial | exact vr_val _ | exact vr_list _ | exact vr_ptr _ _ _ rfl | apply vr_tup | refine vr_fl _ _ _ _ _ (by decide) rfl ?_ ?_ ?_ ?_ | refine And.intro ⟨_, rfl, _, rfl, by decide, ?_⟩ ?_ | apply And.intro)
    all_goals first | exact ints_one _ | exact (ints_len _).trans hl2 | exact ints_flat _ | exact icells_in _ | (rw [Nat.mul_one, ic_take _ _ hl2]; exact ints_flat _) | (rw [Nat.mul_one, icells_len]; omega)
  have g1 := rows_gd frs k hk2
  have ki : (k : Int) < (frs.length : Int) := by omega
  have hfm := hf.m k
  have hss := subsK_succ l frs k
  have hsl := subsK_len l frs k
  have hsub : subF l (frm frs k) = if frOk l (frm frs k) then idx4 l ((frm frs k)[0]?.getD 0) else -1 := rfl
  rw [show frs[k]?.getD [] = frm frs k from rfl] at g1
  generalize frm frs k = fr at *
  generalize subF l fr = sv at *
  have hit : (icells (subsK l frs k)).take k = icells (subsK l frs k) := ic_take _ _ hsl
  refine aw_seq (aw_region ?_)
  simp (disch := first | exact okY | omega) only [ZU, Int.reduceNeg, dI, Nat.reduceMul, Nat.reduceAdd, AOpRun, aexec, Nat.reduceBEq, ↓eget_h, isSh, ↓reduceIte, abin, ki]
  refine aw_seq (aw_condT rfl ?_)
  refine aw_skip (aw_seq (aw_block (aw_seq (aw_region ?_))))
  simp (disch := first | exact okY | omega) only [ZU, Int.reduceNeg, Nat.reduceAdd, Nat.reduceMul, AOpRun, aexec, Nat.reduceBEq, ↓eget_h, rows_all, ↓reduceIte, opt1, g1, run1]
  refine aw_seq (aw_region ?_)
  simp (disch := first | exact okY | omega) only [ZU, Nat.reduceMul, Nat.reduceAdd, Int.reduceNeg, AOpRun, aexec, Nat.reduceBEq]
  refine aw_cut ⟨[(1, .list (rows frs)), (2, .ptr 0 0), (7, .ptr 40 0), (8, .fn 50 [] []), (11, dI sv), (24, .list (rows frs)), (25, dI frs.length), (26, dI k)],
    [(0, [dI l.words, dI l.s0, dI l.s1, dI l.s2, dI l.s3, .list (fls l.fl)]), (40, [dI l.words, dI l.s0, dI l.s1, dI l.s2, dI l.s3, .list (fls l.fl), .list (rows frs), .vec 48 k 1]), (48, icells (subsK l frs k))], 300⟩ ?_ ?_
  · by_cases hlen : (fr.length : Int) = l.words
    case neg =>
      have e : sv = -1 := by rw [hsub, if_neg fun h => hlen h.1]
      have q1 : ((fr.length : Int) == l.words) = false := by simp only [beq_eq_false_iff_ne]; exact hlen
      rw [e]
      (repeat' (first | (with_reducible first | refine thenQ_n ?_ | refine blockQ_n ?_ | refine thenQ_e ?_ | refine blockQ_t ?_ | refine blockQ_f (by decide) ?_) | apply aw_seq | apply aw_skip | apply aw_exit | apply aw_ret | apply aw_block | apply aw_condT rfl | apply aw_condF rfl | ((first | refine aw_hide fun K hK => aw_region ?_ | refine ago_if (by omega) ?_ | skip); simp (disch := first | exact okY | omega) only [ZU, Nat.reduceAdd, Nat.reduceMul, Int.reduceNeg, AOpRun, aexec, Nat.reduceBEq, ↓eget_h, ints_len, run1, isSh, ↓reduceIte, abin, q1, ARun_some, AG_ft, dI]) | subst hK))
      refine wk_q [] [(0, 0), (40, 40), (48, 48)] ?_ ?_ <;> repeat' (first | exact trivial | exact vr_val _ | exact vr_list _ | exact vr_vec _ _ _ _ rfl | exact vr_ptr _ _ _ rfl | apply vr_fn | refine And.intro ⟨_, rfl, .inl ⟨_, rfl, by decide, ?_⟩⟩ ?_ | apply And.intro | exact vrl_flat _ (by first | exact icells_in _ | exact rcells_in _ | exact scells_in _ | exact bcells_in _ | assumption))
    have q1 : ((fr.length : Int) == l.words) = true := by simp only [beq_iff_eq]; exact hlen
    have cf := cfunc_ac fr (by omega)
    cases ha : fr.all wOk with
    | false =>
      have e : sv = -1 := by rw [hsub, if_neg fun h => by have := h.2; rw [ha] at this; cases this]
      rw [ha] at cf
      rw [e]
      (repeat' (first | (with_reducible first | refine thenQ_n ?_ | refine blockQ_n ?_ | refine thenQ_e ?_ | refine blockQ_t ?_ | refine blockQ_f (by decide) ?_) | apply aw_seq | apply aw_skip | apply aw_exit | apply aw_ret | apply aw_block | apply aw_condT rfl | apply aw_condF rfl | ((first | refine aw_hide fun K hK => aw_region ?_ | refine acall0 (cf) ?_ | refine ago_if (by omega) ?_ | skip); simp (disch := first | exact okY | omega) only [ZU, Nat.reduceAdd, Nat.reduceMul, Int.reduceNeg, AOpRun, aexec, Nat.reduceBEq, ↓eget_h, ints_len, run1, isSh, ↓reduceIte, abin, q1, ARun_some, AG_tt, dB, dI]) | subst hK))
      refine wk_q [] [(0, 0), (40, 40), (48, 48)] ?_ ?_ <;> repeat' (first | exact trivial | exact vr_val _ | exact vr_list _ | exact vr_vec _ _ _ _ rfl | exact vr_ptr _ _ _ rfl | apply vr_fn | refine And.intro ⟨_, rfl, .inl ⟨_, rfl, by decide, ?_⟩⟩ ?_ | apply And.intro | exact vrl_flat _ (by first | exact icells_in _ | exact rcells_in _ | exact scells_in _ | exact bcells_in _ | assumption))
    | true =>
      have e : sv = idx4 l (fr[0]?.getD 0) := by rw [hsub, if_pos ⟨hlen, ha⟩]
      rw [ha] at cf
      have ix := index_ac (sync l) (fr[0]?.getD 0) (by simp [sync])
      rw [idx_sync, ← e] at ix
      have vw : ∀ c1 c2, Vw (hget [(0, [.val (.int .i64 l.words), .val (.int .i64 l.s0), .val (.int .i64 l.s1), .val (.int .i64 l.s2), .val (.int .i64 l.s3), .list (fls l.fl)]), (40, c1), (48, c2)]) [0] (.own 0 1 4 1) (.list (ints (sync l))) := fun c1 c2 => own_ints (sync l) (by simp) (c := layC l) rfl (by simp [sync]) (by simp [layC]) rfl (layC_in l)
      have g0 := ints_gd fr 0 (by omega)
      (repeat' (first | (with_reducible first | refine thenQ_n ?_ | refine blockQ_n ?_ | refine thenQ_e ?_ | refine blockQ_t ?_ | refine blockQ_f (by decide) ?_) | apply aw_seq | apply aw_skip | apply aw_exit | apply aw_ret | apply aw_block | apply aw_condT rfl | apply aw_condF rfl | ((first | refine aw_hide fun K hK => aw_region ?_ | refine acall0 (cf) ?_ | refine acall (ix) [0] ⟨vw _ _, .refl _, trivial⟩ (.inr (.val _)) (by simp only [List.mem_cons, List.not_mem_nil, or_false, forall_eq_or_imp, forall_eq]; first | exact ⟨_, rfl⟩ | exact ⟨⟨_, rfl⟩, ⟨_, rfl⟩⟩) (by kernel_rfl) ?_ | refine ago_if (by omega) ?_ | skip); simp (disch := first | exact okY | omega) only [ZU, Nat.reduceAdd, Nat.reduceMul, Int.reduceNeg, AOpRun, aexec, Nat.reduceBEq, ↓eget_h, ints_len, run1, isSh, ↓reduceIte, abin, q1, ARun_some, AG_tt, dB, asI, cast_lit, Int.le_refl, Int.reduceLE, Nat.mul_one, Nat.reduceLeDiff, Int.reduceLT, or_self, Int.toNat_zero, Int.reduceSub, Int.reduceToNat, ints_all, opt1, g0, dI]) | subst hK))
      refine wk_q [] [(0, 0), (40, 40), (48, 48)] ?_ ?_ <;> repeat' (first | exact trivial | exact vr_val _ | exact vr_list _ | exact vr_vec _ _ _ _ rfl | exact vr_ptr _ _ _ rfl | apply vr_fn | refine And.intro ⟨_, rfl, .inl ⟨_, rfl, by decide, ?_⟩⟩ ?_ | apply And.intro | exact vrl_flat _ (by first | exact icells_in _ | exact rcells_in _ | exact scells_in _ | exact bcells_in _ | assumption))
  · have hic : (icells (subsK l frs k)).length = k := by rw [icells_len, hsl]
    have e : icells (subsK l frs (k + 1)) = icells (subsK l frs k) ++ [.val (.int .i64 sv)] := by rw [hss, ← ic_app]
    have hcin : ∀ y ∈ icells (subsK l frs k) ++ [.val (.int .i64 sv)], In (fun _ => False) y := by rw [← e]; exact icells_in _
    (repeat' (first | (with_reducible first | refine thenQ_n ?_ | refine blockQ_n ?_ | refine thenQ_e ?_ | refine blockQ_t ?_ | refine blockQ_f (by decide) ?_) | apply aw_seq | apply aw_skip | apply aw_exit | apply aw_ret | apply aw_block | apply aw_condT rfl | apply aw_condF rfl | ((first | refine aw_hide fun K hK => aw_region ?_ | refine ago_if (by omega) ?_ | skip); simp (disch := first | exact okY | omega) only [ZU, Nat.reduceAdd, Nat.reduceMul, dI, AOpRun, aexec, Nat.reduceBEq, ↓eget_h, run1, ↓hget_h, ↓reduceIte, fillD, D.isBot, D.cells, ne_eq, not_true_eq_false, Nat.reduceGT, or_self, splice, List.take, List.drop, base, Nat.mul_one, hic, Nat.le_refl, hit, elems, List.all, D.leaf, and_true, ups, hdel_c, hdel_n, isSh, abin, fits]) | subst hK))
    refine ⟨k + 1, by omega, by omega, ?_⟩
    rw [e]
    refine wk_q [] [(0, 0), (40, 40), (48, 356)] ?_ ?_ <;> repeat' (first | exact trivial | exact vr_val _ | exact vr_list _ | exact vr_vec _ _ _ _ rfl | exact vr_ptr _ _ _ rfl | apply vr_fn | refine And.intro ⟨_, rfl, .inl ⟨_, rfl, by decide, ?_⟩⟩ ?_ | apply And.intro | exact vrl_flat _ (by first | exact icells_in _ | exact rcells_in _ | exact scells_in _ | exact bcells_in _ | assumption))
end Go.Proofs.YtdcodicoclecnaaDoor
/- record: the loop over the good frames of a tape, whatever its body does. No conditions. -/
namespace Go.Proofs.YtdcodicoclecnaaDoor.Lift
open Go Go.RowKit

theorem nle {a b : Nat} (h : Nat.ble a b = true) : a ≤ b := Nat.le_of_ble_eq_true h
theorem nlt {a b : Nat} (h : Nat.ble (a + 1) b = true) : a < b := Nat.le_of_ble_eq_true h
theorem In.mono {S T : Nat → Prop} {d : D} (h : In S d) (hT : ∀ g, S g → T g) : In T d := by
  induction h with
  | bot => exact .bot
  | val v => exact .val v
  | agg l _ ih => exact .agg l fun d hd => ih d hd
  | tup l _ ih => exact .tup l fun d hd => ih d hd
  | list l => exact .list l
  | at_ l => exact .at_ l
  | own g off len sz h => exact .own g off len sz (hT g h)
  | cap0 => exact .cap0
  | ptr g off h => exact .ptr g off (hT g h)
  | vec g len sz h => exact .vec g len sz (hT g h)
  | fn f k l _ _ ih1 ih2 => exact .fn f k l (fun d hd => ih1 d hd) fun d hd => ih2 d hd
  | yld g r k h _ ih => exact .yld g r k (hT g h) fun d hd => ih d hd
  | yref g h => exact .yref g (hT g h)
def LowH (n : Nat) (h : Hp) : Prop := (∀ g c, hget h g = some c → g < n ∧ ∀ d ∈ c, In (· < n) d) ∧ hpY h = true
theorem LowH.cons {n g : Nat} {c : List D} {h : Hp} (hg : g < n) (hc : ∀ d ∈ c, In (· < n) d) (hy : c.all (noY 9) = true) (h1 : LowH n h) : LowH n ((g, c) :: h) := by
  refine ⟨fun g' c' h2 => ?_, by simp only [hpY, List.all_cons, hy, Bool.true_and]; exact h1.2⟩
  simp only [hget] at h2
  split at h2
  · rename_i he; cases h2; subst he; exact ⟨hg, hc⟩
  · exact h1.1 g' c' h2
theorem LowH.nil {n : Nat} : LowH n [] := ⟨fun g c h => by simp [hget] at h, rfl⟩
theorem LowH.get {n m : Nat} {h : Hp} (h1 : LowH n h) (hm : n ≤ m) : ∀ g c, hget h g = some c → g < m ∧ ∀ d ∈ c, In (· < m) d := fun g c hc =>
  ⟨Nat.lt_of_lt_of_le (h1.1 g c hc).1 hm, fun d hd => ((h1.1 g c hc).2 d hd).mono fun x hx => Nat.lt_of_lt_of_le hx hm⟩
end Go.Proofs.YtdcodicoclecnaaDoor.Lift
namespace Go.Proofs.YtdcodicoclecnaaDoor
open Go Go.RowKit Lift

set_option maxRecDepth 100000 in
set_option maxHeartbeats 4000000 in
theorem good_hit {n : Nat} {ps : List Nat} {asg : List (Nat × Nat)} {cb : ACode} {r : Loop} (hr : LoopIs Tryd.prog n ps asg cb r) (hps : ps.length = 2) (l : Lay) (frs : List (List Int)) (hn : frs.length ≤ 200)
    (pin : List Nat) (hpin : ∀ g ∈ pin, g < 1000) (k : List D) (hk : kOK k = true) (hkp : ∀ d ∈ k, In (· ∈ pin) d) (h96 : 96 ∈ pin) (hp : Nat → Hp) (hlow : ∀ i, LowH 1000 (hp i)) {Q : AExit → St → Prop} {env' : Env}
    (hno : ∀ i, i < frs.length → ¬ 0 ≤ subF l (frm frs i) → hp (i + 1) = hp i)
    (hb : ∀ i, i < frs.length → 0 ≤ subF l (frm frs i) → AWb true Tryd.prog n (1000 :: pin) cb (fun e s => e = .norm ∧ Wk (1000 :: pin) s ⟨[], (96, tpC l frs) :: hp (i + 1), 1300⟩) ⟨bodyE k ps [dI i, dI (subF l (frm frs i))] asg, (96, tpC l frs) :: hp i, 1300⟩)
    (hQ : Q .norm ⟨env', (96, tpC l frs) :: hp frs.length, 1100⟩) : AWb false Tryd.prog 26 pin cprecord_tape_good (RangeQ Q env') ⟨envOf 0 [.ptr 96 0, .yld 1000 r k], (96, tpC l frs) :: hp 0, 1008⟩ := by
  have hmax : maxLen = 9223372036854775807 := rfl
  have hL : ∀ i, LowH 1000 ((96, tpC l frs) :: hp i) := fun i => (hlow i).cons (by omega) (tpC_in _ l frs) rfl
  have hpre : ∀ m, 1000 ≤ m → ∀ g ∈ pin, g < m := fun m hm g hg => Nat.lt_of_lt_of_le (hpin g hg) hm
  have hkl : ∀ m, 1001 ≤ m → In (· < m) (.yld 1000 r k) := fun m hm => .yld _ _ _ (by show 1000 < m; omega) fun d hd => (hkp d hd).mono fun g hg => hpre m (by omega) g hg
  refine aw_post (Q := fun e s => e = .norm ∧ s.hp = (96, tpC l frs) :: hp frs.length) ?_ ?_
  case refine_2 =>
    rintro e s ⟨rfl, hs⟩
    exact ⟨⟨[], (96, tpC l frs) :: hp frs.length, 1100⟩, wk_low (hpre _ (nle rfl)) hs.symm trivial (by rw [hs]; exact (hL _).get (nle rfl)), rangeQ (.inl rfl) (hL _).2 hQ⟩
  have hsl := subsK_len l frs frs.length
  unfold cprecord_tape_good
  unfold tpC at *
  refine aw_seq (aw_region ?_)
  simp (disch := first | exact okY | omega) only [ZU, dI, Nat.reduceAdd, Nat.reduceMul, AOpRun, aexec, ↓eget_h, Nat.reduceBEq, run1, ints_len, hsl]
  refine aw_block (aw_loop (fun i : Nat => ⟨[(0, .ptr 96 0), (1, .yld 1000 r k), (9, .list (ints (subsK l frs frs.length))), (10, dI frs.length), (11, dI i)], (96, tpC l frs) :: hp i, 1100⟩) (fun i => i ≤ frs.length) (fun i => frs.length - i) ⟨0, by omega, ?_⟩ ?_)
  · exact wk_low (hpre _ (nle rfl)) rfl ⟨rfl, .ptr _ _ (nlt rfl), rfl, hkl _ (nle rfl), rfl, .list _, rfl, .val _, rfl, .val _, trivial⟩ ((hL 0).get (nle rfl))
  intro i hi
  unfold tpC
  refine aw_seq (aw_region ?_)
  by_cases hi2 : i < frs.length
  case neg =>
    obtain rfl : i = frs.length := by omega
    simp (disch := first | exact okY | omega) only [ZU, dI, Nat.reduceMul, Nat.reduceAdd, AOpRun, aexec, Nat.reduceBEq, ↓eget_h, isSh, ↓reduceIte, abin, Int.lt_irrefl, decide_false]
    refine aw_seq (aw_condF rfl ?_)
    refine aw_exit ?_
    simp only [thenQ, blockQ, if_true, if_false, Nat.reduceEqDiff, reduceCtorEq]
    exact ⟨trivial, trivial⟩
  have ki : (i : Int) < (frs.length : Int) := by omega
  simp (disch := first | exact okY | omega) only [ZU, dI, Nat.reduceMul, Nat.reduceAdd, AOpRun, aexec, Nat.reduceBEq, ↓eget_h, isSh, ↓reduceIte, abin, ki]
  refine aw_seq (aw_condT rfl ?_)
  have g1 := ints_gd (subsK l frs frs.length) i (by omega)
  rw [subsK_get l frs frs.length i hi2] at g1
  refine aw_skip (aw_seq (aw_block (aw_seq (aw_region ?_))))
  simp (disch := first | exact okY | omega) only [ZU, Nat.reduceAdd, Nat.reduceMul, AOpRun, aexec, Nat.reduceBEq, ↓eget_h, ints_all, ↓reduceIte, opt1, g1, run1]
  by_cases hs : 0 ≤ subF l (frm frs i)
  case neg =>
    have q : decide (subF l (frm frs i) ≥ 0) = false := decide_eq_false hs
    refine aw_seq (aw_region ?_)
    simp (disch := first | exact okY | omega) only [ZU, Nat.reduceAdd, Nat.reduceMul, AOpRun, aexec, Nat.reduceBEq, ↓eget_h, isSh, ↓reduceIte, abin, q, ARun_some, AG_ft]
    refine aw_condF rfl (aw_skip ?_)
    simp only [thenQ, blockQ, if_true, if_false, Nat.reduceEqDiff, reduceCtorEq]
    refine aw_region ?_
    simp (disch := first | exact okY | omega) only [ZU, Nat.reduceAdd, Nat.reduceMul, AOpRun, aexec, Nat.reduceBEq, ↓eget_h, isSh, ↓reduceIte, abin, fits]
    refine ⟨i + 1, by omega, by omega, ?_⟩
    rw [hno i hi2 hs]
    exact wk_low (hpre _ (nle rfl)) rfl ⟨rfl, .ptr _ _ (nlt rfl), rfl, hkl _ (nle rfl), rfl, .list _, rfl, .val _, rfl, .val _, trivial⟩ ((hL i).get (nle rfl))
  have q : decide (subF l (frm frs i) ≥ 0) = true := decide_eq_true hs
  refine aw_seq (aw_region_yieldG hr [⟨some 16, .mv (.tmp 5), none, []⟩, ⟨some 17, .bin .geq (.tmp 16) (.const (.int .i64 0)), none, []⟩, ⟨some 18, .mv (.tmp 17), none, []⟩, ⟨some 19, .mv (.tmp 1), (some (some 18, true)), []⟩, ⟨some 20, .mv (.tmp 4), (some (some 18, true)), []⟩, ⟨some 21, .mv (.tmp 5), (some (some 18, true)), []⟩]
    [⟨some 23, .un .not (.tmp 22), (some (some 18, true)), []⟩, ⟨some 24, .pick (.tmp 18) (.tmp 23) (.const (.bool false)), none, []⟩] ?_)
  simp (disch := first | exact okY | omega) only [ZU, Nat.reduceAdd, Nat.reduceMul, AOpRun, aexec, Nat.reduceBEq, ↓eget_h, isSh, ↓reduceIte, abin, q, ARun_some, AG_tt]
  refine yieldKG (1000 :: pin) [(0, .ptr 96 0), (1, .yld 1000 r k), (9, .list (ints (subsK l frs frs.length))), (10, dI frs.length), (11, dI i), (18, dB true)] [dI i, dI (subF l (frm frs i))] rfl rfl rfl hr hps.symm rfl hk (hL i).2 (fun g hg => List.mem_cons_of_mem _ hg)
    ⟨.inr ⟨rfl, .ptr _ _ (List.mem_cons_of_mem _ h96)⟩, .inr ⟨rfl, .yld _ _ _ (List.mem_cons_self ..) fun d hd => (hkp d hd).mono fun g hg => List.mem_cons_of_mem _ hg⟩, .inr ⟨rfl, .list _⟩, .inr ⟨rfl, .val _⟩, .inr ⟨rfl, .val _⟩, .inr ⟨rfl, .val _⟩, trivial⟩ ?_
  refine aw_wk (wk_up (m := 1300) (by decide)) (aw_post (hb i hi2 hs) ?_)
  rintro e s ⟨rfl, hw⟩
  refine ⟨_, hw, yieldQ (hL (i + 1)).2 (nle rfl) ?_⟩
  simp (disch := first | exact okY | omega) only [ZU, Nat.reduceAdd, Nat.reduceMul, Nat.reduceSub, dI, dB, Nat.reduceBEq, ARun_some, ↓eget_h, AG_tt, AOpRun, aexec, ↓reduceIte]
  refine aw_condF rfl (aw_skip ?_)
  simp only [thenQ, blockQ, if_true, if_false, Nat.reduceEqDiff, reduceCtorEq]
  refine aw_region ?_
  simp (disch := first | exact okY | omega) only [ZU, Nat.reduceAdd, Nat.reduceMul, AOpRun, aexec, Nat.reduceBEq, ↓eget_h, isSh, ↓reduceIte, abin, fits]
  refine ⟨i + 1, by omega, by omega, ?_⟩
  exact wk_low (hpre _ (nle rfl)) rfl ⟨rfl, .ptr _ _ (nlt rfl), rfl, hkl _ (nle rfl), rfl, .list _, rfl, .val _, rfl, .val _, trivial⟩ ((hL (i + 1)).get (nle rfl))
end Go.Proofs.YtdcodicoclecnaaDoor
/- record: the loop over the samples of a field, whatever its body does. No conditions. -/
namespace Go.Proofs.YtdcodicoclecnaaDoor.Lift
open Go Go.RowKit

def CT (n : Nat) : List D → List D → Prop
  | [], [] => True
  | x :: c, y :: c' => (y = x ∨ ∃ a r k, x = .yld a r k ∧ y = .yref a) ∧ In (· < n) y ∧ CT n c c'
  | _, _ => False
theorem CT.get {n : Nat} : ∀ {c c' : List D}, CT n c c' → c.length = c'.length ∧ ∀ i (h : i < c.length) (h' : i < c'.length), (c'[i] = c[i] ∨ ∃ a r k, c[i] = .yld a r k ∧ c'[i] = .yref a) ∧ In (· < n) c'[i]
  | [], [], _ => ⟨rfl, fun i h => by simp at h⟩
  | [], _ :: _, h => h.elim
  | _ :: _, [], h => h.elim
  | x :: c, y :: c', h => by
    obtain ⟨h1, h2⟩ := CT.get h.2.2
    refine ⟨by simp [h1], fun i hi hi' => ?_⟩
    cases i with
    | zero => exact ⟨h.1, h.2.1⟩
    | succ i => exact h2 i (by simpa using hi) (by simpa using hi')
theorem CT.refl {n : Nat} : ∀ {c : List D}, (∀ d ∈ c, In (· < n) d) → CT n c c
  | [], _ => trivial
  | d :: c, h => ⟨.inl rfl, h d (List.mem_cons_self ..), CT.refl fun x hx => h x (List.mem_cons_of_mem _ hx)⟩
theorem wk_ref {pre : List Nat} {s s' : St} (hpre : ∀ g ∈ pre, g < s'.nx) (hE : EL s'.nx s.env s'.env) (hH : ∀ g c', hget s'.hp g = some c' → g < s'.nx ∧ ∃ c, hget s.hp g = some c ∧ CT s'.nx c c') : Wk pre s s' := by
  rintro C a w rfl ⟨β, Z, h, hβ⟩
  obtain ⟨β', hb'⟩ : ∃ β' : Bet, β' = fun g => if g < s'.nx then β g else none := ⟨_, rfl⟩
  have eq : ∀ g, g < s'.nx → β' g = β g := fun g hg => by rw [hb']; exact if_pos hg
  have no : ∀ g, s'.nx ≤ g → β' g = none := fun g hg => by rw [hb']; exact if_neg (by omega)
  have back : ∀ g B, β' g = some B → β g = some B := fun g B hB => by
    by_cases hg : g < s'.nx
    · rw [← eq g hg]; exact hB
    · rw [no g (by omega)] at hB; cases hB
  refine ⟨β', Z, ⟨h.size, h.defers, fun t => ?_, fun g c hc => ?_, fun g g' c c' B hc hc' hb hb'' => ?_, h.fr, h.z0, h.old, fun g c B hc hB => ?_, fun g hg B hB => ?_, h.zlt⟩, no⟩
  · show Rep w _ Z _ (eget s'.env t)
    rcases hE.get t with h1 | ⟨h1, h2⟩
    · rw [h1]; exact .bot _
    · rw [h1] at h2 ⊢
      exact (h.env t).rename h2 eq
  · obtain ⟨h1, c0, h2, h3⟩ := hH g c hc
    obtain ⟨h4, h5⟩ := h3.get
    rcases h.objs g c0 h2 with ⟨h6, h7⟩ | ⟨B, cs, e, hO⟩
    · subst h6
      have : c = [] := List.length_eq_zero_iff.1 h4.symm
      subst this
      exact .inl ⟨rfl, by rw [eq g h1]; exact h7⟩
    · refine .inr ⟨B, cs, e, by rw [eq g h1]; exact hO.at_, hO.ours, hO.block, by rw [← h4]; exact hO.fits, fun i hi => ?_⟩
      have hi0 : i < c0.length := by omega
      obtain ⟨h8, h9⟩ := h5 i hi0 hi
      have hr := hO.rep i hi0
      rcases h8 with h8 | ⟨a, r, k, h8, h10⟩
      · rw [h8] at h9 ⊢
        exact hr.rename h9 eq
      · rw [h8] at hr
        rw [h10] at h9 ⊢
        cases h9 with
        | yref _ ha =>
          generalize cs.getD i undef = v at hr
          cases hr with
          | yld _ l _ _ y1 => exact .yref a l ((eq a ha).trans y1)
  · obtain ⟨_, c1, h2, _⟩ := hH g c hc
    obtain ⟨_, c2, h3, _⟩ := hH g' c' hc'
    exact h.inj g g' c1 c2 B h2 h3 (back _ _ hb) (back _ _ hb'')
  · obtain ⟨_, c1, h2, _⟩ := hH g c hc
    exact h.orig g c1 B h2 (back _ _ hB)
  · have h1 := h.ext g hg B hB
    rw [eq g (hpre g hg)]; exact h1
theorem hget_put (h : Hp) (t u : Nat) (d : List D) : hget (hput h t d) u = if t = u then some d else hget h u := by
  induction h with
  | nil => simp [hput, hget]
  | cons x r ih =>
    obtain ⟨k, e⟩ := x
    simp only [hput]
    by_cases hk : k = t
    · subst hk
      rw [if_pos rfl]
      simp only [hget]
      split <;> rfl
    · rw [if_neg hk]
      simp only [hget, ih]
      by_cases h1 : k = u
      · subst h1; rw [if_pos rfl, if_pos rfl, if_neg fun h => hk h.symm]
      · rw [if_neg h1, if_neg h1]
theorem kOK_of {k : List D} (h : k.all (noY 9) = true) : kOK k = true := by
  refine List.all_eq_true.2 fun d hd => ?_
  have h1 := List.all_eq_true.1 h d hd
  cases d <;> first | exact h1 | (simp [noY] at h1)
theorem LowH.up {n m : Nat} {h : Hp} (h1 : LowH n h) (hm : n ≤ m) : LowH m h := ⟨h1.get hm, h1.2⟩
end Go.Proofs.YtdcodicoclecnaaDoor.Lift
namespace Go.Proofs.YtdcodicoclecnaaDoor
open Go Go.RowKit Lift

def smH (l : Lay) (frs : List (List Int)) (f : Fl) (h : Hp) : Hp := (96, tpC l frs) :: (120, [.ptr 96 0]) :: (121, flC f) :: (808, [.yref 800]) :: h
theorem flC_in (S : Nat → Prop) (f : Fl) : ∀ d ∈ flC f, In S d := by
  intro d hd; simp [flC] at hd; rcases hd with rfl | rfl | rfl | rfl | rfl | rfl | rfl | rfl | rfl <;> exact .val _
theorem smT_low {f : Fl} {h : Hp} (h1 : LowH 800 h) : LowH 1000 ((120, [.ptr 96 0]) :: (121, flC f) :: (808, [.yref 800]) :: h) :=
  .cons (nlt rfl) (by intro d hd; simp at hd; subst hd; exact .ptr _ _ (nlt rfl)) rfl (.cons (nlt rfl) (flC_in _ f) rfl (.cons (nlt rfl) (by intro d hd; simp at hd; subst hd; exact .yref _ (nlt rfl)) rfl (h1.up (nle rfl))))
set_option maxRecDepth 100000 in
set_option maxHeartbeats 4000000 in
theorem samples_round {n : Nat} {ps : List Nat} {asg : List (Nat × Nat)} {cb : ACode} {r : Loop} (hr : LoopIs Tryd.prog n ps asg cb r) (hps : ps.length = 2) (l : Lay) (frs : List (List Int)) (f : Fl) (hf : FOk l.words f) (hm : FrIn frs)
    (pin : List Nat) (hpin : ∀ g ∈ pin, g < 800) (k : List D) (hk : k.all (noY 9) = true) (hkp : ∀ d ∈ k, In (· ∈ pin) d) (hp : Nat → Hp) (hlow : ∀ i, LowH 800 (hp i))
    (i : Nat) (hi : i < frs.length) (hs : 0 ≤ subF l (frm frs i)) (hno : smp l f (frm frs i) = none → hp (i + 1) = hp i)
    (hb : ∀ v, smp l f (frm frs i) = some v → AWb true Tryd.prog n (1000 :: 800 :: 808 :: pin) cb (fun e s => e = .norm ∧ Wk (1000 :: 800 :: 808 :: pin) s ⟨[], smH l frs f (hp (i + 1)), 1500⟩) ⟨bodyE k ps [dI i, dI v] asg, smH l frs f (hp i), 1500⟩) :
    AWb true Tryd.prog 35 (1000 :: 800 :: 808 :: pin) cprecord_tape_samples_S1_B8 (fun e s => e = .norm ∧ Wk (1000 :: 800 :: 808 :: pin) s ⟨[], smH l frs f (hp (i + 1)), 1300⟩) ⟨bodyE [.yld 800 r k, .ptr 120 0, .ptr 121 0, .ptr 808 0] [8, 9] [dI i, dI (subF l (frm frs i))] [(4, 8), (5, 9)], smH l frs f (hp i), 1300⟩ := by
  have hmax : maxLen = 9223372036854775807 := rfl
  have hpre : ∀ g ∈ 1000 :: 800 :: 808 :: pin, g < 1300 := by
    intro g hg
    simp only [List.mem_cons] at hg
    rcases hg with rfl | rfl | rfl | hg
    · omega
    · omega
    · omega
    · have := hpin g hg; omega
  have hL : ∀ i, LowH 1000 (smH l frs f (hp i)) := fun i => .cons (nlt rfl) (tpC_in _ l frs) rfl (smT_low (hlow i))
  have ci := in_sub_ac hf (subF l (frm frs i))
  have hfm := hm.m i
  have hfo := subF_ok hs
  by_cases hin : inSub f (subF l (frm frs i))
  case neg =>
    have hsm : smp l f (frm frs i) = none := if_neg fun h => hin h.2
    rw [hno hsm]
    rw [inB_f hin] at ci
    have hfin : ∀ s : St, s.hp = smH l frs f (hp i) → (fun (e : AExit) s => e = .norm ∧ Wk (1000 :: 800 :: 808 :: pin) s ⟨[], smH l frs f (hp i), 1300⟩) .norm s := fun s h => ⟨rfl, wk_low hpre h.symm trivial (by rw [h]; exact (hL i).get (nle rfl))⟩
    generalize (fun (e : AExit) (s : St) => e = .norm ∧ Wk (1000 :: 800 :: 808 :: pin) s ⟨[], smH l frs f (hp i), 1300⟩) = QQ at hfin
    unfold cprecord_tape_samples_S1_B8
    unfold smH tpC flC at *
    refine aw_block (aw_seq (aw_region ?_))
    simp (disch := first | exact okY | omega) only [ZU, Nat.reduceAdd, Nat.reduceMul, bodyE, asgE, parE, dI, Nat.reduceBEq, ↓eget_h, dB, AOpRun, aexec, ↓hget_h, Nat.reduceLeDiff, ↓reduceIte, List.drop, List.take]
    refine acall0 ci ?_
    simp (disch := first | exact okY | omega) only [ZU, Nat.reduceAdd, dB, Nat.reduceBEq, AOpRun, aexec, ↓eget_h, ARun_some, AG_ft, ↓reduceIte]
    refine aw_condF rfl (aw_skip ?_)
    simp only [thenQ, blockQ, if_true, if_false, Nat.reduceEqDiff, reduceCtorEq]
    exact hfin _ rfl
  rw [inB_t hin] at ci
  obtain ⟨hfl, hfa⟩ := hfo
  have w1 := hf.w1
  have w2 := hf.w2
  have hwl : f.word.toNat < (frm frs i).length := by omega
  have hwI : f.word < ((frm frs i).length : Int) := by omega
  have hw0 : 0 ≤ f.word := by omega
  have h4 : wOk ((frm frs i)[f.word.toNat]?.getD 0) = true := by
    rw [List.getElem?_eq_getElem hwl]
    exact List.all_eq_true.1 hfa _ (List.getElem_mem hwl)
  have h5 : 0 ≤ (frm frs i)[f.word.toNat]?.getD 0 ∧ (frm frs i)[f.word.toNat]?.getD 0 ≤ 4095 := by unfold wOk at h4; simpa using h4
  have hsm : smp l f (frm frs i) = some (valI f (rawI f ((frm frs i)[f.word.toNat]?.getD 0).toNat)) := if_pos ⟨hs, hin⟩
  have g2 := ints_gd (frm frs i) f.word.toNat hwl
  have hb2 := hb _ hsm
  have hx : (frm frs i)[f.word.toNat]?.getD 0 = ((((frm frs i)[f.word.toNat]?.getD 0).toNat : Nat) : Int) := (Int.toNat_of_nonneg h5.1).symm
  rw [hx] at g2
  have hxl : ((frm frs i)[f.word.toNat]?.getD 0).toNat < 4096 := by omega
  generalize ((frm frs i)[f.word.toNat]?.getD 0).toNat = x at g2 hb2 hxl
  have g1 := rows_gd frs i hi
  rw [show frs[i]?.getD [] = frm frs i from rfl] at g1
  have cr := raw_ac hf x hxl
  have cv := value_ac hf x
  have hfin : ∀ s : St, s.hp = smH l frs f (hp (i + 1)) → (fun (e : AExit) s => e = .norm ∧ Wk (1000 :: 800 :: 808 :: pin) s ⟨[], smH l frs f (hp (i + 1)), 1300⟩) .norm s := fun s h => ⟨rfl, wk_low hpre h.symm trivial (by rw [h]; exact (hL (i + 1)).get (nle rfl))⟩
  generalize (fun (e : AExit) (s : St) => e = .norm ∧ Wk (1000 :: 800 :: 808 :: pin) s ⟨[], smH l frs f (hp (i + 1)), 1300⟩) = QQ at hfin
  have hL2 := hL
  have ki : (i : Int) < (frs.length : Int) := by omega
  generalize frm frs i = fr at *
  unfold cprecord_tape_samples_S1_B8
  unfold smH tpC flC at *
  refine aw_block (aw_seq (aw_region_yieldD hr
    [⟨some 10, .loadN 9 (.tmp 2), none, []⟩,
       ⟨some 11, .mv (.tmp 5), none, []⟩,
       ⟨some 12, .call (.func 40) [(.tmp 10), (.tmp 11)], none, [0, 1]⟩,
       ⟨some 13, .mv (.tmp 12), none, [2, 0, 1]⟩,
       ⟨some 14, .load1 (.tmp 3), (some (some 13, true)), [3, 2, 0, 1]⟩,
       ⟨some 15, .mv (.tmp 4), (some (some 13, true)), [3, 2, 0, 1]⟩,
       ⟨some 16, .loadN 9 (.tmp 2), (some (some 13, true)), [3, 2, 0, 1]⟩,
       ⟨some 17, .loadN 9 (.tmp 2), (some (some 13, true)), [3, 2, 0, 1]⟩,
       ⟨some 18, .load1 (.tmp 1), (some (some 13, true)), [3, 2, 0, 1]⟩,
       ⟨some 19, .nilc (.tmp 18), (some (some 13, true)), [8, 3, 2, 0, 1]⟩,
       ⟨some 20, .fad 6 (.tmp 19), (some (some 13, true)), [9, 8, 3, 2, 0, 1]⟩,
       ⟨some 21, .load1 (.tmp 20), (some (some 13, true)), [10, 9, 8, 3, 2, 0, 1]⟩,
       ⟨some 22, .mv (.tmp 4), (some (some 13, true)), [3, 2, 0, 1]⟩,
       ⟨some 23, .iadS 1 (.tmp 21) (.tmp 22), (some (some 13, true)), [11, 10, 9, 8, 3, 2, 0, 1, 12]⟩,
       ⟨some 24, .load1 (.tmp 23), (some (some 13, true)), [13, 11, 10, 9, 8, 3, 2, 0, 1, 12]⟩,
       ⟨some 25, .fad 0 (.tmp 2), (some (some 13, true)), [3, 2, 0, 1]⟩,
       ⟨some 26, .fad 0 (.tmp 25), (some (some 13, true)), [15, 3, 2, 0, 1]⟩,
       ⟨some 27, .load1 (.tmp 26), (some (some 13, true)), [16, 15, 3, 2, 0, 1]⟩,
       ⟨some 28, .iadS 1 (.tmp 24) (.tmp 27), (some (some 13, true)), [14, 13, 11, 10, 9, 8, 3, 2, 0, 1, 12, 17, 16, 15]⟩,
       ⟨some 29, .load1 (.tmp 28), (some (some 13, true)), [18, 14, 13, 11, 10, 9, 8, 3, 2, 0, 1, 12, 17, 16, 15]⟩,
       ⟨some 30, .call (.func 42) [(.tmp 17), (.tmp 29)], (some (some 13, true)), [7, 3, 2, 0, 1, 19, 18, 14, 13, 11, 10, 9, 8, 12, 17, 16, 15]⟩,
       ⟨some 31, .call (.func 41) [(.tmp 16), (.tmp 30)], (some (some 13, true)), [6, 3, 2, 0, 1, 20, 7, 19, 18, 14, 13, 11, 10, 9, 8, 12, 17, 16, 15]⟩]
    [⟨some 33, .un .not (.tmp 32), (some (some 13, true)), [22, 4, 3, 2, 0, 1, 5, 21, 6, 20, 7, 19, 18, 14, 13, 11, 10, 9, 8, 12, 17, 16, 15]⟩,
       ⟨some 34, .pick (.tmp 13) (.tmp 33) (.const (.bool false)), none, [3, 2, 0, 1, 23, 22, 4, 5, 21, 6, 20, 7, 19, 18, 14, 13, 11, 10, 9, 8, 12, 17, 16, 15]⟩] (by decide) (by decide) ?_))
  simp (disch := first | exact okY | omega) only [ZU, Nat.reduceAdd, Nat.reduceMul, bodyE, asgE, parE, dI, Nat.reduceBEq, ↓eget_h, dB, AOpRun, aexec, ↓hget_h, Nat.reduceLeDiff, ↓reduceIte, List.drop, List.take]
  refine acall0 ci ?_
  simp (disch := first | exact okY | omega) only [ZU, Nat.reduceAdd, dB, Nat.reduceBEq, AOpRun, aexec, ↓eget_h, ARun_some, AG_tt, run1, ↓hget_h, Nat.reduceLeDiff, ↓reduceIte, List.drop, List.take, rows_all, opt1, g1, hw0, ints_all, g2]
  refine acall0 cr ?_
  simp (disch := first | exact okY | omega) only [ZU, Nat.reduceAdd, dI, Nat.reduceBEq, ARun_some, ↓eget_h, AG_tt, AOpRun]
  refine acall0 cv ?_
  simp (disch := first | exact okY | omega) only [ZU, Nat.reduceAdd, dI, Nat.reduceBEq]
  refine yieldKD (1000 :: 800 :: 808 :: pin) [(13, dB true)] [dI i, dI (valI f (rawI f x))] (.inr ⟨rfl, 0, rfl⟩) rfl rfl hr hps.symm rfl (kOK_of hk) (hL2 i).2 (fun g hg => hg) ⟨.inr ⟨rfl, .val _⟩, trivial⟩ ?_
  refine aw_wk (wk_up (m := 1500) (by decide)) (aw_post hb2 ?_)
  rintro e s ⟨rfl, hw⟩
  refine ⟨_, hw, yieldQD (hL2 (i + 1)).2 (nle rfl) ?_⟩
  simp (disch := first | exact okY | omega) only [ZU, Nat.reduceAdd, Nat.reduceMul, Nat.reduceSub, dB, Nat.reduceBEq, dI, ARun_some, eget_n, AG_tt, AOpRun, aexec, ↓eget_h, ↓reduceIte]
  refine aw_condF rfl (aw_skip ?_)
  simp only [thenQ, blockQ, if_true, if_false, Nat.reduceEqDiff, reduceCtorEq]
  exact hfin _ rfl
set_option maxRecDepth 100000 in
set_option maxHeartbeats 4000000 in
theorem samples_hit {n : Nat} {ps : List Nat} {asg : List (Nat × Nat)} {cb : ACode} {r : Loop} (hr : LoopIs Tryd.prog n ps asg cb r) (hps : ps.length = 2) (l : Lay) (frs : List (List Int)) (hn : frs.length ≤ 200) (hok : LayOk l) (f : Fl) (hf : FOk l.words f) (hm : FrIn frs)
    (pin : List Nat) (hpin : ∀ g ∈ pin, g < 800) (k : List D) (hk : k.all (noY 9) = true) (hkp : ∀ d ∈ k, In (· ∈ pin) d) (h96 : 96 ∈ pin) (h120 : 120 ∈ pin) (h121 : 121 ∈ pin) (hp : Nat → Hp) (hlow : ∀ i, LowH 800 (hp i)) {Q : AExit → St → Prop} {env' : Env}
    (hno : ∀ i, i < frs.length → smp l f (frm frs i) = none → hp (i + 1) = hp i)
    (hb : ∀ i v, i < frs.length → smp l f (frm frs i) = some v → AWb true Tryd.prog n (1000 :: 800 :: 808 :: pin) cb (fun e s => e = .norm ∧ Wk (1000 :: 800 :: 808 :: pin) s ⟨[], smH l frs f (hp (i + 1)), 1500⟩) ⟨bodyE k ps [dI i, dI v] asg, smH l frs f (hp i), 1500⟩)
    (hQ : Q .norm ⟨env', smH l frs f (hp frs.length), 1100⟩) : AWb false Tryd.prog 35 pin cprecord_tape_samples_S1 (RangeQ Q env') ⟨envOf 0 [.yld 800 r k, .ptr 120 0, .ptr 121 0], (96, tpC l frs) :: (120, [.ptr 96 0]) :: (121, flC f) :: hp 0, 808⟩ := by
  have hkO : kOK [.yld 800 r k, .ptr 120 0, .ptr 121 0, .ptr 808 0] = true := by simp only [kOK, List.all_cons, hk]; rfl
  have hpre : ∀ m, 809 ≤ m → ∀ g ∈ 800 :: 808 :: pin, g < m := fun m hm g hg => by
    simp only [List.mem_cons] at hg
    rcases hg with rfl | rfl | hg
    · omega
    · omega
    · have := hpin g hg; omega
  have hky : ∀ S : Nat → Prop, S 800 → (∀ g ∈ pin, S g) → In S (.yld 800 r k) := fun S h1 h2 => .yld _ _ _ h1 fun d hd => (hkp d hd).mono fun g hg => h2 g hg
  have hkp2 : ∀ d ∈ [D.yld 800 r k, .ptr 120 0, .ptr 121 0, .ptr 808 0], In (· ∈ 800 :: 808 :: pin) d := by
    intro d hd
    simp only [List.mem_cons, List.not_mem_nil, or_false] at hd
    rcases hd with rfl | rfl | rfl | rfl
    · exact hky _ (by simp) fun g hg => by simp [hg]
    · exact .ptr _ _ (by simp [h120])
    · exact .ptr _ _ (by simp [h121])
    · exact .ptr _ _ (by simp)
  have h8 : hget (hp 0) 808 = none := by
    cases h : hget (hp 0) 808 with
    | none => rfl
    | some c => have := ((hlow 0).1 _ _ h).1; omega
  unfold cprecord_tape_samples_S1
  refine aw_seq (aw_region ?_)
  simp (disch := first | exact okY | omega) only [ZU, Nat.reduceMul, Nat.reduceAdd, AOpRun, aexec, D.isBot, ↓eget_h, Nat.reduceBEq, h8, or_self, ↓reduceIte, D.cells]
  refine aw_seq (aw_region ?_)
  simp (disch := first | exact okY | omega) only [ZU, Nat.reduceAdd, Nat.reduceMul, AOpRun, aexec, run1, Nat.reduceBEq, ↓eget_h, ↓hget_h]
  refine aw_wk (s' := ⟨[(0, .yld 800 r k), (1, .ptr 120 0), (2, .ptr 121 0), (3, .ptr 808 0), (7, .fn 39 [.ptr 96 0] [])], smH l frs f (hp 0), 1000⟩) (wk_ref (fun g hg => by have := hpin g hg; show g < 1000; omega)
    ⟨rfl, hky _ (nlt rfl) (fun g hg => by have := hpin g hg; show g < 1000; omega), rfl, .ptr _ _ (nlt rfl), rfl, .ptr _ _ (nlt rfl), rfl, .ptr _ _ (nlt rfl), rfl, .fn _ _ _ (by intro d hd; simp at hd; subst hd; exact .ptr _ _ (nlt rfl)) (by simp), trivial⟩ ?_) ?_
  · intro g c hc
    simp only [smH, hget] at hc
    simp only [hget, hget_put]
    split at hc
    · cases hc; rename_i h; subst h; exact ⟨nlt rfl, _, rfl, CT.refl (tpC_in _ l frs)⟩
    split at hc
    · cases hc; rename_i h; subst h; exact ⟨nlt rfl, _, rfl, CT.refl (by intro d hd; simp at hd; subst hd; exact .ptr _ _ (nlt rfl))⟩
    split at hc
    · cases hc; rename_i h; subst h; exact ⟨nlt rfl, _, rfl, CT.refl (flC_in _ f)⟩
    split at hc
    · cases hc; rename_i h; subst h; exact ⟨nlt rfl, _, rfl, ⟨.inr ⟨_, _, _, rfl, rfl⟩, .yref _ (nlt rfl), trivial⟩⟩
    · have h1 := (hlow 0).1 g c hc
      refine ⟨by show g < 1000; omega, c, ?_, CT.refl fun d hd => (h1.2 d hd).mono fun x hx => by show x < 1000; omega⟩
      rename_i q1 q2 q3 q4
      simp [q1, q2, q3, q4, hc]
  refine aw_block (aw_range (800 :: 808 :: pin) [] [.yld 800 r k, .ptr 120 0, .ptr 121 0, .ptr 808 0] kprecord_tape_good rfl (by simp) ⟨.inr rfl, .inr rfl, .inr rfl, .inr rfl, trivial⟩ hkO ?_ (fun g hg => by simp [hg]) trivial (fun r2 hr2 => ?_))
  · show hget (smH l frs f (hp 0)) 1000 = none
    simp only [smH, hget, Nat.reduceEqDiff, if_false]
    cases h : hget (hp 0) 1000 with
    | none => rfl
    | some c => have := (hlow 0).1 _ _ h; omega
  refine good_hit hr2 rfl l frs hn (800 :: 808 :: pin) (hpre 1000 (nle rfl)) [.yld 800 r k, .ptr 120 0, .ptr 121 0, .ptr 808 0] hkO hkp2 (by simp [h96]) (fun i => (120, [.ptr 96 0]) :: (121, flC f) :: (808, [.yref 800]) :: hp i) (fun i => smT_low (hlow i)) (fun i hi hs => ?_) (fun i hi hs => ?_) ?_
  · rw [hno i hi (if_neg fun h => hs h.1)]
  · exact samples_round hr hps l frs f hf hm pin hpin k hk hkp hp hlow i hi hs (hno i hi) (fun v hv => hb i v hi hv)
  · simp only [blockQ]
    exact rangeQ (.inl rfl) ((smT_low (hlow _)).cons (nlt rfl) (tpC_in _ l frs) rfl).2 hQ
end Go.Proofs.YtdcodicoclecnaaDoor
/- record: a field's samples, a tape that has fields. No conditions. -/
namespace Go.Proofs.YtdcodicoclecnaaDoor
open Go.RowKit Lift

theorem fAt_ok {l : Lay} (h : LayOk l) {k : Nat} (hk : k < l.fl.length) : FOk l.words (fAt l k) := h.fo k hk
set_option maxRecDepth 100000 in
set_option maxHeartbeats 2000000 in
theorem samples_ac (l : Lay) (frs : List (List Int)) (k : Nat) (hk : k < l.fl.length) (hn : l.fl.length ≤ 1000) : AC Tryd.prog 25 [.ptr 96 0, dI k] [(96, tpC l frs)] [(96, some (tpC l frs)), (120, some [.ptr 96 0]), (121, some (flC (fAt l k)))] (.fn 38 [] [.ptr 120 0, .ptr 121 0]) := by
  refine kprecord_tape_samples.ac (n0 := 200) (by simp) ⟨.ptr _ _ (by omega), .val _, trivial⟩ ⟨⟨by omega, tpC_in _ _ _⟩, trivial⟩ rfl ?_
  unfold cprecord_tape_samples
  unfold tpC
  have g1 : (fls l.fl)[k]? = some (flC (fAt l k)) := fls_gd l.fl k hk
  unfold flC at g1 ⊢
  have ki : (k : Int) < (l.fl.length : Int) := by omega
  have fa := fls_all l.fl
  have fl := fls_len l.fl
  (repeat' (first | (with_reducible first | refine thenQ_n ?_ | refine blockQ_n ?_ | refine thenQ_e ?_ | refine blockQ_t ?_ | refine blockQ_f (by decide) ?_) | apply aw_seq | apply aw_skip | apply aw_exit | apply aw_ret | apply aw_block | apply aw_condT rfl | apply aw_condF rfl | ((first | refine aw_hide fun K hK => aw_region ?_ | refine ago_if (by omega) ?_ | skip); simp (disch := first | exact okY | omega) only [ZU, Nat.reduceAdd, Nat.reduceMul, dI, AOpRun, aexec, D.isBot, ↓eget_h, Nat.reduceBEq, or_self, ↓reduceIte, D.cells, run1, ↓hget_h, fa, opt1, g1, dB, Nat.reduceLeDiff, List.take, fillD, ne_eq, not_true_eq_false, Nat.reduceGT, splice, List.drop, List.all, D.leaf]) | subst hK))
  refine end_q [] [(96, 96), (120, 200), (121, 288)] ?_ ?_ <;> repeat' (first | exact trivial | exact vr_val _ | exact vr_list _ | exact vr_ptr _ _ _ rfl | apply vr_fn | refine And.intro ⟨_, rfl, _, rfl, by decide, ?_⟩ ?_ | apply And.intro)
  all_goals first | exact tpC_in _ _ _ | exact flC_in _ _
set_option maxRecDepth 100000 in
set_option maxHeartbeats 2000000 in
theorem has_ac (l : Lay) (frs : List (List Int)) (x : Int) (hn : l.fl.length ≤ 1000) : AC Tryd.prog 37 [.ptr 96 0, dI x] [(96, tpC l frs)] [(96, some (tpC l frs))] (dB (wI x 0 ((l.fl.length : Int) - 1))) := by
  refine kprecord_tape_has.ac (n0 := 200) (by simp) ⟨.ptr _ _ (by omega), .val _, trivial⟩ ⟨⟨by omega, tpC_in _ _ _⟩, trivial⟩ rfl ?_
  unfold cprecord_tape_has
  unfold tpC
  have fl := fls_len l.fl
  (repeat' (first | (with_reducible first | refine thenQ_n ?_ | refine blockQ_n ?_ | refine thenQ_e ?_ | refine blockQ_t ?_ | refine blockQ_f (by decide) ?_) | apply aw_seq | apply aw_skip | apply aw_exit | apply aw_ret | apply aw_block | apply aw_condT rfl | apply aw_condF rfl | ((first | refine aw_hide fun K hK => aw_region ?_ | refine acall0 (within_ac _ _ _) ?_ | refine ago_if (by omega) ?_ | skip); simp (disch := first | exact okY | omega) only [ZU, Nat.reduceMul, Nat.reduceAdd, dI, AOpRun, aexec, Nat.reduceBEq, ↓eget_h, run1, fl, isSh, ↓reduceIte, abin, fits, dB]) | subst hK))
  all_goals (refine end_q [] [(96, 96)] ?_ ?_ <;> repeat' (first | exact trivial | exact vr_val _ | exact vr_list _ | refine And.intro ⟨_, rfl, _, rfl, by decide, ?_⟩ ?_ | apply And.intro))
  all_goals exact tpC_in _ _ _
set_option maxRecDepth 100000 in
set_option maxHeartbeats 2000000 in
theorem hasF_ac (l : Lay) (frs : List (List Int)) (x : Int) (hn : l.fl.length ≤ 1000) : AC Tryd.prog 36 [dI x, .ptr 152 0] [(96, tpC l frs), (152, [.ptr 96 0])] [(96, some (tpC l frs)), (152, some [.ptr 96 0])] (dB (!wI x 0 ((l.fl.length : Int) - 1))) := by
  refine krecord_withField_S1.ac (n0 := 200) (by simp) ⟨.val _, .ptr _ _ (by omega), trivial⟩ ⟨⟨by omega, tpC_in _ _ _⟩, ⟨by omega, by intro d hd; simp at hd; subst hd; exact .ptr _ _ (by omega)⟩, trivial⟩ rfl ?_
  unfold crecord_withField_S1
  (repeat' (first | (with_reducible first | refine thenQ_n ?_ | refine blockQ_n ?_ | refine thenQ_e ?_ | refine blockQ_t ?_ | refine blockQ_f (by decide) ?_) | apply aw_seq | apply aw_skip | apply aw_exit | apply aw_ret | apply aw_block | apply aw_condT rfl | apply aw_condF rfl | ((first | refine aw_hide fun K hK => aw_region ?_ | refine acallB (has_ac l frs _ hn) (by repeat' (first | exact trivial | exact rfl | refine And.intro ?_ ?_)) (by kernel_rfl) (by kernel_rfl) (by kernel_rfl) ?_ | refine ago_if (by omega) ?_ | skip); simp (disch := first | exact okY | omega) only [ZU, Nat.reduceMul, Nat.reduceAdd, dI, AOpRun, aexec, Nat.reduceBEq, run1, ↓eget_h, ↓hget_h, dB]) | subst hK))
  all_goals (refine end_q [] [(96, 96), (152, 152)] ?_ ?_ <;> repeat' (first | exact trivial | exact vr_val _ | exact vr_list _ | exact vr_ptr _ _ _ rfl | refine And.intro ⟨_, rfl, _, rfl, by decide, ?_⟩ ?_ | apply And.intro))
  all_goals exact tpC_in _ _ _
def hasA (l : Lay) (fs : List Int) : Bool := fs.all fun x => wI x 0 ((l.fl.length : Int) - 1)
set_option maxRecDepth 100000 in
set_option maxHeartbeats 4000000 in
theorem ihas_ac (l : Lay) (frs : List (List Int)) (fs : List Int) (hl : fs.length ≤ 1000000) (hn : l.fl.length ≤ 1000) : AC Tryd.prog 69 [.list (ints fs), .fn 36 [] [.ptr 152 0]] [(96, tpC l frs), (152, [.ptr 96 0])] [(96, some (tpC l frs)), (152, some [.ptr 96 0])] (dI (match fs.findIdx? (fun x => !wI x 0 ((l.fl.length : Int) - 1)) with
    | some k => (k : Int)
    | none => -1)) := by
  refine kslices_IndexFunc_L_L_Jint_Kint_J.ac (n0 := 200) (by simp) ⟨.list _, .fn _ _ _ (by simp) (by intro d hd; simp at hd; subst hd; exact .ptr _ _ (by omega)), trivial⟩ ⟨⟨by omega, tpC_in _ _ _⟩, ⟨by omega, by intro d hd; simp at hd; subst hd; exact .ptr _ _ (by omega)⟩, trivial⟩ rfl ?_
  unfold cslices_IndexFunc_L_L_Jint_Kint_J
  (repeat' (first | (with_reducible first | refine thenQ_n ?_ | refine blockQ_n ?_ | refine thenQ_e ?_ | refine blockQ_t ?_ | refine blockQ_f (by decide) ?_) | apply aw_seq | apply aw_skip | apply aw_exit | apply aw_ret | apply aw_block | apply aw_condT rfl | apply aw_condF rfl | ((first | refine aw_hide fun K hK => aw_region ?_ | refine ago_if (by omega) ?_ | skip); simp (disch := first | exact okY | omega) only [ZU, Nat.reduceMul, Nat.reduceAdd, AOpRun, aexec, Nat.reduceBEq, ↓eget_h, ints_len, Int.reduceNeg, dI]) | subst hK))
  refine aw_loop (fun k : Nat => ⟨[(0, .list (ints fs)), (1, .fn 36 [] [.ptr 152 0]), (7, dI fs.length), (8, dI k)], [(96, tpC l frs), (152, [.ptr 96 0])], 400⟩) (fun k => k ≤ fs.length ∧ ∀ j, j < k → wI (fs[j]?.getD 0) 0 ((l.fl.length : Int) - 1) = true) (fun k => fs.length - k) ⟨0, ⟨by omega, fun j hj => by omega⟩, ?_⟩ ?_
  · refine wk_q [] [(96, 96), (152, 152)] ?_ ?_ <;> repeat' (first | exact trivial | exact vr_val _ | exact vr_list _ | exact vr_ptr _ _ _ rfl | apply vr_fn | refine And.intro ⟨_, rfl, .inl ⟨_, rfl, by decide, ?_⟩⟩ ?_ | apply And.intro)
    all_goals exact tpC_in _ _ _
  rintro k ⟨hk, hin⟩
  by_cases hk2 : k < fs.length
  · have g1 := ints_gd fs k hk2
    cases he : wI (fs[k]?.getD 0) 0 ((l.fl.length : Int) - 1) with
    | false =>
      have q : fs.findIdx? (fun x => !wI x 0 ((l.fl.length : Int) - 1)) = some k := by
        rw [List.findIdx?_eq_some_iff_getElem]
        refine ⟨hk2, by have := he; simp [hk2] at this; simp [this], fun j hj => ?_⟩
        have := hin j hj
        simpa [show j < fs.length by omega] using this
      rw [q]
      (have hg : (987654321 : Nat) - 987654321 = 0 := rfl; have hr := hg; repeat' (first | (with_reducible first | refine thenQ_n ?_ | refine blockQ_n ?_ | refine thenQ_e ?_ | refine blockQ_t ?_ | refine blockQ_f (by decide) ?_) | apply aw_seq | apply aw_skip | apply aw_exit | apply aw_ret | apply aw_block | apply aw_condT rfl | apply aw_condF rfl | (refine aw_cond rfl (fun hg => ?_) (fun hg => ?_) <;> (try (have hq := hg; simp only [Bool.not_eq_true', Bool.not_eq_false', Bool.and_eq_true, Bool.and_eq_false_iff, Bool.or_eq_true, Bool.or_eq_false_iff, decide_eq_true_eq, decide_eq_false_iff_not, bne_iff_ne, beq_iff_eq, beq_eq_false_iff_ne, bne_eq_false_iff_eq, ne_eq, Int.not_lt, Int.not_le, Decidable.not_not] at hq)) <;> (try (have hr := hg; simp only [decide_eq_true_eq, decide_eq_false_iff_not] at hr)) <;> (try (exfalso; omega))) | ((first | refine aw_hide fun K hK => aw_region ?_ | refine acallB (hasF_ac l frs _ hn) (by repeat' (first | exact trivial | exact rfl | refine And.intro ?_ ?_)) (by kernel_rfl) (by kernel_rfl) (by kernel_rfl) ?_ | refine ago_if (by omega) ?_ | skip); simp (disch := first | exact okY | omega) only [ZU, Nat.reduceMul, Nat.reduceAdd, dI, AOpRun, aexec, Nat.reduceBEq, ↓eget_h, isSh, ↓reduceIte, abin, hr, ints_all, opt1, g1, run1, dB, he, blockQ]) | subst hK))
      all_goals (refine end_q [] [(96, 96), (152, 152)] ?_ ?_ <;> repeat' (first | exact trivial | exact vr_val _ | exact vr_list _ | exact vr_ptr _ _ _ rfl | refine And.intro ⟨_, rfl, _, rfl, by decide, ?_⟩ ?_ | apply And.intro))
      all_goals exact tpC_in _ _ _
    | true =>
      (have hg : (987654321 : Nat) - 987654321 = 0 := rfl; have hr := hg; repeat' (first | (with_reducible first | refine thenQ_n ?_ | refine blockQ_n ?_ | refine thenQ_e ?_ | refine blockQ_t ?_ | refine blockQ_f (by decide) ?_) | apply aw_seq | apply aw_skip | apply aw_exit | apply aw_ret | apply aw_block | apply aw_condT rfl | apply aw_condF rfl | (refine aw_cond rfl (fun hg => ?_) (fun hg => ?_) <;> (try (have hq := hg; simp only [Bool.not_eq_true', Bool.not_eq_false', Bool.and_eq_true, Bool.and_eq_false_iff, Bool.or_eq_true, Bool.or_eq_false_iff, decide_eq_true_eq, decide_eq_false_iff_not, bne_iff_ne, beq_iff_eq, beq_eq_false_iff_ne, bne_eq_false_iff_eq, ne_eq, Int.not_lt, Int.not_le, Decidable.not_not] at hq)) <;> (try (have hr := hg; simp only [decide_eq_true_eq, decide_eq_false_iff_not] at hr)) <;> (try (exfalso; omega))) | ((first | refine aw_hide fun K hK => aw_region ?_ | refine acallB (hasF_ac l frs _ hn) (by repeat' (first | exact trivial | exact rfl | refine And.intro ?_ ?_)) (by kernel_rfl) (by kernel_rfl) (by kernel_rfl) ?_ | refine ago_if (by omega) ?_ | skip); simp (disch := first | exact okY | omega) only [ZU, Nat.reduceMul, Nat.reduceAdd, dI, AOpRun, aexec, Nat.reduceBEq, ↓eget_h, isSh, ↓reduceIte, abin, hr, ints_all, opt1, g1, run1, dB, he, fits]) | subst hK))
      refine ⟨k + 1, ⟨by omega, fun j hj => ?_⟩, by omega, ?_⟩
      · rcases (by omega : j < k ∨ j = k) with h | rfl
        · exact hin j h
        · exact he
      · refine wk_q [] [(96, 96), (152, 152)] ?_ ?_ <;> repeat' (first | exact trivial | exact vr_val _ | exact vr_list _ | exact vr_ptr _ _ _ rfl | apply vr_fn | refine And.intro ⟨_, rfl, .inl ⟨_, rfl, by decide, ?_⟩⟩ ?_ | apply And.intro)
        all_goals exact tpC_in _ _ _
  · obtain rfl : k = fs.length := by omega
    have q : fs.findIdx? (fun x => !wI x 0 ((l.fl.length : Int) - 1)) = none := by
      rw [List.findIdx?_eq_none_iff]
      intro y hy
      obtain ⟨j, hj, rfl⟩ := List.getElem_of_mem hy
      have := hin j hj
      simp [hj] at this
      simp [this]
    rw [q]
    (have hg : (987654321 : Nat) - 987654321 = 0 := rfl; have hr := hg; repeat' (first | (with_reducible first | refine thenQ_n ?_ | refine blockQ_n ?_ | refine thenQ_e ?_ | refine blockQ_t ?_ | refine blockQ_f (by decide) ?_) | apply aw_seq | apply aw_skip | apply aw_exit | apply aw_ret | apply aw_block | apply aw_condT rfl | apply aw_condF rfl | (refine aw_cond rfl (fun hg => ?_) (fun hg => ?_) <;> (try (have hq := hg; simp only [Bool.not_eq_true', Bool.not_eq_false', Bool.and_eq_true, Bool.and_eq_false_iff, Bool.or_eq_true, Bool.or_eq_false_iff, decide_eq_true_eq, decide_eq_false_iff_not, bne_iff_ne, beq_iff_eq, beq_eq_false_iff_ne, bne_eq_false_iff_eq, ne_eq, Int.not_lt, Int.not_le, Decidable.not_not] at hq)) <;> (try (have hr := hg; simp only [decide_eq_true_eq, decide_eq_false_iff_not] at hr)) <;> (try (exfalso; omega))) | ((first | refine aw_hide fun K hK => aw_region ?_ | refine ago_if (by omega) ?_ | skip); simp (disch := first | exact okY | omega) only [ZU, Nat.reduceMul, Nat.reduceAdd, dI, AOpRun, aexec, Nat.reduceBEq, ↓eget_h, isSh, ↓reduceIte, abin, Int.reduceNeg, hr, decide_false]) | subst hK))
    all_goals (refine end_q [] [(96, 96), (152, 152)] ?_ ?_ <;> repeat' (first | exact trivial | exact vr_val _ | exact vr_list _ | exact vr_ptr _ _ _ rfl | refine And.intro ⟨_, rfl, _, rfl, by decide, ?_⟩ ?_ | apply And.intro))
    all_goals exact tpC_in _ _ _
set_option maxRecDepth 100000 in
set_option maxHeartbeats 2000000 in
theorem chas_ac (l : Lay) (frs : List (List Int)) (fs : List Int) (hl : fs.length ≤ 1000000) (hn : l.fl.length ≤ 1000) : AC Tryd.prog 35 [.list (ints fs), .fn 36 [] [.ptr 152 0]] [(96, tpC l frs), (152, [.ptr 96 0])] [(96, some (tpC l frs)), (152, some [.ptr 96 0])] (dB (!hasA l fs)) := by
  refine kslices_ContainsFunc_L_L_Jint_Kint_J.ac (n0 := 200) (by simp) ⟨.list _, .fn _ _ _ (by simp) (by intro d hd; simp at hd; subst hd; exact .ptr _ _ (by omega)), trivial⟩ ⟨⟨by omega, tpC_in _ _ _⟩, ⟨by omega, by intro d hd; simp at hd; subst hd; exact .ptr _ _ (by omega)⟩, trivial⟩ rfl ?_
  unfold cslices_ContainsFunc_L_L_Jint_Kint_J
  have hf := ihas_ac l frs fs hl hn
  cases h : fs.findIdx? (fun x => !wI x 0 ((l.fl.length : Int) - 1)) with
  | none =>
    have ha : hasA l fs = true := by
      rw [List.findIdx?_eq_none_iff] at h
      refine List.all_eq_true.2 fun x hx => ?_
      have := h x hx
      simpa using this
    rw [h] at hf
    rw [ha]
    (repeat' (first | (with_reducible first | refine thenQ_n ?_ | refine blockQ_n ?_ | refine thenQ_e ?_ | refine blockQ_t ?_ | refine blockQ_f (by decide) ?_) | apply aw_seq | apply aw_skip | apply aw_exit | apply aw_ret | apply aw_block | apply aw_condT rfl | apply aw_condF rfl | ((first | refine aw_hide fun K hK => aw_region ?_ | refine acallB (hf) (by repeat' (first | exact trivial | exact rfl | refine And.intro ?_ ?_)) (by kernel_rfl) (by kernel_rfl) (by kernel_rfl) ?_ | refine ago_if (by omega) ?_ | skip); simp (disch := first | exact okY | omega) only [ZU, Nat.reduceMul, Nat.reduceAdd, AOpRun, aexec, Nat.reduceBEq, ↓eget_h, dI, Int.reduceNeg, isSh, ↓reduceIte, abin, dB]) | subst hK))
    all_goals (refine end_q [] [(96, 96), (152, 152)] ?_ ?_ <;> repeat' (first | exact trivial | exact vr_val _ | exact vr_list _ | exact vr_ptr _ _ _ rfl | refine And.intro ⟨_, rfl, _, rfl, by decide, ?_⟩ ?_ | apply And.intro))
    all_goals exact tpC_in _ _ _
  | some k =>
    have ha : hasA l fs = false := by
      rw [List.findIdx?_eq_some_iff_getElem] at h
      obtain ⟨hk, he, _⟩ := h
      refine List.all_eq_false.2 ⟨fs[k], List.getElem_mem hk, by simpa using he⟩
    rw [h] at hf
    rw [ha]
    have q : decide ((k : Int) ≥ 0) = true := decide_eq_true (by omega)
    (repeat' (first | (with_reducible first | refine thenQ_n ?_ | refine blockQ_n ?_ | refine thenQ_e ?_ | refine blockQ_t ?_ | refine blockQ_f (by decide) ?_) | apply aw_seq | apply aw_skip | apply aw_exit | apply aw_ret | apply aw_block | apply aw_condT rfl | apply aw_condF rfl | ((first | refine aw_hide fun K hK => aw_region ?_ | refine acallB (hf) (by repeat' (first | exact trivial | exact rfl | refine And.intro ?_ ?_)) (by kernel_rfl) (by kernel_rfl) (by kernel_rfl) ?_ | refine ago_if (by omega) ?_ | skip); simp (disch := first | exact okY | omega) only [ZU, Nat.reduceMul, Nat.reduceAdd, AOpRun, aexec, Nat.reduceBEq, ↓eget_h, dI, isSh, ↓reduceIte, abin, dB]) | subst hK))
    all_goals (refine end_q [] [(96, 96), (152, 152)] ?_ ?_ <;> repeat' (first | exact trivial | exact vr_val _ | exact vr_list _ | exact vr_ptr _ _ _ rfl | refine And.intro ⟨_, rfl, _, rfl, by decide, ?_⟩ ?_ | apply And.intro))
    all_goals exact tpC_in _ _ _
noncomputable def wfE (l : Lay) (frs : List (List Int)) (fs : List Int) : Int := if tpE l frs = 0 then (if hasA l fs = true then 0 else 1) else tpE l frs
set_option maxRecDepth 100000 in
set_option maxHeartbeats 4000000 in
theorem withField_ok (l : Lay) (frs : List (List Int)) (fs : List Int) (hl : LayIn l) (h1 : LayOk l) (h2 : frs.length ≤ 200) (hf : FrIn frs) (hfs : fs.length ≤ 1000) (hh : hasA l fs = true) : AC Tryd.prog 24 [layD l, .list (rows frs), .list (ints fs)] [] [(96, some (tpC l frs))] (.tup [.ptr 96 0, dI 0]) := by
  refine krecord_withField.ac (n0 := 0) (by simp) ⟨in_layD _ _, .list _, .list _, trivial⟩ trivial rfl ?_
  unfold crecord_withField layD layC
  have nt := newTape_ok l frs hl h1 h2 hf
  have ch := chas_ac l frs fs (by omega) (by have := h1.nf; omega)
  rw [hh] at ch
  refine aw_seq (aw_region ?_)
  simp (disch := first | exact okY | omega) only [ZU, dI, Nat.reduceAdd, Nat.reduceMul, AOpRun, aexec, D.isBot, ↓eget_h, or_self, ↓reduceIte, D.cells, Nat.reduceBEq]
  refine aw_wk (s' := ⟨[(1, .list (rows frs)), (2, .list (ints fs)), (3, .ptr 0 0)], [(0, [dI l.words, dI l.s0, dI l.s1, dI l.s2, dI l.s3, .list (fls l.fl)])], 80⟩) ?_ ?_
  · unfold dI
    refine wk_q [] [(0, 0)] ?_ ?_ <;> repeat' (first | exact trivial | exact vr_val _ | exact vr_list _ | exact vr_ptr _ _ _ rfl | refine And.intro ⟨_, rfl, .inl ⟨_, rfl, by decide, ?_⟩⟩ ?_ | apply And.intro)
  refine aw_seq (aw_region ?_)
  simp (disch := first | exact okY | omega) only [ZU, Nat.reduceAdd, Nat.reduceMul, dI, AOpRun, aexec, Nat.reduceBEq, ↓eget_h, Nat.reduceLeDiff, ↓reduceIte, List.drop, List.take]
  refine acallB nt (by repeat' (first | exact trivial | exact rfl | refine And.intro ?_ ?_)) (by kernel_rfl) (by kernel_rfl) (by kernel_rfl) ?_
  simp (disch := first | exact okY | omega) only [ZU, Nat.reduceAdd, dI, Nat.reduceBEq, AOpRun, aexec, ↓eget_h, opt1, Nat.reduceMul, ↓reduceIte, ↓hget_h, D.isBot, D.cells, Nat.reduceLeDiff, List.all, D.leaf, splice, List.take, List.drop]
  (iterate 7 (try (first | apply aw_seq | ((first | apply aw_skip | apply aw_exit); with_reducible repeat' (first | refine thenQ_n ?_ | refine blockQ_n ?_ | refine thenQ_e ?_ | refine blockQ_t ?_ | refine blockQ_f (by decide) ?_)) | apply aw_ret | apply aw_block | apply aw_condT rfl | apply aw_condF rfl | ((first | refine aw_hide fun K hK => aw_region ?_ | refine ago_if (by omega) ?_ | skip); simp (disch := first | exact okY | omega) only [ZU, Nat.reduceAdd, Nat.reduceMul, AOpRun, aexec, Nat.reduceBEq, ↓eget_h, isSh, ↓reduceIte, abin, bne_self_eq_false]) | (subst hK; with_reducible repeat' (first | refine thenQ_n ?_ | refine blockQ_n ?_ | refine thenQ_e ?_ | refine blockQ_t ?_ | refine blockQ_f (by decide) ?_)))))
  refine aw_wk (s' := ⟨[(2, .list (ints fs)), (8, .ptr 152 0)], [(96, tpC l frs), (152, [.ptr 96 0])], 200⟩) ?_ ?_
  · refine wk_q [] [(96, 96), (152, 128)] ?_ ?_ <;> repeat' (first | exact trivial | exact vr_val _ | exact vr_list _ | exact vr_ptr _ _ _ rfl | refine And.intro ⟨_, rfl, .inl ⟨_, rfl, by decide, ?_⟩⟩ ?_ | apply And.intro)
    all_goals exact tpC_in _ _ _
  (repeat' (first | (with_reducible first | refine thenQ_n ?_ | refine blockQ_n ?_ | refine thenQ_e ?_ | refine blockQ_t ?_ | refine blockQ_f (by decide) ?_) | apply aw_seq | apply aw_skip | apply aw_exit | apply aw_ret | apply aw_block | apply aw_condT rfl | apply aw_condF rfl | ((first | refine aw_hide fun K hK => aw_region ?_ | refine acallB (ch) (by repeat' (first | exact trivial | exact rfl | refine And.intro ?_ ?_)) (by kernel_rfl) (by kernel_rfl) (by kernel_rfl) ?_ | refine ago_if (by omega) ?_ | skip); simp (disch := first | exact okY | omega) only [ZU, Nat.reduceAdd, Nat.reduceMul, AOpRun, aexec, ↓eget_h, Nat.reduceBEq, dB, run1, ↓hget_h]) | subst hK))
  refine end_q [] [(96, 96)] ?_ ?_ <;> repeat' (first | exact trivial | exact vr_val _ | exact vr_list _ | exact vr_ptr _ _ _ rfl | apply vr_tup | refine And.intro ⟨_, rfl, _, rfl, by decide, ?_⟩ ?_ | apply And.intro)
  all_goals exact tpC_in _ _ _
set_option maxRecDepth 100000 in
set_option maxHeartbeats 4000000 in
theorem withField_err (l : Lay) (frs : List (List Int)) (fs : List Int) (hl : LayIn l) (hf : FrIn frs) (hfs : fs.length ≤ 1000) (he : wfE l frs fs ≠ 0) : AC Tryd.prog 24 [layD l, .list (rows frs), .list (ints fs)] [] [] (.tup [.val (.pointer none), dI (wfE l frs fs)]) := by
  refine krecord_withField.ac (n0 := 0) (by simp) ⟨in_layD _ _, .list _, .list _, trivial⟩ trivial rfl ?_
  unfold crecord_withField layD layC
  rcases tpE_cases l frs with ⟨h0, h1, h2⟩ | ⟨h0, h1⟩
  · have hh : hasA l fs = false := by
      cases h : hasA l fs with
      | false => rfl
      | true => exact absurd (by unfold wfE; rw [if_pos h0, if_pos h]) he
    have e : wfE l frs fs = 1 := by unfold wfE; rw [if_pos h0, hh]; rfl
    rw [e]
    have nt := newTape_ok l frs hl h1 h2 hf
    have ch := chas_ac l frs fs (by omega) (by have := h1.nf; omega)
    rw [hh] at ch
    refine aw_seq (aw_region ?_)
    simp (disch := first | exact okY | omega) only [ZU, dI, Nat.reduceAdd, Nat.reduceMul, AOpRun, aexec, D.isBot, ↓eget_h, or_self, ↓reduceIte, D.cells, Nat.reduceBEq]
    refine aw_wk (s' := ⟨[(1, .list (rows frs)), (2, .list (ints fs)), (3, .ptr 0 0)], [(0, [dI l.words, dI l.s0, dI l.s1, dI l.s2, dI l.s3, .list (fls l.fl)])], 80⟩) ?_ ?_
    · unfold dI
      refine wk_q [] [(0, 0)] ?_ ?_ <;> repeat' (first | exact trivial | exact vr_val _ | exact vr_list _ | exact vr_ptr _ _ _ rfl | refine And.intro ⟨_, rfl, .inl ⟨_, rfl, by decide, ?_⟩⟩ ?_ | apply And.intro)
    refine aw_seq (aw_region ?_)
    simp (disch := first | exact okY | omega) only [ZU, Nat.reduceAdd, Nat.reduceMul, dI, AOpRun, aexec, Nat.reduceBEq, ↓eget_h, Nat.reduceLeDiff, ↓reduceIte, List.drop, List.take]
    refine acallB nt (by repeat' (first | exact trivial | exact rfl | refine And.intro ?_ ?_)) (by kernel_rfl) (by kernel_rfl) (by kernel_rfl) ?_
    simp (disch := first | exact okY | omega) only [ZU, Nat.reduceAdd, dI, Nat.reduceBEq, AOpRun, aexec, ↓eget_h, opt1, Nat.reduceMul, ↓reduceIte, ↓hget_h, D.isBot, D.cells, Nat.reduceLeDiff, List.all, D.leaf, splice, List.take, List.drop]
    (iterate 7 (try (first | apply aw_seq | ((first | apply aw_skip | apply aw_exit); with_reducible repeat' (first | refine thenQ_n ?_ | refine blockQ_n ?_ | refine thenQ_e ?_ | refine blockQ_t ?_ | refine blockQ_f (by decide) ?_)) | apply aw_ret | apply aw_block | apply aw_condT rfl | apply aw_condF rfl | ((first | refine aw_hide fun K hK => aw_region ?_ | refine ago_if (by omega) ?_ | skip); simp (disch := first | exact okY | omega) only [ZU, Nat.reduceAdd, Nat.reduceMul, AOpRun, aexec, Nat.reduceBEq, ↓eget_h, isSh, ↓reduceIte, abin, bne_self_eq_false]) | (subst hK; with_reducible repeat' (first | refine thenQ_n ?_ | refine blockQ_n ?_ | refine thenQ_e ?_ | refine blockQ_t ?_ | refine blockQ_f (by decide) ?_)))))
    refine aw_wk (s' := ⟨[(2, .list (ints fs)), (8, .ptr 152 0)], [(96, tpC l frs), (152, [.ptr 96 0])], 200⟩) ?_ ?_
    · refine wk_q [] [(96, 96), (152, 128)] ?_ ?_ <;> repeat' (first | exact trivial | exact vr_val _ | exact vr_list _ | exact vr_ptr _ _ _ rfl | refine And.intro ⟨_, rfl, .inl ⟨_, rfl, by decide, ?_⟩⟩ ?_ | apply And.intro)
      all_goals exact tpC_in _ _ _
    (repeat' (first | (with_reducible first | refine thenQ_n ?_ | refine blockQ_n ?_ | refine thenQ_e ?_ | refine blockQ_t ?_ | refine blockQ_f (by decide) ?_) | apply aw_seq | apply aw_skip | apply aw_exit | apply aw_ret | apply aw_block | apply aw_condT rfl | apply aw_condF rfl | ((first | refine aw_hide fun K hK => aw_region ?_ | refine acallB (ch) (by repeat' (first | exact trivial | exact rfl | refine And.intro ?_ ?_)) (by kernel_rfl) (by kernel_rfl) (by kernel_rfl) ?_ | refine ago_if (by omega) ?_ | skip); simp (disch := first | exact okY | omega) only [ZU, Nat.reduceAdd, Nat.reduceMul, AOpRun, aexec, ↓eget_h, Nat.reduceBEq, dB]) | subst hK))
    (refine end_q [] [] ?_ ?_ <;> repeat' (first | exact trivial | exact vr_val _ | apply vr_tup | apply And.intro))
  · have e : wfE l frs fs = tpE l frs := if_neg h0
    rw [e]
    have nt := newTape_err l frs hl (fun h => h0 (tpE_ok h.1 h.2)) hf
    generalize tpE l frs = E at *
    (repeat' (first | (with_reducible first | refine thenQ_n ?_ | refine blockQ_n ?_ | refine thenQ_e ?_ | refine blockQ_t ?_ | refine blockQ_f (by decide) ?_) | apply aw_seq | apply aw_skip | apply aw_exit | apply aw_ret | apply aw_block | apply aw_condT rfl | apply aw_condF rfl | ((first | refine aw_hide fun K hK => aw_region ?_ | refine acall0 (nt) ?_ | refine ago_if (by omega) ?_ | skip); simp (disch := first | exact okY | omega) only [ZU, Nat.reduceAdd, Nat.reduceMul, dI, AOpRun, aexec, D.isBot, ↓eget_h, or_self, ↓reduceIte, D.cells, Nat.reduceBEq, Nat.reduceLeDiff, List.drop, List.take, opt1, ↓hget_h, List.all, D.leaf, splice, isSh, abin, h1]) | subst hK))
    (refine end_q [] [] ?_ ?_ <;> repeat' (first | exact trivial | exact vr_val _ | apply vr_tup | apply And.intro))
end Go.Proofs.YtdcodicoclecnaaDoor
/- The functions' bodies, translated. Written by a program; no conditions. -/
namespace Go.Proofs.YtdcodicoclecnaaDoor
open Go.RowKit Lift

def cprecord_tape_valid : ACode :=
 (.seq
 (.region false [oo 2 (.box (.tmp 0)),
 oo 3 (.box (.tmp 1)),
 oo 4 (.mv (.const (.bool false)))] [])
 (.seq
 (.region false [oo 6 (.mkfn 52 [] [(.tmp 2)]),
 oo 5 (.mv (.tmp 6))] [6])
 (.seq
 (.region false [oo 7 (.fad 0 (.tmp 3)),
 oo 8 (.load1 (.tmp 7)),
 oo 9 (.len_ (.tmp 8)),
 oo 10 (.call (.func 19) [(.tmp 9), (kI 1), (kI 4)]),
 oo 11 (.mv (.tmp 10)),
 og 12 11 true (.fad 0 (.tmp 3)) [],
 og 13 11 true (.load1 (.tmp 12)) [],
 og 14 11 true (.mv (.tmp 5)) [],
 og 15 11 true (.call (.func 53) [(.tmp 13), (.tmp 14)]) [],
 og 16 11 true (.un .not (.tmp 15)) [],
 oo 17 (.pick (.tmp 11) (.tmp 16) (.const (.bool false))),
 oo 18 (.mv (.tmp 17)),
 og 19 18 true (.fad 1 (.tmp 3)) [],
 og 20 18 true (.load1 (.tmp 19)) [],
 og 21 18 true (.call (.func 19) [(.tmp 20), (kI 1), (kI 100)]) [],
 oo 22 (.pick (.tmp 18) (.tmp 21) (.const (.bool false))),
 oo 4 (.mv (.tmp 22))] [7,8,9,10,11,12,13,14,15,16,17,18,19,20,21,22])
 .ret)))
set_option maxRecDepth 100000 in
theorem kprecord_tape_valid : IsCode Tryd.prog 30 23 cprecord_tape_valid [.tmp 4] :=
 ⟨Tryd.f30, _, [0,1,2,3,5,4], Tryd.func30, rfl, by decide, rfl, by kernel_rfl, by kernel_rfl⟩
def cprecord_tape_holds_B30 : ACode :=
 (.block 1
 (.seq
 (.region false [oo 32 (.mv (.tmp 8)),
 oo 33 (.fad 1 (.tmp 3)),
 oo 34 (.load1 (.tmp 33)),
 oo 35 (.fad 5 (.tmp 5)),
 oo 36 (.load1 (.tmp 35)),
 oo 37 (.bin .mul (.tmp 34) (.tmp 36)),
 oo 38 (.bin .leq (.tmp 32) (.tmp 37)),
 oo 9 (.mv (.tmp 38))] [32,33,34,35,36,37,38])
 (.seq
 (.seq
 (.region false [oo 39 (.fad 2 (.tmp 3)),
 oo 40 (.load1 (.tmp 39))] [39])
 (.cond (.tmp 40)
 (.region false [oo 41 (.mv (.tmp 8)),
 oo 42 (.fad 1 (.tmp 3)),
 oo 43 (.load1 (.tmp 42)),
 oo 44 (.fad 5 (.tmp 5)),
 oo 45 (.load1 (.tmp 44)),
 oo 46 (.bin .mul (.tmp 43) (.tmp 45)),
 oo 47 (.bin .geq (.tmp 41) (.tmp 46)),
 oo 9 (.mv (.tmp 47))] [41,42,43,44,45,46,47])
 .skip))
 (.seq
 (.region false [oo 48 (.mv (.tmp 7)),
 oo 10 (.mv (.tmp 48))] [48])
 (.block 2
 (.loop
 (.seq
 (.seq
 (.region false [oo 49 (.mv (.tmp 10)),
 oo 50 (.mv (.tmp 7)),
 oo 51 (.fad 7 (.tmp 5)),
 oo 52 (.load1 (.tmp 51)),
 oo 53 (.bin .add (.tmp 50) (.tmp 52)),
 oo 54 (.load1 (.tmp 6)),
 oo 55 (.len_ (.tmp 54)),
 oo 56 (.mnx false [(.tmp 53), (.tmp 55)]),
 oo 57 (.bin .lss (.tmp 49) (.tmp 56))] [49,50,51,52,53,54,55,56])
 (.cond (.tmp 57)
 .skip
 (.exit 2)))
 (.seq
 (.block 3
 (.region false [oo 60 (.load1 (.tmp 6)),
 oo 61 (.mv (.tmp 10)),
 oo 62 (.mv (.tmp 9)),
 oo 63 (.iadS 1 (.tmp 60) (.tmp 61)),
 on (.store 1 (.tmp 63) (.tmp 62))] [60,61,62,63]))
 (.region false [oo 58 (.mv (.tmp 10)),
 oo 59 (.bin .add (.tmp 58) (kI 1)),
 oo 10 (.mv (.tmp 59))] [58,59])))))))))
def cprecord_tape_holds : ACode :=
 (.seq
 (.region false [oo 3 (.box (.tmp 1)),
 oo 4 (.mv (.const (.slice none 0 0)))] [])
 (.seq
 (.region true [oo 11 (.mv (.tmp 0)),
 oa 12 (.nilc (.tmp 11)) [0],
 oa 13 (.fad 0 (.tmp 12)) [1,0],
 oa 14 (.fad 5 (.tmp 13)) [2,1,0],
 oa 15 (.load1 (.tmp 14)) [3,2,1,0],
 oo 16 (.fad 0 (.tmp 3)),
 oa 17 (.load1 (.tmp 16)) [5],
 oa 18 (.iadS 9 (.tmp 15) (.tmp 17)) [4,3,2,1,0,6,5],
 oa 19 (.loadN 9 (.tmp 18)) [7,4,3,2,1,0,6,5],
 oo 5 (.mem [(.val (.int .i64 0)), (.val (.int .i64 0)), (.val (.int .i64 0)), (.val (.bool false)), (.val (.int .i64 0)), (.val (.int .i64 0)), (.val (.int .i64 0)), (.val (.int .i64 0)), (.val (.int .i64 0))]),
 ⟨none, .store 9 (.tmp 5) (.tmp 19), none, [9,8,7,4,3,2,1,0,6,5]⟩] [11,12,13,14,15,16,17,18,19])
 (.seq
 (.region false [oo 20 (.mv (.tmp 0)),
 oo 21 (.nilc (.tmp 20)),
 oo 22 (.fad 6 (.tmp 21)),
 oo 23 (.load1 (.tmp 22)),
 oo 24 (.len_ (.tmp 23)),
 oo 25 (.mksl 1 1 [(.val (.bool false))] (.tmp 24) (.tmp 24)),
 oo 6 (.mem [(.val (.slice none 0 0))]),
 on (.store 1 (.tmp 6) (.tmp 25))] [20,21,22,23,24,25])
 (.seq
 (.seq
 (.region false [oo 26 (.mv (.tmp 0)),
 oo 27 (.fad 0 (.tmp 3)),
 oo 28 (.load1 (.tmp 27)),
 oo 29 (.call (.func 25) [(.tmp 26), (.tmp 28)])] [26,27,28])
 (.block 0
 (.rangeFunc (.tmp 29) [30,31] [(7,30), (8,31)] cprecord_tape_holds_B30)))
 (.seq
 (.region false [oo 64 (.load1 (.tmp 6)),
 oo 4 (.mv (.tmp 64))] [64])
 .ret)))))
set_option maxRecDepth 100000 in
theorem kprecord_tape_holds : IsCode Tryd.prog 54 65 cprecord_tape_holds [.tmp 4] :=
 ⟨Tryd.f54, _, [57,40,30,31,29,1,0,3,8,5,7,10,6,9,4], Tryd.func54, rfl, by decide, rfl, by kernel_rfl, by kernel_rfl⟩
def cprecord_tape_events : ACode :=
 (.seq
 (.region false [oo 3 (.box (.tmp 1)),
 oo 4 (.mv (.const (.slice none 0 0)))] [])
 (.seq
 (.region false [oo 14 (.mv (.tmp 0)),
 oo 15 (.nilc (.tmp 14)),
 oo 16 (.fad 6 (.tmp 15)),
 oo 17 (.load1 (.tmp 16)),
 oo 18 (.len_ (.tmp 17)),
 oo 19 (.bin .add (.tmp 18) (kI 1)),
 oo 20 (.mksl 1 1 [(.val (.bool false))] (.tmp 19) (.tmp 19)),
 oo 5 (.mv (.tmp 20))] [14,15,16,17,18,19,20])
 (.seq
 (.seq
 (.region false [oo 21 (.mv (.tmp 0)),
 oo 22 (.nilc (.tmp 21)),
 oo 23 (.fad 6 (.tmp 22)),
 oo 24 (.load1 (.tmp 23)),
 oo 25 (.len_ (.tmp 24)),
 oo 26 (.mv (kI 0))] [21,22,23,24])
 (.block 0
 (.loop
 (.seq
 (.region false [oo 27 (.bin .lss (.tmp 26) (.tmp 25))] [])
 (.seq
 (.cond (.tmp 27)
 .skip
 (.exit 0))
 (.seq
 (.block 1
 (.seq
 (.region false [oo 28 (.mv (.tmp 26)),
 oo 6 (.mv (.tmp 28))] [28])
 (.region false [oo 29 (.mv (.tmp 5)),
 oo 30 (.mv (.tmp 6)),
 oo 31 (.iadS 1 (.tmp 29) (.tmp 30)),
 on (.store 1 (.tmp 31) (.const (.bool true)))] [29,30,31])))
 (.region false [oo 32 (.bin .add (.tmp 26) (kI 1)),
 oo 26 (.mv (.tmp 32))] [32])))))))
 (.seq
 (.seq
 (.region false [oo 33 (.fad 0 (.tmp 3)),
 oo 34 (.load1 (.tmp 33)),
 oo 35 (.len_ (.tmp 34)),
 oo 36 (.mv (kI 0))] [33])
 (.block 2
 (.loop
 (.seq
 (.region false [oo 37 (.bin .lss (.tmp 36) (.tmp 35))] [])
 (.seq
 (.cond (.tmp 37)
 .skip
 (.exit 2))
 (.seq
 (.block 3
 (.seq
 (.region false [oo 38 (.iadS 3 (.tmp 34) (.tmp 36)),
 oo 39 (.loadN 3 (.tmp 38)),
 oo 8 (.mem [(.val (.int .i64 0)), (.val (.int .i64 0)), (.val (.bool false))]),
 on (.store 3 (.tmp 8) (.tmp 39))] [38,39])
 (.seq
 (.region false [oo 40 (.mv (.tmp 0)),
 oo 41 (.loadN 3 (.tmp 8)),
 oo 42 (.call (.func 54) [(.tmp 40), (.tmp 41)]),
 oo 43 (.len_ (.tmp 42)),
 oo 44 (.mv (kI 0))] [40,41])
 (.block 4
 (.loop
 (.seq
 (.region false [oo 45 (.bin .lss (.tmp 44) (.tmp 43))] [])
 (.seq
 (.cond (.tmp 45)
 .skip
 (.exit 4))
 (.seq
 (.block 5
 (.seq
 (.region false [oo 46 (.mv (.tmp 44)),
 oo 47 (.iadS 1 (.tmp 42) (.tmp 44)),
 oo 48 (.load1 (.tmp 47)),
 oo 9 (.mv (.tmp 46)),
 oo 10 (.mv (.tmp 48))] [46,47,48])
 (.region false [oo 49 (.mv (.tmp 5)),
 oo 50 (.mv (.tmp 9)),
 oo 51 (.mv (.tmp 5)),
 oo 52 (.mv (.tmp 9)),
 oo 53 (.iadS 1 (.tmp 51) (.tmp 52)),
 oo 54 (.load1 (.tmp 53)),
 oo 55 (.mv (.tmp 54)),
 og 56 55 true (.mv (.tmp 10)) [],
 oo 57 (.pick (.tmp 55) (.tmp 56) (.const (.bool false))),
 oo 58 (.iadS 1 (.tmp 49) (.tmp 50)),
 on (.store 1 (.tmp 58) (.tmp 57))] [49,50,51,52,53,54,55,56,57,58])))
 (.region false [oo 59 (.bin .add (.tmp 44) (kI 1)),
 oo 44 (.mv (.tmp 59))] [59])))))))))
 (.region false [oo 60 (.bin .add (.tmp 36) (kI 1)),
 oo 36 (.mv (.tmp 60))] [60])))))))
 (.seq
 (.region false [oo 11 (.mv (kI 0))] [])
 (.seq
 (.seq
 (.region false [oo 61 (.mv (.tmp 5)),
 oo 62 (.len_ (.tmp 61)),
 oo 63 (.mv (kI 0))] [])
 (.block 6
 (.loop
 (.seq
 (.region false [oo 64 (.bin .lss (.tmp 63) (.tmp 62))] [])
 (.seq
 (.cond (.tmp 64)
 .skip
 (.exit 6))
 (.seq
 (.block 7
 (.seq
 (.region false [oo 65 (.mv (.tmp 63)),
 oo 66 (.iadS 1 (.tmp 61) (.tmp 63)),
 oo 67 (.load1 (.tmp 66)),
 oo 12 (.mv (.tmp 65)),
 oo 13 (.mv (.tmp 67))] [65,66,67])
 (.seq
 (.seq
 (.region false [oo 68 (.mv (.tmp 13))] [])
 (.cond (.tmp 68)
 (.exit 7)
 .skip))
 (.seq
 (.seq
 (.region false [oo 69 (.mv (.tmp 12)),
 oo 70 (.mv (.tmp 11)),
 oo 71 (.bin .sub (.tmp 69) (.tmp 70)),
 oo 72 (.fad 1 (.tmp 3)),
 oo 73 (.load1 (.tmp 72)),
 oo 74 (.bin .geq (.tmp 71) (.tmp 73))] [69,70,71,72,73])
 (.cond (.tmp 74)
 (.region false [oo 75 (.mv (.tmp 4)),
 oo 76 (.mv (.tmp 11)),
 oo 77 (.mv (.tmp 12)),
 oo 78 (.bin .sub (.tmp 77) (kI 1)),
 oo 79 (.build [(.val (.int .i64 0)), (.val (.int .i64 0))] [(0,1, (.tmp 76)), (1,1, (.tmp 78))]),
 oo 80 (.buildSl 2 1 [(.val (.int .i64 0)), (.val (.int .i64 0))] [(0,2, (.tmp 79))]),
 oo 81 (.app 2 16 (.tmp 75) (.tmp 80)),
 oo 4 (.mv (.tmp 81))] [75,76,77,78,79,80,81])
 .skip))
 (.region false [oo 82 (.mv (.tmp 12)),
 oo 83 (.bin .add (.tmp 82) (kI 1)),
 oo 11 (.mv (.tmp 83))] [82,83])))))
 (.region false [oo 84 (.bin .add (.tmp 63) (kI 1)),
 oo 63 (.mv (.tmp 84))] [84])))))))
 (.seq
 (.region false [oo 85 (.mv (.tmp 4)),
 oo 4 (.mv (.tmp 85))] [85])
 .ret)))))))
set_option maxRecDepth 100000 in
theorem kprecord_tape_events : IsCode Tryd.prog 31 86 cprecord_tape_events [.tmp 4] :=
 ⟨Tryd.f31, _, [74,68,64,45,37,27,1,0,26,25,5,6,3,36,35,34,8,44,43,42,9,10,63,62,61,13,12,11,4], Tryd.func31, rfl, by decide, rfl, by kernel_rfl, by kernel_rfl⟩
def crecord_Events : ACode :=
 (.seq
 (.region false [oo 3 (.box (.tmp 0)),
 oo 5 (.box (.tmp 2)),
 oo 6 (.mv (.const (.slice none 0 0))),
 oo 7 (.mv (kI 0))] [])
 (.seq
 (.region false [oo 11 (.loadN 6 (.tmp 3)),
 oo 12 (.mv (.tmp 1)),
 oo 13 (.call (.func 29) [(.tmp 11), (.tmp 12)]),
 oo 10 (.mv (.tmp 13)),
 oo 14 (.ext (.tmp 10) 0),
 oo 15 (.ext (.tmp 10) 1),
 oo 8 (.mv (.tmp 14)),
 oo 9 (.mv (.tmp 15))] [11,12,13,10,14,15])
 (.seq
 (.seq
 (.region false [oo 16 (.mv (.tmp 9)),
 oo 17 (.bin .neq (.tmp 16) (kI 0))] [16])
 (.cond (.tmp 17)
 (.seq
 (.region false [oo 18 (.mv (.tmp 9)),
 oo 6 (.mv (.const (.slice none 0 0))),
 oo 7 (.mv (.tmp 18))] [18])
 .ret)
 .skip))
 (.seq
 (.seq
 (.region false [oo 19 (.mv (.tmp 8)),
 oo 20 (.loadN 2 (.tmp 5)),
 oo 21 (.call (.func 30) [(.tmp 19), (.tmp 20)]),
 oo 22 (.un .not (.tmp 21))] [19,20,21])
 (.cond (.tmp 22)
 (.seq
 (.region false [oo 6 (.mv (.const (.slice none 0 0))),
 oo 7 (.mv (kI 121))] [])
 .ret)
 .skip))
 (.seq
 (.region false [oo 23 (.mv (.tmp 8)),
 oo 24 (.loadN 2 (.tmp 5)),
 oo 25 (.call (.func 31) [(.tmp 23), (.tmp 24)]),
 oo 6 (.mv (.tmp 25)),
 oo 7 (.mv (kI 0))] [23,24,25])
 .ret)))))
set_option maxRecDepth 100000 in
theorem krecord_Events : IsCode Tryd.prog 18 26 crecord_Events [.tmp 6, .tmp 7] :=
 ⟨Tryd.f18, _, [22,17,0,2,3,1,9,8,5,6,7], Tryd.func18, rfl, by decide, rfl, by kernel_rfl, by kernel_rfl⟩
def claw12_copied : ACode :=
 (.seq
 (.region false [oo 1 (.box (.tmp 0)),
 oo 2 (.mem [(.val (.slice none 0 0)), (.val (.int .i64 0))])] [])
 (.seq
 (.region true [oo 3 (.buildSl 3 0 [] []),
 oo 4 (.fad 0 (.tmp 1)),
 oa 5 (.load1 (.tmp 4)) [1],
 oa 6 (.app 3 24 (.tmp 3) (.tmp 5)) [0,2,1],
 oo 7 (.fad 1 (.tmp 1)),
 oa 8 (.load1 (.tmp 7)) [4],
 oa 9 (.build [(.val (.slice none 0 0)), (.val (.int .i64 0))] [(0,1, (.tmp 6)), (1,1, (.tmp 8))]) [3,0,2,1,5,4],
 ⟨none, .store 2 (.tmp 2) (.tmp 9), none, [6,3,0,2,1,5,4]⟩] [3,4,5,6,7,8,9])
 .ret))
set_option maxRecDepth 100000 in
theorem klaw12_copied : IsCode Tryd.prog 9 10 claw12_copied [.cellN 2 2] :=
 ⟨Tryd.f9, _, [0,1,2], Tryd.func9, rfl, by decide, rfl, by kernel_rfl, by kernel_rfl⟩
def claw12_farEvent : ACode :=
 (.seq
 (.region false [oo 1 (.box (.tmp 0)),
 oo 2 (.mv (.const (.bool false)))] [])
 (.seq
 (.region false [oo 3 (.fad 0 (.tmp 1)),
 oo 4 (.load1 (.tmp 3)),
 oo 5 (.len_ (.tmp 4)),
 oo 6 (.bin .gtr (.tmp 5) (kI 8)),
 oo 2 (.mv (.tmp 6))] [3,4,5,6])
 .ret))
set_option maxRecDepth 100000 in
theorem klaw12_farEvent : IsCode Tryd.prog 5 7 claw12_farEvent [.tmp 2] :=
 ⟨Tryd.f5, _, [0,1,2], Tryd.func5, rfl, by decide, rfl, by kernel_rfl, by kernel_rfl⟩
def crecord_Flights : ACode :=
 (.seq
 (.region false [oo 5 (.box (.tmp 0)),
 oo 7 (.box (.tmp 2)),
 oo 10 (.mv (.const (.slice none 0 0))),
 oo 11 (.mv (kI 0))] [])
 (.seq
 (.region false [oo 17 (.loadN 6 (.tmp 5)),
 oo 18 (.mv (.tmp 1)),
 oo 19 (.loadN 2 (.tmp 7)),
 oo 20 (.call (.func 18) [(.tmp 17), (.tmp 18), (.tmp 19)]),
 oo 16 (.mv (.tmp 20)),
 oo 21 (.ext (.tmp 16) 0),
 oo 22 (.ext (.tmp 16) 1),
 oo 12 (.mv (.tmp 21)),
 oo 11 (.mv (.tmp 22))] [17,18,19,20,16,21,22])
 (.seq
 (.seq
 (.region false [oo 23 (.mv (.tmp 11)),
 oo 24 (.bin .neq (.tmp 23) (kI 0))] [23])
 (.cond (.tmp 24)
 (.seq
 (.region false [oo 25 (.mv (.tmp 11)),
 oo 10 (.mv (.const (.slice none 0 0))),
 oo 11 (.mv (.tmp 25))] [25])
 .ret)
 .skip))
 (.seq
 (.seq
 (.region false [oo 26 (.mv (.tmp 3)),
 oo 27 (.call (.func 19) [(.tmp 26), (kI 0), (kI 3)]),
 oo 28 (.un .not (.tmp 27)),
 oo 29 (.mv (.tmp 28)),
 og 30 29 false (.mv (.tmp 4)) [],
 og 31 29 false (.call (.func 19) [(.tmp 30), (kI 1), (kI 200)]) [],
 og 32 29 false (.un .not (.tmp 31)) [],
 oo 33 (.pick (.tmp 29) (.const (.bool true)) (.tmp 32))] [26,27,28,29,30,31,32])
 (.cond (.tmp 33)
 (.seq
 (.region false [oo 10 (.mv (.const (.slice none 0 0))),
 oo 11 (.mv (kI 1))] [])
 .ret)
 .skip))
 (.seq
 (.seq
 (.region false [oo 34 (.mv (.tmp 12)),
 oo 35 (.len_ (.tmp 34)),
 oo 36 (.mv (kI 0))] [])
 (.block 0
 (.loop
 (.seq
 (.region false [oo 37 (.bin .lss (.tmp 36) (.tmp 35))] [])
 (.seq
 (.cond (.tmp 37)
 .skip
 (.exit 0))
 (.seq
 (.block 1
 (.seq
 (.region false [oo 38 (.iadS 2 (.tmp 34) (.tmp 36)),
 oo 39 (.loadN 2 (.tmp 38)),
 oo 14 (.mem [(.val (.int .i64 0)), (.val (.int .i64 0))]),
 on (.store 2 (.tmp 14) (.tmp 39))] [38,39])
 (.seq
 (.region false [oo 40 (.fad 1 (.tmp 14)),
 oo 41 (.load1 (.tmp 40)),
 oo 42 (.fad 0 (.tmp 14)),
 oo 43 (.load1 (.tmp 42)),
 oo 44 (.bin .sub (.tmp 41) (.tmp 43)),
 oo 45 (.mv (.tmp 4)),
 oo 46 (.bin .add (.tmp 44) (.tmp 45)),
 oo 47 (.mv (.tmp 4)),
 oo 48 (.bin .quo (.tmp 46) (.tmp 47)),
 oo 15 (.mv (.tmp 48))] [40,41,42,43,44,45,46,47,48])
 (.seq
 (.seq
 (.region false [oo 49 (.mv (.tmp 15)),
 oo 50 (.bin .gtr (.tmp 49) (kI 100))] [49])
 (.cond (.tmp 50)
 (.seq
 (.region false [oo 10 (.mv (.const (.slice none 0 0))),
 oo 11 (.mv (kI 2))] [])
 .ret)
 .skip))
 (.region false [oo 51 (.mv (.tmp 10)),
 oo 52 (.mv (.tmp 3)),
 oo 53 (.mv (.tmp 15)),
 oo 54 (.build [(.val (.int .i64 0)), (.val (.int .i64 0)), (.val (.int .i64 0)), (.val (.int .i64 0))] [(0,1, (kI 1)), (1,1, (.tmp 52)), (2,1, (.tmp 53)), (3,1, (kI 1))]),
 oo 55 (.buildSl 4 1 [(.val (.int .i64 0)), (.val (.int .i64 0)), (.val (.int .i64 0)), (.val (.int .i64 0))] [(0,4, (.tmp 54))]),
 oo 56 (.app 4 32 (.tmp 51) (.tmp 55)),
 oo 10 (.mv (.tmp 56))] [51,52,53,54,55,56])))))
 (.region false [oo 57 (.bin .add (.tmp 36) (kI 1)),
 oo 36 (.mv (.tmp 57))] [57])))))))
 (.seq
 (.region false [oo 58 (.mv (.tmp 10)),
 oo 10 (.mv (.tmp 58)),
 oo 11 (.mv (kI 0))] [58])
 .ret))))))
set_option maxRecDepth 100000 in
theorem krecord_Flights : IsCode Tryd.prog 8 59 crecord_Flights [.tmp 10, .tmp 11] :=
 ⟨Tryd.f8, _, [50,37,33,24,0,2,5,1,7,11,3,4,12,36,35,34,14,15,10], Tryd.func8, rfl, by decide, rfl, by kernel_rfl, by kernel_rfl⟩
end Go.Proofs.YtdcodicoclecnaaDoor
/- The functions' bodies, translated. Written by a program; no conditions. -/
namespace Go.Proofs.YtdcodicoclecnaaDoor
open Go.RowKit Lift

def cprecord_tape_valid_S1 : ACode :=
 (.seq
 (.region false [oo 2 (.box (.tmp 0)),
 oo 3 (.mv (.const (.bool false)))] [])
 (.seq
 (.region false [oo 4 (.load1 (.tmp 1)),
 oo 5 (.fad 0 (.tmp 2)),
 oo 6 (.load1 (.tmp 5)),
 oo 7 (.call (.func 37) [(.tmp 4), (.tmp 6)]),
 oo 8 (.un .not (.tmp 7)),
 oo 9 (.mv (.tmp 8)),
 og 10 9 false (.fad 1 (.tmp 2)) [],
 og 11 9 false (.load1 (.tmp 10)) [],
 og 12 9 false (.call (.func 19) [(.tmp 11), (kI (-1000000)), (kI 1000000)]) [],
 og 13 9 false (.un .not (.tmp 12)) [],
 oo 14 (.pick (.tmp 9) (.const (.bool true)) (.tmp 13)),
 oo 3 (.mv (.tmp 14))] [4,5,6,7,8,9,10,11,12,13,14])
 .ret))
set_option maxRecDepth 100000 in
theorem kprecord_tape_valid_S1 : IsCode Tryd.prog 52 15 cprecord_tape_valid_S1 [.tmp 3] :=
 ⟨Tryd.f52, _, [0,1,2,3], Tryd.func52, rfl, by decide, rfl, by kernel_rfl, by kernel_rfl⟩
def cslices_ContainsFunc_L_L_Japi_Condition_Kapi_Condition_J : ACode :=
 (.seq
 (.region false [oo 4 (.mv (.const (.bool false)))] [])
 (.seq
 (.region false [oo 5 (.mv (.tmp 0)),
 oo 6 (.mv (.tmp 1)),
 oo 7 (.call (.func 78) [(.tmp 5), (.tmp 6)]),
 oo 8 (.bin .geq (.tmp 7) (kI 0)),
 oo 4 (.mv (.tmp 8))] [5,6,7,8])
 .ret))
set_option maxRecDepth 100000 in
theorem kslices_ContainsFunc_L_L_Japi_Condition_Kapi_Condition_J : IsCode Tryd.prog 53 9 cslices_ContainsFunc_L_L_Japi_Condition_Kapi_Condition_J [.tmp 4] :=
 ⟨Tryd.f53, _, [0,1,4], Tryd.func53, rfl, by decide, rfl, by kernel_rfl, by kernel_rfl⟩
def cslices_IndexFunc_L_L_Japi_Condition_Kapi_Condition_J : ACode :=
 (.seq
 (.region false [oo 4 (.mv (kI 0))] [])
 (.seq
 (.seq
 (.region false [oo 6 (.mv (.tmp 0)),
 oo 7 (.len_ (.tmp 6)),
 oo 8 (.mv (kI 0))] [6])
 (.block 0
 (.loop
 (.seq
 (.region false [oo 9 (.bin .lss (.tmp 8) (.tmp 7))] [])
 (.seq
 (.cond (.tmp 9)
 .skip
 (.exit 0))
 (.seq
 (.block 1
 (.seq
 (.region false [oo 10 (.mv (.tmp 8)),
 oo 5 (.mv (.tmp 10))] [10])
 (.seq
 (.region false [oo 11 (.mv (.tmp 1)),
 oo 12 (.mv (.tmp 0)),
 oo 13 (.mv (.tmp 5)),
 oo 14 (.iadS 3 (.tmp 12) (.tmp 13)),
 oo 15 (.loadN 3 (.tmp 14)),
 oo 16 (.call (.tmp 11) [(.tmp 15)])] [11,12,13,14,15])
 (.cond (.tmp 16)
 (.seq
 (.region false [oo 17 (.mv (.tmp 5)),
 oo 4 (.mv (.tmp 17))] [17])
 .ret)
 .skip))))
 (.region false [oo 18 (.bin .add (.tmp 8) (kI 1)),
 oo 8 (.mv (.tmp 18))] [18])))))))
 (.seq
 (.region false [oo 4 (.mv (kI (-1)))] [])
 .ret)))
set_option maxRecDepth 100000 in
theorem kslices_IndexFunc_L_L_Japi_Condition_Kapi_Condition_J : IsCode Tryd.prog 78 19 cslices_IndexFunc_L_L_Japi_Condition_Kapi_Condition_J [.tmp 4] :=
 ⟨Tryd.f78, _, [16,9,0,8,7,1,5,4], Tryd.func78, rfl, by decide, rfl, by kernel_rfl, by kernel_rfl⟩
end Go.Proofs.YtdcodicoclecnaaDoor
