/- Texts of the law RecordLivesCard, part 7. No conditions. -/
import Derived.Test.YtdcodicoclecnaaDoorPRecordLivesCard06
import Derived.Test.YtdcodicoclecnaaDoorRows
set_option linter.unusedSimpArgs false
set_option linter.unusedVariables false
/- The functions' bodies, translated. Written by a program; no conditions. -/
namespace Go.Proofs.YtdcodicoclecnaaDoor
open Go.RowKit Lift

def cspans_within : ACode :=
 (.seq
 (.region false [oo 6 (.mv (.const (.bool false)))] [])
 (.seq
 (.region false [oo 7 (.mv (.tmp 0)),
 oo 8 (.mv (.tmp 1)),
 oo 9 (.bin .geq (.tmp 7) (.tmp 8)),
 oo 10 (.mv (.tmp 9)),
 og 11 10 true (.mv (.tmp 0)) [],
 og 12 10 true (.mv (.tmp 2)) [],
 og 13 10 true (.bin .leq (.tmp 11) (.tmp 12)) [],
 oo 14 (.pick (.tmp 10) (.tmp 13) (.const (.bool false))),
 oo 6 (.mv (.tmp 14))] [7,8,9,10,11,12,13,14])
 .ret))
set_option maxRecDepth 100000 in
theorem kspans_within : IsCode Tryd.prog 91 15 cspans_within [.tmp 6] :=
 ⟨Tryd.f91, _, [0,1,2,6], Tryd.func91, rfl, by decide, rfl, by kernel_rfl, by kernel_rfl⟩
def cspans_valid : ACode :=
 (.seq
 (.region false [oo 1 (.box (.tmp 0)),
 oo 2 (.mv (.const (.bool false)))] [])
 (.seq
 (.region false [oo 3 (.fad 0 (.tmp 1)),
 oo 4 (.load1 (.tmp 3)),
 oo 5 (.fad 1 (.tmp 1)),
 oo 6 (.load1 (.tmp 5)),
 oo 7 (.call (.func 91) [(.tmp 4), (kI (-1000000)), (.tmp 6)]),
 oo 8 (.mv (.tmp 7)),
 og 9 8 true (.fad 1 (.tmp 1)) [],
 og 10 8 true (.load1 (.tmp 9)) [],
 og 11 8 true (.bin .leq (.tmp 10) (kI 1000000)) [],
 oo 12 (.pick (.tmp 8) (.tmp 11) (.const (.bool false))),
 oo 2 (.mv (.tmp 12))] [3,4,5,6,7,8,9,10,11,12])
 .ret))
set_option maxRecDepth 100000 in
theorem kspans_valid : IsCode Tryd.prog 94 13 cspans_valid [.tmp 2] :=
 ⟨Tryd.f94, _, [0,1,2], Tryd.func94, rfl, by decide, rfl, by kernel_rfl, by kernel_rfl⟩
def cspans_spanned_S1 : ACode :=
 (.seq
 (.region false [oo 1 (.box (.tmp 0)),
 oo 2 (.mv (.const (.bool false)))] [])
 (.seq
 (.region false [oo 3 (.loadN 2 (.tmp 1)),
 oo 4 (.call (.func 94) [(.tmp 3)]),
 oo 5 (.un .not (.tmp 4)),
 oo 2 (.mv (.tmp 5))] [3,4,5])
 .ret))
set_option maxRecDepth 100000 in
theorem kspans_spanned_S1 : IsCode Tryd.prog 93 6 cspans_spanned_S1 [.tmp 2] :=
 ⟨Tryd.f93, _, [0,1,2], Tryd.func93, rfl, by decide, rfl, by kernel_rfl, by kernel_rfl⟩
def cslices_IndexFunc_L_L_Japi_Span_Kapi_Span_J : ACode :=
 (.seq
 (.region false [oo 4 (.mv (kI 0))] [])
 (.seq
 (.seq
 (.region false [oo 6 (.mv (.tmp 0)),
 oo 7 (.len_ (.tmp 6)),
 oo 8 (.mv (kI 0))] [6])
 (.block 0
 (.loop
 (.seq
 (.region false [oo 9 (.bin .lss (.tmp 8) (.tmp 7))] [])
 (.seq
 (.cond (.tmp 9)
 .skip
 (.exit 0))
 (.seq
 (.block 1
 (.seq
 (.region false [oo 10 (.mv (.tmp 8)),
 oo 5 (.mv (.tmp 10))] [10])
 (.seq
 (.region false [oo 11 (.mv (.tmp 1)),
 oo 12 (.mv (.tmp 0)),
 oo 13 (.mv (.tmp 5)),
 oo 14 (.iadS 2 (.tmp 12) (.tmp 13)),
 oo 15 (.loadN 2 (.tmp 14)),
 oo 16 (.call (.tmp 11) [(.tmp 15)])] [11,12,13,14,15])
 (.cond (.tmp 16)
 (.seq
 (.region false [oo 17 (.mv (.tmp 5)),
 oo 4 (.mv (.tmp 17))] [17])
 .ret)
 .skip))))
 (.region false [oo 18 (.bin .add (.tmp 8) (kI 1)),
 oo 8 (.mv (.tmp 18))] [18])))))))
 (.seq
 (.region false [oo 4 (.mv (kI (-1)))] [])
 .ret)))
set_option maxRecDepth 100000 in
theorem kslices_IndexFunc_L_L_Japi_Span_Kapi_Span_J : IsCode Tryd.prog 85 19 cslices_IndexFunc_L_L_Japi_Span_Kapi_Span_J [.tmp 4] :=
 ⟨Tryd.f85, _, [16,9,0,8,7,1,5,4], Tryd.func85, rfl, by decide, rfl, by kernel_rfl, by kernel_rfl⟩
def cslices_ContainsFunc_L_L_Japi_Span_Kapi_Span_J : ACode :=
 (.seq
 (.region false [oo 4 (.mv (.const (.bool false)))] [])
 (.seq
 (.region false [oo 5 (.mv (.tmp 0)),
 oo 6 (.mv (.tmp 1)),
 oo 7 (.call (.func 85) [(.tmp 5), (.tmp 6)]),
 oo 8 (.bin .geq (.tmp 7) (kI 0)),
 oo 4 (.mv (.tmp 8))] [5,6,7,8])
 .ret))
set_option maxRecDepth 100000 in
theorem kslices_ContainsFunc_L_L_Japi_Span_Kapi_Span_J : IsCode Tryd.prog 72 9 cslices_ContainsFunc_L_L_Japi_Span_Kapi_Span_J [.tmp 4] :=
 ⟨Tryd.f72, _, [0,1,4], Tryd.func72, rfl, by decide, rfl, by kernel_rfl, by kernel_rfl⟩
def cspans_spanned : ACode :=
 (.seq
 (.region false [oo 2 (.mv (kI 0))] [])
 (.seq
 (.seq
 (.region false [oo 3 (.mv (.tmp 0)),
 oo 4 (.call (.func 72) [(.tmp 3), (.func 93)])] [3])
 (.cond (.tmp 4)
 (.seq
 (.region false [oo 2 (.mv (kI 10))] [])
 .ret)
 .skip))
 (.seq
 (.region false [oo 2 (.mv (kI 0))] [])
 .ret)))
set_option maxRecDepth 100000 in
theorem kspans_spanned : IsCode Tryd.prog 92 5 cspans_spanned [.tmp 2] :=
 ⟨Tryd.f92, _, [4,0,2], Tryd.func92, rfl, by decide, rfl, by kernel_rfl, by kernel_rfl⟩
def cspans_Check : ACode :=
 (.seq
 (.region false [oo 2 (.mv (kI 0))] [])
 (.seq
 (.seq
 (.region false [oo 3 (.mv (.tmp 0)),
 oo 4 (.len_ (.tmp 3)),
 oo 5 (.call (.func 91) [(.tmp 4), (kI 1), (kI 3)]),
 oo 6 (.un .not (.tmp 5))] [3,4,5])
 (.cond (.tmp 6)
 (.seq
 (.region false [oo 2 (.mv (kI 10))] [])
 .ret)
 .skip))
 (.seq
 (.region false [oo 7 (.mv (.tmp 0)),
 oo 8 (.call (.func 92) [(.tmp 7)]),
 oo 2 (.mv (.tmp 8))] [7,8])
 .ret)))
set_option maxRecDepth 100000 in
theorem kspans_Check : IsCode Tryd.prog 86 9 cspans_Check [.tmp 2] :=
 ⟨Tryd.f86, _, [6,0,2], Tryd.func86, rfl, by decide, rfl, by kernel_rfl, by kernel_rfl⟩
def cslices_IndexFunc_L_L_Jint_Kint_J : ACode :=
 (.seq
 (.region false [oo 4 (.mv (kI 0))] [])
 (.seq
 (.seq
 (.region false [oo 6 (.mv (.tmp 0)),
 oo 7 (.len_ (.tmp 6)),
 oo 8 (.mv (kI 0))] [6])
 (.block 0
 (.loop
 (.seq
 (.region false [oo 9 (.bin .lss (.tmp 8) (.tmp 7))] [])
 (.seq
 (.cond (.tmp 9)
 .skip
 (.exit 0))
 (.seq
 (.block 1
 (.seq
 (.region false [oo 10 (.mv (.tmp 8)),
 oo 5 (.mv (.tmp 10))] [10])
 (.seq
 (.region false [oo 11 (.mv (.tmp 1)),
 oo 12 (.mv (.tmp 0)),
 oo 13 (.mv (.tmp 5)),
 oo 14 (.iadS 1 (.tmp 12) (.tmp 13)),
 oo 15 (.load1 (.tmp 14)),
 oo 16 (.call (.tmp 11) [(.tmp 15)])] [11,12,13,14,15])
 (.cond (.tmp 16)
 (.seq
 (.region false [oo 17 (.mv (.tmp 5)),
 oo 4 (.mv (.tmp 17))] [17])
 .ret)
 .skip))))
 (.region false [oo 18 (.bin .add (.tmp 8) (kI 1)),
 oo 8 (.mv (.tmp 18))] [18])))))))
 (.seq
 (.region false [oo 4 (.mv (kI (-1)))] [])
 .ret)))
set_option maxRecDepth 100000 in
theorem kslices_IndexFunc_L_L_Jint_Kint_J : IsCode Tryd.prog 69 19 cslices_IndexFunc_L_L_Jint_Kint_J [.tmp 4] :=
 ⟨Tryd.f69, _, [16,9,0,8,7,1,5,4], Tryd.func69, rfl, by decide, rfl, by kernel_rfl, by kernel_rfl⟩
def cslices_ContainsFunc_L_L_Jint_Kint_J : ACode :=
 (.seq
 (.region false [oo 4 (.mv (.const (.bool false)))] [])
 (.seq
 (.region false [oo 5 (.mv (.tmp 0)),
 oo 6 (.mv (.tmp 1)),
 oo 7 (.call (.func 69) [(.tmp 5), (.tmp 6)]),
 oo 8 (.bin .geq (.tmp 7) (kI 0)),
 oo 4 (.mv (.tmp 8))] [5,6,7,8])
 .ret))
set_option maxRecDepth 100000 in
theorem kslices_ContainsFunc_L_L_Jint_Kint_J : IsCode Tryd.prog 35 9 cslices_ContainsFunc_L_L_Jint_Kint_J [.tmp 4] :=
 ⟨Tryd.f35, _, [0,1,4], Tryd.func35, rfl, by decide, rfl, by kernel_rfl, by kernel_rfl⟩
end Go.Proofs.YtdcodicoclecnaaDoor
/- The functions' bodies, translated. Written by a program; no conditions. -/
namespace Go.Proofs.YtdcodicoclecnaaDoor
open Go.RowKit Lift

def crecord_within : ACode :=
 (.seq
 (.region false [oo 6 (.mv (.const (.bool false)))] [])
 (.seq
 (.region false [oo 7 (.mv (.tmp 0)),
 oo 8 (.mv (.tmp 1)),
 oo 9 (.bin .geq (.tmp 7) (.tmp 8)),
 oo 10 (.mv (.tmp 9)),
 og 11 10 true (.mv (.tmp 0)) [],
 og 12 10 true (.mv (.tmp 2)) [],
 og 13 10 true (.bin .leq (.tmp 11) (.tmp 12)) [],
 oo 14 (.pick (.tmp 10) (.tmp 13) (.const (.bool false))),
 oo 6 (.mv (.tmp 14))] [7,8,9,10,11,12,13,14])
 .ret))
set_option maxRecDepth 100000 in
theorem krecord_within : IsCode Tryd.prog 19 15 crecord_within [.tmp 6] :=
 ⟨Tryd.f19, _, [0,1,2,6], Tryd.func19, rfl, by decide, rfl, by kernel_rfl, by kernel_rfl⟩
def crecord_bits_in : ACode :=
 (.seq
 (.region false [oo 2 (.box (.tmp 0)),
 oo 4 (.mv (.const (.bool false)))] [])
 (.seq
 (.region true [oo 5 (.mv (.tmp 1)),
 oo 6 (.fad 0 (.tmp 2)),
 oa 7 (.fad 7 (.tmp 6)) [1],
 oa 8 (.load1 (.tmp 7)) [2,1],
 oa 9 (.bin .rem (.tmp 5) (.tmp 8)) [0,3,2,1],
 oo 10 (.fad 0 (.tmp 2)),
 oa 11 (.fad 8 (.tmp 10)) [5],
 oa 12 (.load1 (.tmp 11)) [6,5],
 oa 13 (.bin .eql (.tmp 9) (.tmp 12)) [4,0,3,2,1,7,6,5],
 oa 4 (.mv (.tmp 13)) [8,4,0,3,2,1,7,6,5]] [5,6,7,8,9,10,11,12,13])
 .ret))
set_option maxRecDepth 100000 in
theorem krecord_bits_in : IsCode Tryd.prog 40 14 crecord_bits_in [.tmp 4] :=
 ⟨Tryd.f40, _, [0,1,2,4], Tryd.func40, rfl, by decide, rfl, by kernel_rfl, by kernel_rfl⟩
def crecord_bits_mask : ACode :=
 (.seq
 (.region false [oo 1 (.box (.tmp 0)),
 oo 2 (.mv (kI 0))] [])
 (.seq
 (.region true [oo 3 (.fad 0 (.tmp 1)),
 oa 4 (.fad 2 (.tmp 3)) [0],
 oa 5 (.load1 (.tmp 4)) [1,0],
 oa 6 (.bin .shl (kI 1) (.tmp 5)) [2,1,0],
 oa 7 (.bin .sub (.tmp 6) (kI 1)) [3,2,1,0],
 oo 8 (.fad 0 (.tmp 1)),
 oa 9 (.fad 1 (.tmp 8)) [5],
 oa 10 (.load1 (.tmp 9)) [6,5],
 oa 11 (.bin .shl (.tmp 7) (.tmp 10)) [4,3,2,1,0,7,6,5],
 oa 2 (.mv (.tmp 11)) [8,4,3,2,1,0,7,6,5]] [3,4,5,6,7,8,9,10,11])
 .ret))
set_option maxRecDepth 100000 in
theorem krecord_bits_mask : IsCode Tryd.prog 70 12 crecord_bits_mask [.tmp 2] :=
 ⟨Tryd.f70, _, [0,1,2], Tryd.func70, rfl, by decide, rfl, by kernel_rfl, by kernel_rfl⟩
def crecord_bits_raw : ACode :=
 (.seq
 (.region false [oo 2 (.box (.tmp 0)),
 oo 4 (.mv (kI 0))] [])
 (.seq
 (.region true [oo 6 (.mv (.tmp 1)),
 oo 7 (.loadN 9 (.tmp 2)),
 oa 8 (.call (.func 70) [(.tmp 7)]) [1],
 oa 9 (.bin .and (.tmp 6) (.tmp 8)) [0,2,1],
 oo 10 (.fad 0 (.tmp 2)),
 oa 11 (.fad 1 (.tmp 10)) [4],
 oa 12 (.load1 (.tmp 11)) [5,4],
 oa 13 (.bin .shr (.tmp 9) (.tmp 12)) [3,0,2,1,6,5,4],
 oa 5 (.mv (.tmp 13)) [7,3,0,2,1,6,5,4]] [6,7,8,9,10,11,12,13])
 (.seq
 (.seq
 (.region false [oo 14 (.fad 0 (.tmp 2)),
 oo 15 (.fad 3 (.tmp 14)),
 oo 16 (.load1 (.tmp 15)),
 oo 17 (.mv (.tmp 16)),
 og 18 17 true (.mv (.tmp 5)) [],
 og 19 17 true (.fad 0 (.tmp 2)) [],
 og 20 17 true (.fad 2 (.tmp 19)) [],
 og 21 17 true (.load1 (.tmp 20)) [],
 og 22 17 true (.bin .sub (.tmp 21) (kI 1)) [],
 og 23 17 true (.bin .shr (.tmp 18) (.tmp 22)) [],
 og 24 17 true (.bin .eql (.tmp 23) (kI 1)) [],
 oo 25 (.pick (.tmp 17) (.tmp 24) (.const (.bool false)))] [14,15,16,17,18,19,20,21,22,23,24])
 (.cond (.tmp 25)
 (.region false [oo 26 (.mv (.tmp 5)),
 oo 27 (.fad 0 (.tmp 2)),
 oo 28 (.fad 2 (.tmp 27)),
 oo 29 (.load1 (.tmp 28)),
 oo 30 (.bin .shl (kI 1) (.tmp 29)),
 oo 31 (.bin .sub (.tmp 26) (.tmp 30)),
 oo 5 (.mv (.tmp 31))] [26,27,28,29,30,31])
 .skip))
 (.seq
 (.region false [oo 32 (.mv (.tmp 5)),
 oo 4 (.mv (.tmp 32))] [32])
 .ret))))
set_option maxRecDepth 100000 in
theorem krecord_bits_raw : IsCode Tryd.prog 42 33 crecord_bits_raw [.tmp 4] :=
 ⟨Tryd.f42, _, [25,0,1,2,5,4], Tryd.func42, rfl, by decide, rfl, by kernel_rfl, by kernel_rfl⟩
def crecord_bits_value : ACode :=
 (.seq
 (.region false [oo 2 (.box (.tmp 0)),
 oo 4 (.mv (kI 0))] [])
 (.seq
 (.region false [oo 5 (.fad 0 (.tmp 2)),
 oo 6 (.fad 6 (.tmp 5)),
 oo 7 (.load1 (.tmp 6)),
 oo 8 (.fad 0 (.tmp 2)),
 oo 9 (.fad 5 (.tmp 8)),
 oo 10 (.load1 (.tmp 9)),
 oo 11 (.bin .mul (.tmp 7) (.tmp 10)),
 oo 12 (.mv (.tmp 1)),
 oo 13 (.fad 0 (.tmp 2)),
 oo 14 (.fad 4 (.tmp 13)),
 oo 15 (.load1 (.tmp 14)),
 oo 16 (.bin .mul (.tmp 12) (.tmp 15)),
 oo 17 (.bin .add (.tmp 11) (.tmp 16)),
 oo 4 (.mv (.tmp 17))] [5,6,7,8,9,10,11,12,13,14,15,16,17])
 .ret))
set_option maxRecDepth 100000 in
theorem krecord_bits_value : IsCode Tryd.prog 41 18 crecord_bits_value [.tmp 4] :=
 ⟨Tryd.f41, _, [0,2,1,4], Tryd.func41, rfl, by decide, rfl, by kernel_rfl, by kernel_rfl⟩
def crecord_bits_valid : ACode :=
 (.seq
 (.region false [oo 2 (.box (.tmp 0)),
 oo 4 (.mv (.const (.bool false)))] [])
 (.seq
 (.region false [oo 5 (.fad 0 (.tmp 2)),
 oo 6 (.fad 0 (.tmp 5)),
 oo 7 (.load1 (.tmp 6)),
 oo 8 (.mv (.tmp 1)),
 oo 9 (.bin .sub (.tmp 8) (kI 1)),
 oo 10 (.call (.func 19) [(.tmp 7), (kI 1), (.tmp 9)]),
 oo 11 (.mv (.tmp 10)),
 og 12 11 true (.fad 0 (.tmp 2)) [],
 og 13 11 true (.fad 2 (.tmp 12)) [],
 og 14 11 true (.load1 (.tmp 13)) [],
 og 15 11 true (.bin .geq (.tmp 14) (kI 1)) [],
 oo 16 (.pick (.tmp 11) (.tmp 15) (.const (.bool false))),
 oo 17 (.mv (.tmp 16)),
 og 18 17 true (.fad 0 (.tmp 2)) [],
 og 19 17 true (.fad 1 (.tmp 18)) [],
 og 20 17 true (.load1 (.tmp 19)) [],
 og 21 17 true (.fad 0 (.tmp 2)) [],
 og 22 17 true (.fad 2 (.tmp 21)) [],
 og 23 17 true (.load1 (.tmp 22)) [],
 og 24 17 true (.bin .sub (kI 12) (.tmp 23)) [],
 og 25 17 true (.call (.func 19) [(.tmp 20), (kI 0), (.tmp 24)]) [],
 oo 26 (.pick (.tmp 17) (.tmp 25) (.const (.bool false))),
 oo 27 (.mv (.tmp 26)),
 og 28 27 true (.fad 0 (.tmp 2)) [],
 og 29 27 true (.fad 4 (.tmp 28)) [],
 og 30 27 true (.load1 (.tmp 29)) [],
 og 31 27 true (.call (.func 19) [(.tmp 30), (kI (-1000)), (kI 1000)]) [],
 oo 32 (.pick (.tmp 27) (.tmp 31) (.const (.bool false))),
 oo 33 (.mv (.tmp 32)),
 og 34 33 true (.fad 0 (.tmp 2)) [],
 og 35 33 true (.fad 5 (.tmp 34)) [],
 og 36 33 true (.load1 (.tmp 35)) [],
 og 37 33 true (.call (.func 19) [(.tmp 36), (kI 1), (kI 1000)]) [],
 oo 38 (.pick (.tmp 33) (.tmp 37) (.const (.bool false))),
 oo 39 (.mv (.tmp 38)),
 og 40 39 true (.fad 0 (.tmp 2)) [],
 og 41 39 true (.fad 6 (.tmp 40)) [],
 og 42 39 true (.load1 (.tmp 41)) [],
 og 43 39 true (.call (.func 19) [(.tmp 42), (kI (-1000000)), (kI 1000000)]) [],
 oo 44 (.pick (.tmp 39) (.tmp 43) (.const (.bool false))),
 oo 45 (.mv (.tmp 44)),
 og 46 45 true (.buildSl 1 3 [(.val (.int .i64 0)), (.val (.int .i64 0)), (.val (.int .i64 0))] [(0,1, (kI 1)), (1,1, (kI 2)), (2,1, (kI 4))]) [],
 og 47 45 true (.fad 0 (.tmp 2)) [],
 og 48 45 true (.fad 7 (.tmp 47)) [],
 og 49 45 true (.load1 (.tmp 48)) [],
 og 50 45 true (.call (.func 76) [(.tmp 46), (.tmp 49)]) [],
 oo 51 (.pick (.tmp 45) (.tmp 50) (.const (.bool false))),
 oo 52 (.mv (.tmp 51)),
 og 53 52 true (.fad 0 (.tmp 2)) [],
 og 54 52 true (.fad 8 (.tmp 53)) [],
 og 55 52 true (.load1 (.tmp 54)) [],
 og 56 52 true (.fad 0 (.tmp 2)) [],
 og 57 52 true (.fad 7 (.tmp 56)) [],
 og 58 52 true (.load1 (.tmp 57)) [],
 og 59 52 true (.bin .sub (.tmp 58) (kI 1)) [],
 og 60 52 true (.call (.func 19) [(.tmp 55), (kI 0), (.tmp 59)]) [],
 oo 61 (.pick (.tmp 52) (.tmp 60) (.const (.bool false))),
 oo 4 (.mv (.tmp 61))] [5,6,7,8,9,10,11,12,13,14,15,16,17,18,19,20,21,22,23,24,25,26,27,28,29,30,31,32,33,34,35,36,37,38,39,40,41,42,43,44,45,46,47,48,49,50,51,52,53,54,55,56,57,58,59,60,61])
 .ret))
set_option maxRecDepth 100000 in
theorem krecord_bits_valid : IsCode Tryd.prog 77 62 crecord_bits_valid [.tmp 4] :=
 ⟨Tryd.f77, _, [0,2,1,4], Tryd.func77, rfl, by decide, rfl, by kernel_rfl, by kernel_rfl⟩
def cslices_Index_L_L_Jint_Kint_J : ACode :=
 (.seq
 (.region false [oo 4 (.mv (kI 0))] [])
 (.seq
 (.seq
 (.region false [oo 6 (.mv (.tmp 0)),
 oo 7 (.len_ (.tmp 6)),
 oo 8 (.mv (kI 0))] [6])
 (.block 0
 (.loop
 (.seq
 (.region false [oo 9 (.bin .lss (.tmp 8) (.tmp 7))] [])
 (.seq
 (.cond (.tmp 9)
 .skip
 (.exit 0))
 (.seq
 (.block 1
 (.seq
 (.region false [oo 10 (.mv (.tmp 8)),
 oo 5 (.mv (.tmp 10))] [10])
 (.seq
 (.region false [oo 11 (.mv (.tmp 1)),
 oo 12 (.mv (.tmp 0)),
 oo 13 (.mv (.tmp 5)),
 oo 14 (.iadS 1 (.tmp 12) (.tmp 13)),
 oo 15 (.load1 (.tmp 14)),
 oo 16 (.bin .eql (.tmp 11) (.tmp 15))] [11,12,13,14,15])
 (.cond (.tmp 16)
 (.seq
 (.region false [oo 17 (.mv (.tmp 5)),
 oo 4 (.mv (.tmp 17))] [17])
 .ret)
 .skip))))
 (.region false [oo 18 (.bin .add (.tmp 8) (kI 1)),
 oo 8 (.mv (.tmp 18))] [18])))))))
 (.seq
 (.region false [oo 4 (.mv (kI (-1)))] [])
 .ret)))
set_option maxRecDepth 100000 in
theorem kslices_Index_L_L_Jint_Kint_J : IsCode Tryd.prog 51 19 cslices_Index_L_L_Jint_Kint_J [.tmp 4] :=
 ⟨Tryd.f51, _, [16,9,0,8,7,1,5,4], Tryd.func51, rfl, by decide, rfl, by kernel_rfl, by kernel_rfl⟩
def cslices_Contains_L_L_Jint_Kint_J : ACode :=
 (.seq
 (.region false [oo 4 (.mv (.const (.bool false)))] [])
 (.seq
 (.region false [oo 5 (.mv (.tmp 0)),
 oo 6 (.mv (.tmp 1)),
 oo 7 (.call (.func 51) [(.tmp 5), (.tmp 6)]),
 oo 8 (.bin .geq (.tmp 7) (kI 0)),
 oo 4 (.mv (.tmp 8))] [5,6,7,8])
 .ret))
set_option maxRecDepth 100000 in
theorem kslices_Contains_L_L_Jint_Kint_J : IsCode Tryd.prog 76 9 cslices_Contains_L_L_Jint_Kint_J [.tmp 4] :=
 ⟨Tryd.f76, _, [0,1,4], Tryd.func76, rfl, by decide, rfl, by kernel_rfl, by kernel_rfl⟩
def crecord_newTape_S1 : ACode :=
 (.seq
 (.region false [oo 2 (.mv (.const (.bool false)))] [])
 (.seq
 (.region false [oo 3 (.mv (.tmp 0)),
 oo 4 (.call (.func 19) [(.tmp 3), (kI 0), (kI 4095)]),
 oo 5 (.un .not (.tmp 4)),
 oo 2 (.mv (.tmp 5))] [3,4,5])
 .ret))
set_option maxRecDepth 100000 in
theorem krecord_newTape_S1 : IsCode Tryd.prog 50 6 crecord_newTape_S1 [.tmp 2] :=
 ⟨Tryd.f50, _, [0,2], Tryd.func50, rfl, by decide, rfl, by kernel_rfl, by kernel_rfl⟩
end Go.Proofs.YtdcodicoclecnaaDoor
/- Bits that fields use, and what is packed, in numbers. No conditions. -/
namespace Go.Proofs.YtdcodicoclecnaaDoor
open Go.RowKit Lift

def fAt (l : Lay) (k : Nat) : Fl := l.fl[k]?.getD fl0
def orM (s : Int) (l : Lay) (w : Int) : Nat → Nat
  | 0 => 0
  | k + 1 => if inSub (fAt l k) s ∧ (fAt l k).word = w then orM s l w k ||| mskF (fAt l k) else orM s l w k
theorem orM_test (s : Int) (l : Lay) (w : Int) (j : Nat) : ∀ k, (orM s l w k).testBit j = true ↔ ∃ i, i < k ∧ inSub (fAt l i) s ∧ (fAt l i).word = w ∧ (mskF (fAt l i)).testBit j = true
  | 0 => by simp [orM]
  | k + 1 => by
    have ih := orM_test s l w j k
    unfold orM
    split
    · rename_i h
      rw [Nat.testBit_or, Bool.or_eq_true, ih]
      constructor
      · rintro (⟨i, h1, h2⟩ | h3)
        · exact ⟨i, by omega, h2⟩
        · exact ⟨k, by omega, h.1, h.2, h3⟩
      · rintro ⟨i, h1, h2, h3, h4⟩
        rcases (by omega : i < k ∨ i = k) with h' | rfl
        · exact .inl ⟨i, h', h2, h3, h4⟩
        · exact .inr h4
    · rename_i h
      rw [ih]
      constructor
      · rintro ⟨i, h1, h2⟩; exact ⟨i, by omega, h2⟩
      · rintro ⟨i, h1, h2, h3, h4⟩
        rcases (by omega : i < k ∨ i = k) with h' | rfl
        · exact ⟨i, h', h2, h3, h4⟩
        · exact absurd ⟨h2, h3⟩ h
theorem orM_lt (s : Int) (l : Lay) (w : Int) (hf : ∀ k, k < l.fl.length → FOk l.words (fAt l k)) : ∀ k, k ≤ l.fl.length → orM s l w k < 4096
  | 0, _ => by simp [orM]
  | k + 1, h => by
    have ih := orM_lt s l w hf k (by omega)
    unfold orM
    split
    · exact Nat.or_lt_two_pow (n := 12) ih (mskF_lt (hf k h))
    · exact ih
theorem orM_conf {s : Int} {l : Lay} (hf : ∀ k, k < l.fl.length → FOk l.words (fAt l k)) {i : Nat} (hi : i < l.fl.length) : orM s l (fAt l i).word i &&& mskF (fAt l i) = 0 ↔ ∀ k, k < i → inSub (fAt l k) s → ¬ Ovl (fAt l i) (fAt l k) := by
  rw [and_zero_iff]
  constructor
  · rintro h k hk hs ⟨e, h1, h2⟩
    have a1 := (hf i hi).b1
    have a2 := (hf k (by omega)).b1
    have a3 := (hf i hi).s1
    have a4 := (hf k (by omega)).s1
    refine h (max (fAt l i).bit.toNat (fAt l k).bit.toNat) ⟨(orM_test _ _ _ _ _).2 ⟨k, hk, hs, e.symm, ?_⟩, ?_⟩
    · rw [mskF_test, Bool.and_eq_true, decide_eq_true_eq, decide_eq_true_eq]; omega
    · rw [mskF_test, Bool.and_eq_true, decide_eq_true_eq, decide_eq_true_eq]; omega
  · rintro h j ⟨h1, h2⟩
    obtain ⟨k, hk, hs, e, h3⟩ := (orM_test _ _ _ _ _).1 h1
    rw [mskF_test, Bool.and_eq_true, decide_eq_true_eq, decide_eq_true_eq] at h2 h3
    have a1 := (hf i hi).b1
    have a2 := (hf k (by omega)).b1
    exact h k hk hs ⟨e.symm, by omega, by omega⟩
def usd (s : Int) (l : Lay) (k : Nat) : List Int := (List.range l.words.toNat).map fun (w : Nat) => ((orM s l (w : Int) k : Nat) : Int)
theorem usd_len (s : Int) (l : Lay) (k : Nat) : (usd s l k).length = l.words.toNat := by simp [usd]
theorem usd_zero (s : Int) (l : Lay) : usd s l 0 = List.replicate l.words.toNat 0 := by
  unfold usd
  refine List.ext_getElem (by simp) fun i h1 h2 => ?_
  simp [orM]
theorem usd_get (s : Int) (l : Lay) (k w : Nat) (h : w < l.words.toNat) : (usd s l k)[w]?.getD 0 = ((orM s l w k : Nat) : Int) := by simp [usd, h]
theorem usd_no (s : Int) (l : Lay) (k : Nat) (h : ¬ inSub (fAt l k) s) : usd s l (k + 1) = usd s l k := by
  unfold usd
  refine List.map_congr_left fun w _ => ?_
  simp [orM, h]
theorem usd_in (s : Int) (l : Lay) (k : Nat) (h : inSub (fAt l k) s) (h0 : 0 ≤ (fAt l k).word) : usd s l (k + 1) = (usd s l k).set (fAt l k).word.toNat ((orM s l (fAt l k).word k ||| mskF (fAt l k) : Nat) : Int) := by
  unfold usd
  refine List.ext_getElem (by simp) fun i h1 h2 => ?_
  rw [List.getElem_set]
  simp only [List.getElem_map, List.getElem_range]
  split
  · rename_i e
    have : (fAt l k).word = (i : Int) := by omega
    simp [orM, h, this]
  · rename_i e
    have : ¬ (fAt l k).word = (i : Int) := by omega
    simp [orM, this]

/-! ### packing -/
def canF (f : Fl) (n : Int) : Prop := if f.sgn = true then -(2 ^ (f.size.toNat - 1)) ≤ n ∧ n ≤ 2 ^ (f.size.toNat - 1) - 1 else 0 ≤ n ∧ n ≤ 2 ^ f.size.toNat - 1
instance (f : Fl) (n : Int) : Decidable (canF f n) := by unfold canF; infer_instance
def packOk (s : Int) (f : Fl) (n : Int) : Prop := if inSub f s then canF f n else n = 0
instance (s : Int) (f : Fl) (n : Int) : Decidable (packOk s f n) := by unfold packOk; infer_instance
def fmod (f : Fl) (n : Int) : Nat := (n % 2 ^ f.size.toNat).toNat
def fvN (f : Fl) (n : Int) : Nat := fmod f n * 2 ^ f.bit.toNat
def rAt (r : List Int) (k : Nat) : Int := r[k]?.getD 0
def pkW (s : Int) (l : Lay) (r : List Int) (w : Int) : Nat → Nat
  | 0 => 0
  | k + 1 => if inSub (fAt l k) s ∧ (fAt l k).word = w then pkW s l r w k ||| fvN (fAt l k) (rAt r k) else pkW s l r w k
def pk (s : Int) (l : Lay) (r : List Int) (k : Nat) : List Int := (List.range l.words.toNat).map fun (w : Nat) => if w = 0 then (sync l)[s.toNat]?.getD 0 else ((pkW s l r (w : Int) k : Nat) : Int)
end Go.Proofs.YtdcodicoclecnaaDoor
/- record: the small functions. No conditions. -/
namespace Go.Proofs.YtdcodicoclecnaaDoor
open Go.RowKit Lift

theorem wI_y {n a b : Int} (h1 : a ≤ n) (h2 : n ≤ b) : wI n a b = true := by simp [wI, h1, h2]
theorem in_flD (S : Nat → Prop) (f : Fl) : In S (flD f) := .agg _ (by intro d hd; simp [flC] at hd; rcases hd with rfl | rfl | rfl | rfl | rfl | rfl | rfl | rfl | rfl <;> exact .val _)
set_option maxRecDepth 100000 in
set_option maxHeartbeats 1000000 in
theorem within_ac (n a b : Int) : AC Tryd.prog 19 [dI n, dI a, dI b] [] [] (dB (wI n a b)) := by
  refine krecord_within.ac (n0 := 0) (by simp) ⟨.val _, .val _, .val _, trivial⟩ trivial rfl ?_
  unfold crecord_within dI dB wI
  (have hg : (987654321 : Nat) - 987654321 = 0 := rfl; have hr := hg; repeat' (first | apply aw_seq | ((first | apply aw_skip | apply aw_exit); try simp only [thenQ, blockQ, if_true, if_false, Nat.reduceEqDiff, reduceCtorEq]) | apply aw_ret | apply aw_block | apply aw_condT rfl | apply aw_condF rfl | (refine ag_bool (fun hg => ?_) (fun hg => ?_) <;> (try (have hq := hg; simp only [Bool.not_eq_true', Bool.not_eq_false', Bool.and_eq_true, Bool.and_eq_false_iff, Bool.or_eq_true, Bool.or_eq_false_iff, decide_eq_true_eq, decide_eq_false_iff_not, bne_iff_ne, beq_iff_eq, beq_eq_false_iff_ne, bne_eq_false_iff_eq, ne_eq, Int.not_lt, Int.not_le, Decidable.not_not] at hq)) <;> (try (have hr := hg; simp only [decide_eq_true_eq, decide_eq_false_iff_not] at hr)) <;> (try (exfalso; omega)) <;> simp (disch := first | exact okY | omega) only [ZU, hr, Bool.true_and, AG_tt, AOpRun, aexec, ↓eget_h, Nat.reduceAdd, Nat.reduceBEq, ARun_some, isSh, ↓reduceIte, abin, decide_false, Bool.false_and, AG_ft]) | ((first | refine aw_region ?_ | refine ago_if (by omega) ?_ | skip); simp (disch := first | exact okY | omega) only [ZU, Nat.reduceMul, Nat.reduceAdd, AOpRun, aexec, Nat.reduceBEq, ↓eget_h, isSh, ↓reduceIte, abin, ge_iff_le, ARun_some])))
  all_goals (refine end_q [] [] ?_ ?_ <;> repeat' (first | exact trivial | exact vr_val _))
set_option maxRecDepth 100000 in
set_option maxHeartbeats 1000000 in
theorem beyond_ac (n : Int) : AC Tryd.prog 50 [dI n] [] [] (dB (!wI n 0 4095)) := by
  refine krecord_newTape_S1.ac (n0 := 0) (by simp) ⟨.val _, trivial⟩ trivial rfl ?_
  unfold crecord_newTape_S1
  (repeat' (first | apply aw_seq | ((first | apply aw_skip | apply aw_exit); try simp only [thenQ, blockQ, if_true, if_false, Nat.reduceEqDiff, reduceCtorEq]) | apply aw_ret | apply aw_block | apply aw_condT rfl | apply aw_condF rfl | ((first | refine aw_region ?_ | refine acall0 (within_ac _ _ _) ?_ | refine ago_if (by omega) ?_ | skip); simp (disch := first | exact okY | omega) only [ZU, dB, Nat.reduceMul, dI, AOpRun, aexec, Nat.reduceBEq, Nat.reduceAdd, ↓eget_h])))
  all_goals (refine end_q [] [] ?_ ?_ <;> repeat' (first | exact trivial | exact vr_val _))
def inB (f : Fl) (s : Int) : Bool := s.tmod f.every == f.phase
theorem inB_iff (f : Fl) (s : Int) : inB f s = true ↔ inSub f s := by unfold inB inSub; rw [beq_iff_eq]
theorem inB_t {f : Fl} {s : Int} (h : inSub f s) : inB f s = true := (inB_iff f s).2 h
theorem inB_f {f : Fl} {s : Int} (h : ¬ inSub f s) : inB f s = false := by
  cases hb : inB f s with
  | false => rfl
  | true => exact absurd ((inB_iff f s).1 hb) h
set_option maxRecDepth 100000 in
set_option maxHeartbeats 1000000 in
theorem in_sub_ac {w : Int} {f : Fl} (h : FOk w f) (s : Int) : AC Tryd.prog 40 [flD f, dI s] [] [] (dB (inB f s)) := by
  refine krecord_bits_in.ac (n0 := 0) (by simp) ⟨in_flD _ _, .val _, trivial⟩ trivial rfl ?_
  unfold crecord_bits_in flD flC inB
  have he : ¬ f.every = 0 := by have := h.ev; omega
  (repeat' (first | apply aw_seq | ((first | apply aw_skip | apply aw_exit); try simp only [thenQ, blockQ, if_true, if_false, Nat.reduceEqDiff, reduceCtorEq]) | apply aw_ret | apply aw_block | apply aw_condT rfl | apply aw_condF rfl | ((first | refine aw_region ?_ | refine ago_if (by omega) ?_ | skip); simp (disch := first | exact okY | omega) only [ZU, dB, Nat.reduceAdd, Nat.reduceMul, dI, AOpRun, aexec, D.isBot, ↓eget_h, or_self, ↓reduceIte, D.cells, Nat.reduceBEq, run1, isSh, abin, he])))
  all_goals (refine end_q [] [] ?_ ?_ <;> repeat' (first | exact trivial | exact vr_val _))
theorem mask_val {w : Int} {f : Fl} (h : FOk w f) : IntKind.i64.wrap (IntKind.i64.wrap (IntKind.i64.wrap (1 * 2 ^ min f.size.toNat IntKind.i64.bits) - 1) * 2 ^ min f.bit.toNat IntKind.i64.bits) = ((mskF f : Nat) : Int) := by
  obtain ⟨h1, h2, h3, h4, h5, h6, h7⟩ := size_pow h
  have e0 : IntKind.i64.bits = 64 := rfl
  have e1 : min f.size.toNat IntKind.i64.bits = f.size.toNat := by rw [e0]; omega
  have e2 : min f.bit.toNat IntKind.i64.bits = f.bit.toNat := by rw [e0]; omega
  rw [e1, e2]
  have e3 : ((2 ^ f.size.toNat : Nat) : Int) = (2 : Int) ^ f.size.toNat := by simp
  have q1 : IntKind.i64.wrap ((2 ^ f.size.toNat : Nat) : Int) = ((2 ^ f.size.toNat : Nat) : Int) := wrap_in (by omega) (by omega)
  have e4 : ((2 ^ f.size.toNat : Nat) : Int) - 1 = ((2 ^ f.size.toNat - 1 : Nat) : Int) := by omega
  have q2 : IntKind.i64.wrap ((2 ^ f.size.toNat - 1 : Nat) : Int) = ((2 ^ f.size.toNat - 1 : Nat) : Int) := wrap_in (by omega) (by omega)
  rw [← e3, Int.one_mul, q1, e4, q2, shl_nat]
  have := mskF_lt h
  exact wrap_in (by unfold mskF msk at this; omega) (by unfold mskF msk at this; omega)
set_option maxRecDepth 100000 in
set_option maxHeartbeats 1000000 in
theorem mask_ac {w : Int} {f : Fl} (h : FOk w f) : AC Tryd.prog 70 [flD f] [] [] (dI ((mskF f : Nat) : Int)) := by
  refine krecord_bits_mask.ac (n0 := 0) (by simp) ⟨in_flD _ _, trivial⟩ trivial rfl ?_
  unfold crecord_bits_mask flD flC
  have e1 := h.b1
  have e2 := h.s1
  have m := mask_val h
  have e3 : 0 ≤ f.size := by omega
  (repeat' (first | apply aw_seq | ((first | apply aw_skip | apply aw_exit); try simp only [thenQ, blockQ, if_true, if_false, Nat.reduceEqDiff, reduceCtorEq]) | apply aw_ret | apply aw_block | apply aw_condT rfl | apply aw_condF rfl | ((first | refine aw_region ?_ | refine ago_if (by omega) ?_ | skip); simp (disch := first | exact okY | omega) only [ZU, dI, Nat.reduceAdd, Nat.reduceMul, dB, AOpRun, aexec, D.isBot, ↓eget_h, or_self, ↓reduceIte, D.cells, Nat.reduceBEq, run1, isSh, ash, e3, abin, e1, m])))
  all_goals (refine end_q [] [] ?_ ?_ <;> repeat' (first | exact trivial | exact vr_val _))
set_option maxRecDepth 100000 in
set_option maxHeartbeats 1000000 in
theorem value_ac {w : Int} {f : Fl} (h : FOk w f) (x : Nat) : AC Tryd.prog 41 [flD f, dI (rawI f x)] [] [] (dI (valI f (rawI f x))) := by
  refine krecord_bits_value.ac (n0 := 0) (by simp) ⟨in_flD _ _, .val _, trivial⟩ trivial rfl ?_
  unfold crecord_bits_value flD flC
  have h1 := rawI_bd h x
  have h2 := mulB h.a1 h.a2 (by have := h.d1; omega : -(1000 : Int) ≤ f.den) h.d2
  have h3 := mulB h1.1 h1.2 h.n1 h.n2
  unfold valI
  generalize rawI f x = r at *
  have e1 : IntKind.i64.wrap (f.add * f.den) = f.add * f.den := wrap_in (by omega) (by omega)
  have e2 : IntKind.i64.wrap (r * f.num) = r * f.num := wrap_in (by omega) (by omega)
  have e3 : IntKind.i64.wrap (f.add * f.den + r * f.num) = f.add * f.den + r * f.num := wrap_in (by omega) (by omega)
  (repeat' (first | apply aw_seq | ((first | apply aw_skip | apply aw_exit); try simp only [thenQ, blockQ, if_true, if_false, Nat.reduceEqDiff, reduceCtorEq]) | apply aw_ret | apply aw_block | apply aw_condT rfl | apply aw_condF rfl | ((first | refine aw_region ?_ | refine ago_if (by omega) ?_ | skip); simp (disch := first | exact okY | omega) only [ZU, dI, Nat.reduceAdd, Nat.reduceMul, dB, AOpRun, aexec, D.isBot, ↓eget_h, or_self, ↓reduceIte, D.cells, Nat.reduceBEq, run1, isSh, abin, e1, e2, e3])))
  all_goals (refine end_q [] [] ?_ ?_ <;> repeat' (first | exact trivial | exact vr_val _))
set_option maxRecDepth 100000 in
set_option maxHeartbeats 1000000 in
theorem raw_ac {w : Int} {f : Fl} (h : FOk w f) (x : Nat) (hx : x < 4096) : AC Tryd.prog 42 [flD f, dI (x : Int)] [] [] (dI (rawI f x)) := by
  refine krecord_bits_raw.ac (n0 := 0) (by simp) ⟨in_flD _ _, .val _, trivial⟩ trivial rfl ?_
  unfold crecord_bits_raw flD flC
  obtain ⟨h1, h2, h3, h4, h5, h6, h7⟩ := size_pow h
  have b1 := h.b1
  have s1 := h.s1
  have s0 : 0 ≤ f.size := by omega
  have s2 : 0 ≤ f.size - 1 := by omega
  have e0 : IntKind.i64.bits = 64 := rfl
  have e1 : min f.bit.toNat IntKind.i64.bits = f.bit.toNat := by rw [e0]; omega
  have e2 : min (f.size - 1).toNat IntKind.i64.bits = f.size.toNat - 1 := by rw [e0]; omega
  have e3 : min f.size.toNat IntKind.i64.bits = f.size.toNat := by rw [e0]; omega
  have ml := mskF_lt h
  have a1 := and_nat x (mskF f) (by omega) (by omega)
  have a2 : Int.fdiv (((x &&& mskF f : Nat)) : Int) (2 ^ f.bit.toNat) = ((rawU f x : Nat) : Int) := by
    rw [fdiv_pow]; unfold mskF; rw [and_msk]; rfl
  have hr := rawU_lt h x
  have hr2 : rawU f x < 2 ^ f.size.toNat := Nat.mod_lt _ (by omega)
  have a3 : Int.fdiv ((rawU f x : Nat) : Int) (2 ^ (f.size.toNat - 1)) = ((rawU f x / 2 ^ (f.size.toNat - 1) : Nat) : Int) := fdiv_pow _ _
  have hi := half_iff (rawU f x) f.size.toNat h4 hr2
  have p1 : ((2 ^ f.size.toNat : Nat) : Int) = (2 : Int) ^ f.size.toNat := by simp
  have a4 : IntKind.i64.wrap (1 * 2 ^ f.size.toNat) = 2 ^ f.size.toNat := by rw [Int.one_mul]; exact wrap_in (by omega) (by omega)
  have mk := mask_ac h
  unfold flD flC at mk
  unfold rawI
  cases hs : f.sgn with
  | false =>
    rw [hs] at mk
    rw [if_neg (by rintro ⟨h, _⟩; cases h)]
    (repeat' (first | apply aw_seq | ((first | apply aw_skip | apply aw_exit); try simp only [thenQ, blockQ, if_true, if_false, Nat.reduceEqDiff, reduceCtorEq]) | apply aw_ret | apply aw_block | apply aw_condT rfl | apply aw_condF rfl | ((first | refine aw_region ?_ | refine acall0 (mk) ?_ | refine ago_if (by omega) ?_ | skip); simp (disch := first | exact okY | omega) only [ZU, dI, Nat.reduceAdd, Nat.reduceMul, dB, AOpRun, aexec, D.isBot, ↓eget_h, or_self, ↓reduceIte, D.cells, Nat.reduceBEq, Nat.reduceLeDiff, List.drop, List.take, isSh, abin, a1, run1, ash, b1, e1, a2, ARun_some, AG_ft])))
    all_goals (refine end_q [] [] ?_ ?_ <;> repeat' (first | exact trivial | exact vr_val _))
  | true =>
    rw [hs] at mk
    by_cases hh : 2 ^ (f.size.toNat - 1) ≤ rawU f x
    · have q : (((rawU f x / 2 ^ (f.size.toNat - 1) : Nat) : Int) == 1) = true := by rw [hi.2 hh]; rfl
      rw [if_pos ⟨rfl, hh⟩]
      have a5 : IntKind.i64.wrap (((rawU f x : Nat) : Int) - 2 ^ f.size.toNat) = ((rawU f x : Nat) : Int) - 2 ^ f.size.toNat := wrap_in (by omega) (by omega)
      (repeat' (first | apply aw_seq | ((first | apply aw_skip | apply aw_exit); try simp only [thenQ, blockQ, if_true, if_false, Nat.reduceEqDiff, reduceCtorEq]) | apply aw_ret | apply aw_block | apply aw_condT rfl | apply aw_condF rfl | ((first | refine aw_region ?_ | refine acall0 (mk) ?_ | refine ago_if (by omega) ?_ | skip); simp (disch := first | exact okY | omega) only [ZU, dI, Nat.reduceAdd, Nat.reduceMul, dB, AOpRun, aexec, D.isBot, ↓eget_h, or_self, ↓reduceIte, D.cells, Nat.reduceBEq, Nat.reduceLeDiff, List.drop, List.take, isSh, abin, a1, run1, ash, b1, e1, a2, ARun_some, AG_tt, fits, s2, e2, a3, q, s0, e3, a4, a5])))
      all_goals (refine end_q [] [] ?_ ?_ <;> repeat' (first | exact trivial | exact vr_val _))
    · have q : (((rawU f x / 2 ^ (f.size.toNat - 1) : Nat) : Int) == 1) = false := by
        have : ¬ (rawU f x / 2 ^ (f.size.toNat - 1)) = 1 := fun e => hh (hi.1 e)
        simp only [beq_eq_false_iff_ne]
        omega
      rw [if_neg (by rintro ⟨_, h⟩; exact hh h)]
      (repeat' (first | apply aw_seq | ((first | apply aw_skip | apply aw_exit); try simp only [thenQ, blockQ, if_true, if_false, Nat.reduceEqDiff, reduceCtorEq]) | apply aw_ret | apply aw_block | apply aw_condT rfl | apply aw_condF rfl | ((first | refine aw_region ?_ | refine acall0 (mk) ?_ | refine ago_if (by omega) ?_ | skip); simp (disch := first | exact okY | omega) only [ZU, dI, Nat.reduceAdd, Nat.reduceMul, dB, AOpRun, aexec, D.isBot, ↓eget_h, or_self, ↓reduceIte, D.cells, Nat.reduceBEq, Nat.reduceLeDiff, List.drop, List.take, isSh, abin, a1, run1, ash, b1, e1, a2, ARun_some, AG_tt, fits, s2, e2, a3, q])))
      all_goals (refine end_q [] [] ?_ ?_ <;> repeat' (first | exact trivial | exact vr_val _))
def idxI (l : List Int) (x : Int) : Int := match l.findIdx? (· == x) with
  | some k => (k : Int)
  | none => -1
theorem idx_at {l : List Int} {x : Int} {k : Nat} (hk : k < l.length) (hn : ∀ j, j < k → l[j]?.getD 0 ≠ x) (he : l[k]?.getD 0 = x) : idxI l x = k := by
  unfold idxI
  have : l.findIdx? (· == x) = some k := by
    rw [List.findIdx?_eq_some_iff_getElem]
    refine ⟨hk, by simpa [hk] using he, fun j hj => ?_⟩
    have := hn j hj
    simpa [show j < l.length by omega] using this
  rw [this]
theorem idx_no {l : List Int} {x : Int} (hn : ∀ j, j < l.length → l[j]?.getD 0 ≠ x) : idxI l x = -1 := by
  unfold idxI
  have : l.findIdx? (· == x) = none := by
    rw [List.findIdx?_eq_none_iff]
    intro y hy
    obtain ⟨j, hj, rfl⟩ := List.getElem_of_mem hy
    have := hn j hj
    simpa [hj] using this
  rw [this]
set_option maxRecDepth 100000 in
set_option maxHeartbeats 1000000 in
theorem index_ac (l : List Int) (x : Int) (hl : l.length ≤ 1000) : AC Tryd.prog 51 [.list (ints l), dI x] [] [] (dI (idxI l x)) := by
  refine kslices_Index_L_L_Jint_Kint_J.ac (n0 := 0) (by simp) ⟨.list _, .val _, trivial⟩ trivial rfl ?_
  unfold cslices_Index_L_L_Jint_Kint_J
  (repeat' (first | apply aw_seq | ((first | apply aw_skip | apply aw_exit); try simp only [thenQ, blockQ, if_true, if_false, Nat.reduceEqDiff, reduceCtorEq]) | apply aw_ret | apply aw_block | apply aw_condT rfl | apply aw_condF rfl | ((first | refine aw_region ?_ | refine ago_if (by omega) ?_ | skip); simp (disch := first | exact okY | omega) only [ZU, Int.reduceNeg, dI, Nat.reduceMul, AOpRun, aexec, Nat.reduceBEq, Nat.reduceAdd, ↓eget_h, ints_len])))
  refine aw_loop (fun k : Nat => ⟨[(0, .list (ints l)), (1, dI x), (7, dI l.length), (8, dI k)], [], 400⟩) (fun k => k ≤ l.length ∧ ∀ j, j < k → l[j]?.getD 0 ≠ x) (fun k => l.length - k) ⟨0, ⟨by omega, fun j hj => by omega⟩, ?_⟩ ?_
  · refine wk_q [] [] ?_ ?_ <;> repeat' (first | exact trivial | exact vr_val _ | exact vr_list _ | apply And.intro)
  rintro k ⟨hk, hin⟩
  by_cases hk2 : k < l.length
  · have g1 := ints_gd l k hk2
    by_cases he : l[k]?.getD 0 = x
    · have q : (x == l[k]?.getD 0) = true := by simp [he]
      rw [idx_at hk2 hin he]
      (have hg : (987654321 : Nat) - 987654321 = 0 := rfl; have hr := hg; repeat' (first | apply aw_seq | ((first | apply aw_skip | apply aw_exit); try simp only [thenQ, blockQ, if_true, if_false, Nat.reduceEqDiff, reduceCtorEq]) | apply aw_ret | apply aw_block | apply aw_condT rfl | apply aw_condF rfl | (refine aw_cond rfl (fun hg => ?_) (fun hg => ?_) <;> (try (have hq := hg; simp only [Bool.not_eq_true', Bool.not_eq_false', Bool.and_eq_true, Bool.and_eq_false_iff, Bool.or_eq_true, Bool.or_eq_false_iff, decide_eq_true_eq, decide_eq_false_iff_not, bne_iff_ne, beq_iff_eq, beq_eq_false_iff_ne, bne_eq_false_iff_eq, ne_eq, Int.not_lt, Int.not_le, Decidable.not_not] at hq)) <;> (try (have hr := hg; simp only [decide_eq_true_eq, decide_eq_false_iff_not] at hr)) <;> (try (exfalso; omega))) | ((first | refine aw_region ?_ | refine ago_if (by omega) ?_ | skip); simp (disch := first | exact okY | omega) only [ZU, ne_eq, dI, Int.reduceNeg, Nat.reduceMul, Nat.reduceAdd, AOpRun, aexec, Nat.reduceBEq, ↓eget_h, isSh, ↓reduceIte, abin, hr, ints_all, opt1, g1, run1, q, blockQ])))
      all_goals (refine end_q [] [] ?_ ?_ <;> repeat' (first | exact trivial | exact vr_val _))
    · have q : (x == l[k]?.getD 0) = false := by simp only [beq_eq_false_iff_ne]; exact fun h => he h.symm
      (have hg : (987654321 : Nat) - 987654321 = 0 := rfl; have hr := hg; repeat' (first | apply aw_seq | ((first | apply aw_skip | apply aw_exit); try simp only [thenQ, blockQ, if_true, if_false, Nat.reduceEqDiff, reduceCtorEq]) | apply aw_ret | apply aw_block | apply aw_condT rfl | apply aw_condF rfl | (refine aw_cond rfl (fun hg => ?_) (fun hg => ?_) <;> (try (have hq := hg; simp only [Bool.not_eq_true', Bool.not_eq_false', Bool.and_eq_true, Bool.and_eq_false_iff, Bool.or_eq_true, Bool.or_eq_false_iff, decide_eq_true_eq, decide_eq_false_iff_not, bne_iff_ne, beq_iff_eq, beq_eq_false_iff_ne, bne_eq_false_iff_eq, ne_eq, Int.not_lt, Int.not_le, Decidable.not_not] at hq)) <;> (try (have hr := hg; simp only [decide_eq_true_eq, decide_eq_false_iff_not] at hr)) <;> (try (exfalso; omega))) | ((first | refine aw_region ?_ | refine ago_if (by omega) ?_ | skip); simp (disch := first | exact okY | omega) only [ZU, ne_eq, dI, Int.reduceNeg, Nat.reduceMul, Nat.reduceAdd, AOpRun, aexec, Nat.reduceBEq, ↓eget_h, isSh, ↓reduceIte, abin, hr, ints_all, opt1, g1, run1, q, fits])))
      refine ⟨k + 1, ⟨by omega, fun j hj => ?_⟩, by omega, by refine wk_q [] [] ?_ ?_ <;> repeat' (first | exact trivial | exact vr_val _ | exact vr_list _ | apply And.intro)⟩
      rcases (by omega : j < k ∨ j = k) with h | rfl
      · exact hin j h
      · exact he
  · obtain rfl : k = l.length := by omega
    rw [idx_no hin]
    (have hg : (987654321 : Nat) - 987654321 = 0 := rfl; have hr := hg; repeat' (first | apply aw_seq | ((first | apply aw_skip | apply aw_exit); try simp only [thenQ, blockQ, if_true, if_false, Nat.reduceEqDiff, reduceCtorEq]) | apply aw_ret | apply aw_block | apply aw_condT rfl | apply aw_condF rfl | (refine aw_cond rfl (fun hg => ?_) (fun hg => ?_) <;> (try (have hq := hg; simp only [Bool.not_eq_true', Bool.not_eq_false', Bool.and_eq_true, Bool.and_eq_false_iff, Bool.or_eq_true, Bool.or_eq_false_iff, decide_eq_true_eq, decide_eq_false_iff_not, bne_iff_ne, beq_iff_eq, beq_eq_false_iff_ne, bne_eq_false_iff_eq, ne_eq, Int.not_lt, Int.not_le, Decidable.not_not] at hq)) <;> (try (have hr := hg; simp only [decide_eq_true_eq, decide_eq_false_iff_not] at hr)) <;> (try (exfalso; omega))) | ((first | refine aw_region ?_ | refine ago_if (by omega) ?_ | skip); simp (disch := first | exact okY | omega) only [ZU, ne_eq, dI, Int.reduceNeg, Nat.reduceMul, Nat.reduceAdd, AOpRun, aexec, Nat.reduceBEq, ↓eget_h, isSh, ↓reduceIte, abin, hr, decide_false])))
    all_goals (refine end_q [] [] ?_ ?_ <;> repeat' (first | exact trivial | exact vr_val _))
set_option maxRecDepth 100000 in
set_option maxHeartbeats 1000000 in
theorem contains_ac (l : List Int) (x : Int) (hl : l.length ≤ 1000) : AC Tryd.prog 76 [.list (ints l), dI x] [] [] (dB (decide (0 ≤ idxI l x))) := by
  refine kslices_Contains_L_L_Jint_Kint_J.ac (n0 := 0) (by simp) ⟨.list _, .val _, trivial⟩ trivial rfl ?_
  unfold cslices_Contains_L_L_Jint_Kint_J
  (repeat' (first | apply aw_seq | ((first | apply aw_skip | apply aw_exit); try simp only [thenQ, blockQ, if_true, if_false, Nat.reduceEqDiff, reduceCtorEq]) | apply aw_ret | apply aw_block | apply aw_condT rfl | apply aw_condF rfl | ((first | refine aw_region ?_ | refine acall0 (index_ac l x hl) ?_ | refine ago_if (by omega) ?_ | skip); simp (disch := first | exact okY | omega) only [ZU, dB, Nat.reduceMul, dI, AOpRun, aexec, Nat.reduceBEq, Nat.reduceAdd, ↓eget_h, isSh, ↓reduceIte, abin, ge_iff_le])))
  all_goals (refine end_q [] [] ?_ ?_ <;> repeat' (first | exact trivial | exact vr_val _))
theorem idx_mem {l : List Int} {x : Int} : 0 ≤ idxI l x ↔ x ∈ l := by
  unfold idxI
  cases h : l.findIdx? (· == x) with
  | none =>
    rw [List.findIdx?_eq_none_iff] at h
    simp only
    constructor
    · intro h'; omega
    · intro hx; have := h x hx; simp at this
  | some k =>
    rw [List.findIdx?_eq_some_iff_getElem] at h
    obtain ⟨hk, he, _⟩ := h
    simp only
    refine ⟨fun _ => ?_, fun _ => by omega⟩
    have : l[k] = x := by simpa using he
    rw [← this]; exact List.getElem_mem hk
set_option maxRecDepth 100000 in
set_option maxHeartbeats 1000000 in
theorem ifunc_ac (l : List Int) (hl : l.length ≤ 1000000) : AC Tryd.prog 69 [.list (ints l), .fn 50 [] []] [] [] (dI (match l.findIdx? (fun x => !wI x 0 4095) with
    | some k => (k : Int)
    | none => -1)) := by
  refine kslices_IndexFunc_L_L_Jint_Kint_J.ac (n0 := 0) (by simp) ⟨.list _, .fn _ _ _ (by simp) (by simp), trivial⟩ trivial rfl ?_
  unfold cslices_IndexFunc_L_L_Jint_Kint_J
  (repeat' (first | apply aw_seq | ((first | apply aw_skip | apply aw_exit); try simp only [thenQ, blockQ, if_true, if_false, Nat.reduceEqDiff, reduceCtorEq]) | apply aw_ret | apply aw_block | apply aw_condT rfl | apply aw_condF rfl | ((first | refine aw_region ?_ | refine ago_if (by omega) ?_ | skip); simp (disch := first | exact okY | omega) only [ZU, Int.reduceNeg, dI, Nat.reduceMul, AOpRun, aexec, Nat.reduceBEq, Nat.reduceAdd, ↓eget_h, ints_len])))
  refine aw_loop (fun k : Nat => ⟨[(0, .list (ints l)), (1, .fn 50 [] []), (7, dI l.length), (8, dI k)], [], 400⟩) (fun k => k ≤ l.length ∧ ∀ j, j < k → wI (l[j]?.getD 0) 0 4095 = true) (fun k => l.length - k) ⟨0, ⟨by omega, fun j hj => by omega⟩, ?_⟩ ?_
  · refine wk_q [] [] ?_ ?_ <;> repeat' (first | exact trivial | exact vr_val _ | exact vr_list _ | apply vr_fn | apply And.intro)
  rintro k ⟨hk, hin⟩
  by_cases hk2 : k < l.length
  · have g1 := ints_gd l k hk2
    cases he : wI (l[k]?.getD 0) 0 4095 with
    | false =>
      have q : l.findIdx? (fun x => !wI x 0 4095) = some k := by
        rw [List.findIdx?_eq_some_iff_getElem]
        refine ⟨hk2, by have := he; simp [hk2] at this; simp [this], fun j hj => ?_⟩
        have := hin j hj
        simpa [show j < l.length by omega] using this
      rw [q]
      (have hg : (987654321 : Nat) - 987654321 = 0 := rfl; have hr := hg; repeat' (first | apply aw_seq | ((first | apply aw_skip | apply aw_exit); try simp only [thenQ, blockQ, if_true, if_false, Nat.reduceEqDiff, reduceCtorEq]) | apply aw_ret | apply aw_block | apply aw_condT rfl | apply aw_condF rfl | (refine aw_cond rfl (fun hg => ?_) (fun hg => ?_) <;> (try (have hq := hg; simp only [Bool.not_eq_true', Bool.not_eq_false', Bool.and_eq_true, Bool.and_eq_false_iff, Bool.or_eq_true, Bool.or_eq_false_iff, decide_eq_true_eq, decide_eq_false_iff_not, bne_iff_ne, beq_iff_eq, beq_eq_false_iff_ne, bne_eq_false_iff_eq, ne_eq, Int.not_lt, Int.not_le, Decidable.not_not] at hq)) <;> (try (have hr := hg; simp only [decide_eq_true_eq, decide_eq_false_iff_not] at hr)) <;> (try (exfalso; omega))) | ((first | refine aw_region ?_ | refine acall0 (beyond_ac _) ?_ | refine ago_if (by omega) ?_ | skip); simp (disch := first | exact okY | omega) only [ZU, dI, Int.reduceNeg, Nat.reduceMul, Nat.reduceAdd, AOpRun, aexec, Nat.reduceBEq, ↓eget_h, isSh, ↓reduceIte, abin, hr, ints_all, opt1, g1, run1, dB, he, blockQ])))
      all_goals (refine end_q [] [] ?_ ?_ <;> repeat' (first | exact trivial | exact vr_val _))
    | true =>
      (have hg : (987654321 : Nat) - 987654321 = 0 := rfl; have hr := hg; repeat' (first | apply aw_seq | ((first | apply aw_skip | apply aw_exit); try simp only [thenQ, blockQ, if_true, if_false, Nat.reduceEqDiff, reduceCtorEq]) | apply aw_ret | apply aw_block | apply aw_condT rfl | apply aw_condF rfl | (refine aw_cond rfl (fun hg => ?_) (fun hg => ?_) <;> (try (have hq := hg; simp only [Bool.not_eq_true', Bool.not_eq_false', Bool.and_eq_true, Bool.and_eq_false_iff, Bool.or_eq_true, Bool.or_eq_false_iff, decide_eq_true_eq, decide_eq_false_iff_not, bne_iff_ne, beq_iff_eq, beq_eq_false_iff_ne, bne_eq_false_iff_eq, ne_eq, Int.not_lt, Int.not_le, Decidable.not_not] at hq)) <;> (try (have hr := hg; simp only [decide_eq_true_eq, decide_eq_false_iff_not] at hr)) <;> (try (exfalso; omega))) | ((first | refine aw_region ?_ | refine acall0 (beyond_ac _) ?_ | refine ago_if (by omega) ?_ | skip); simp (disch := first | exact okY | omega) only [ZU, dI, Int.reduceNeg, Nat.reduceMul, Nat.reduceAdd, AOpRun, aexec, Nat.reduceBEq, ↓eget_h, isSh, ↓reduceIte, abin, hr, ints_all, opt1, g1, run1, dB, he, fits])))
      refine ⟨k + 1, ⟨by omega, fun j hj => ?_⟩, by omega, by refine wk_q [] [] ?_ ?_ <;> repeat' (first | exact trivial | exact vr_val _ | exact vr_list _ | apply vr_fn | apply And.intro)⟩
      rcases (by omega : j < k ∨ j = k) with h | rfl
      · exact hin j h
      · exact he
  · obtain rfl : k = l.length := by omega
    have q : l.findIdx? (fun x => !wI x 0 4095) = none := by
      rw [List.findIdx?_eq_none_iff]
      intro y hy
      obtain ⟨j, hj, rfl⟩ := List.getElem_of_mem hy
      have := hin j hj
      simp [hj] at this
      simp [this]
    rw [q]
    (have hg : (987654321 : Nat) - 987654321 = 0 := rfl; have hr := hg; repeat' (first | apply aw_seq | ((first | apply aw_skip | apply aw_exit); try simp only [thenQ, blockQ, if_true, if_false, Nat.reduceEqDiff, reduceCtorEq]) | apply aw_ret | apply aw_block | apply aw_condT rfl | apply aw_condF rfl | (refine aw_cond rfl (fun hg => ?_) (fun hg => ?_) <;> (try (have hq := hg; simp only [Bool.not_eq_true', Bool.not_eq_false', Bool.and_eq_true, Bool.and_eq_false_iff, Bool.or_eq_true, Bool.or_eq_false_iff, decide_eq_true_eq, decide_eq_false_iff_not, bne_iff_ne, beq_iff_eq, beq_eq_false_iff_ne, bne_eq_false_iff_eq, ne_eq, Int.not_lt, Int.not_le, Decidable.not_not] at hq)) <;> (try (have hr := hg; simp only [decide_eq_true_eq, decide_eq_false_iff_not] at hr)) <;> (try (exfalso; omega))) | ((first | refine aw_region ?_ | refine ago_if (by omega) ?_ | skip); simp (disch := first | exact okY | omega) only [ZU, dI, Int.reduceNeg, Nat.reduceMul, Nat.reduceAdd, AOpRun, aexec, Nat.reduceBEq, ↓eget_h, isSh, ↓reduceIte, abin, hr, decide_false])))
    all_goals (refine end_q [] [] ?_ ?_ <;> repeat' (first | exact trivial | exact vr_val _))
theorem wI_w (x : Int) : wI x 0 4095 = wOk x := rfl
set_option maxRecDepth 100000 in
set_option maxHeartbeats 1000000 in
theorem cfunc_ac (l : List Int) (hl : l.length ≤ 1000000) : AC Tryd.prog 35 [.list (ints l), .fn 50 [] []] [] [] (dB (!l.all wOk)) := by
  refine kslices_ContainsFunc_L_L_Jint_Kint_J.ac (n0 := 0) (by simp) ⟨.list _, .fn _ _ _ (by simp) (by simp), trivial⟩ trivial rfl ?_
  unfold cslices_ContainsFunc_L_L_Jint_Kint_J
  have hf := ifunc_ac l hl
  cases h : l.findIdx? (fun x => !wI x 0 4095) with
  | none =>
    have ha : l.all wOk = true := by
      rw [List.findIdx?_eq_none_iff] at h
      refine List.all_eq_true.2 fun x hx => ?_
      have := h x hx
      simpa [wI_w] using this
    rw [h] at hf
    rw [ha]
    (repeat' (first | apply aw_seq | ((first | apply aw_skip | apply aw_exit); try simp only [thenQ, blockQ, if_true, if_false, Nat.reduceEqDiff, reduceCtorEq]) | apply aw_ret | apply aw_block | apply aw_condT rfl | apply aw_condF rfl | ((first | refine aw_region ?_ | refine acall0 (hf) ?_ | refine ago_if (by omega) ?_ | skip); simp (disch := first | exact okY | omega) only [ZU, dB, Nat.reduceMul, AOpRun, aexec, Nat.reduceBEq, Nat.reduceAdd, ↓eget_h, dI, Int.reduceNeg, isSh, ↓reduceIte, abin])))
    all_goals (refine end_q [] [] ?_ ?_ <;> repeat' (first | exact trivial | exact vr_val _))
  | some k =>
    have ha : l.all wOk = false := by
      rw [List.findIdx?_eq_some_iff_getElem] at h
      obtain ⟨hk, he, _⟩ := h
      refine List.all_eq_false.2 ⟨l[k], List.getElem_mem hk, by simpa [wI_w] using he⟩
    rw [h] at hf
    rw [ha]
    have q : decide ((k : Int) ≥ 0) = true := decide_eq_true (by omega)
    (repeat' (first | apply aw_seq | ((first | apply aw_skip | apply aw_exit); try simp only [thenQ, blockQ, if_true, if_false, Nat.reduceEqDiff, reduceCtorEq]) | apply aw_ret | apply aw_block | apply aw_condT rfl | apply aw_condF rfl | ((first | refine aw_region ?_ | refine acall0 (hf) ?_ | refine ago_if (by omega) ?_ | skip); simp (disch := first | exact okY | omega) only [ZU, dB, Nat.reduceMul, AOpRun, aexec, Nat.reduceBEq, Nat.reduceAdd, ↓eget_h, dI, isSh, ↓reduceIte, abin])))
    all_goals (refine end_q [] [] ?_ ?_ <;> repeat' (first | exact trivial | exact vr_val _))
end Go.Proofs.YtdcodicoclecnaaDoor
/- record: a valid field. No conditions. -/
namespace Go.Proofs.YtdcodicoclecnaaDoor
open Go.RowKit Lift

def fokB (w : Int) (f : Fl) : Bool := wI f.word 1 (w - 1) && decide (f.size ≥ 1) && wI f.bit 0 (12 - f.size) && wI f.num (-1000) 1000 && wI f.den 1 1000 && wI f.add (-1000000) 1000000 && decide (0 ≤ idxI [1, 2, 4] f.every) && wI f.phase 0 (f.every - 1)
theorem fok_iff {w : Int} {f : Fl} : fokB w f = true ↔ FOk w f := by
  unfold fokB
  simp only [Bool.and_eq_true, wI, decide_eq_true_eq, idx_mem, List.mem_cons, List.not_mem_nil, or_false]
  constructor
  · rintro ⟨⟨⟨⟨⟨⟨⟨⟨a1, a2⟩, a3⟩, a4, a5⟩, a6, a7⟩, a8, a9⟩, a10, a11⟩, a12⟩, a13, a14⟩
    exact ⟨by omega, by omega, by omega, by omega, by omega, by omega, by omega, by omega, by omega, by omega, by omega, a12, by omega, by omega⟩
  · rintro ⟨a1, a2, a3, a4, a5, a6, a7, a8, a9, a10, a11, a12, a13, a14⟩
    exact ⟨⟨⟨⟨⟨⟨⟨⟨a1, a2⟩, a4⟩, a3, by omega⟩, a6, a7⟩, a8, a9⟩, a10, a11⟩, a12⟩, a13, a14⟩
set_option maxRecDepth 100000 in
set_option maxHeartbeats 4000000 in
theorem valid_ac (w : Int) (f : Fl) (hw : 2 ≤ w ∧ w ≤ 32) (hs : f.size ≤ 9223372036854775807) : AC Tryd.prog 77 [flD f, dI w] [] [] (dB (fokB w f)) := by
  refine krecord_bits_valid.ac (n0 := 0) (by simp) ⟨in_flD _ _, .val _, trivial⟩ trivial rfl ?_
  unfold crecord_bits_valid flD flC
  have vw : Vw (hget [(0, [D.val (.int .i64 f.word), .val (.int .i64 f.bit), .val (.int .i64 f.size), .val (.bool f.sgn), .val (.int .i64 f.num), .val (.int .i64 f.den), .val (.int .i64 f.add), .val (.int .i64 f.every), .val (.int .i64 f.phase)]), (344, [.val (.int .i64 1), .val (.int .i64 2), .val (.int .i64 4)])]) [344] (.vec 344 3 1) (.list (ints [1, 2, 4])) := vec_ints [1, 2, 4] (by simp) rfl rfl
  cases h1 : wI f.word 1 (w - 1) with
  | false =>
    have e : fokB w f = false := by simp [fokB, h1]
    rw [e]
    (repeat' (first | (with_reducible first | refine thenQ_n ?_ | refine blockQ_n ?_ | refine thenQ_e ?_ | refine blockQ_t ?_ | refine blockQ_f (by decide) ?_) | apply aw_seq | apply aw_skip | apply aw_exit | apply aw_ret | apply aw_block | apply aw_condT rfl | apply aw_condF rfl | ((first | refine aw_hide fun K hK => aw_region ?_ | refine acall0 (within_ac _ _ _) ?_ | refine ago_if (by omega) ?_ | skip); simp (disch := first | exact okY | omega) only [ZU, Nat.reduceAdd, Nat.reduceMul, dI, dB, AOpRun, aexec, D.isBot, ↓eget_h, or_self, ↓reduceIte, D.cells, Nat.reduceBEq, Int.reduceNeg, run1, isSh, abin, fits, h1, ARun_some, AG_ft]) | subst hK))
    all_goals (refine end_q [] [] ?_ ?_ <;> repeat' (first | exact trivial | exact vr_val _))
  | true =>
  cases h2 : decide (f.size ≥ 1) with
  | false =>
    have e : fokB w f = false := by simp only [fokB, h2, Bool.and_false, Bool.false_and]
    rw [e]
    (repeat' (first | (with_reducible first | refine thenQ_n ?_ | refine blockQ_n ?_ | refine thenQ_e ?_ | refine blockQ_t ?_ | refine blockQ_f (by decide) ?_) | apply aw_seq | apply aw_skip | apply aw_exit | apply aw_ret | apply aw_block | apply aw_condT rfl | apply aw_condF rfl | ((first | refine aw_hide fun K hK => aw_region ?_ | refine acall0 (within_ac _ _ _) ?_ | refine ago_if (by omega) ?_ | skip); simp (disch := first | exact okY | omega) only [ZU, Nat.reduceAdd, Nat.reduceMul, dI, dB, AOpRun, aexec, D.isBot, ↓eget_h, or_self, ↓reduceIte, D.cells, Nat.reduceBEq, Int.reduceNeg, run1, isSh, abin, fits, h1, ARun_some, AG_tt, h2, AG_ft]) | subst hK))
    all_goals (refine end_q [] [] ?_ ?_ <;> repeat' (first | exact trivial | exact vr_val _))
  | true =>
  have k2 := of_decide_eq_true h2
  cases h3 : wI f.bit 0 (12 - f.size) with
  | false =>
    have e : fokB w f = false := by simp only [fokB, h3, Bool.and_false, Bool.false_and]
    rw [e]
    (repeat' (first | (with_reducible first | refine thenQ_n ?_ | refine blockQ_n ?_ | refine thenQ_e ?_ | refine blockQ_t ?_ | refine blockQ_f (by decide) ?_) | apply aw_seq | apply aw_skip | apply aw_exit | apply aw_ret | apply aw_block | apply aw_condT rfl | apply aw_condF rfl | ((first | refine aw_hide fun K hK => aw_region ?_ | refine acall0 (within_ac _ _ _) ?_ | refine ago_if (by omega) ?_ | skip); simp (disch := first | exact okY | omega) only [ZU, Nat.reduceAdd, Nat.reduceMul, dI, dB, AOpRun, aexec, D.isBot, ↓eget_h, or_self, ↓reduceIte, D.cells, Nat.reduceBEq, Int.reduceNeg, run1, isSh, abin, fits, h1, ARun_some, AG_tt, h2, h3, AG_ft]) | subst hK))
    all_goals (refine end_q [] [] ?_ ?_ <;> repeat' (first | exact trivial | exact vr_val _))
  | true =>
  cases h4 : wI f.num (-1000) 1000 with
  | false =>
    have e : fokB w f = false := by simp only [fokB, h4, Bool.and_false, Bool.false_and]
    rw [e]
    (repeat' (first | (with_reducible first | refine thenQ_n ?_ | refine blockQ_n ?_ | refine thenQ_e ?_ | refine blockQ_t ?_ | refine blockQ_f (by decide) ?_) | apply aw_seq | apply aw_skip | apply aw_exit | apply aw_ret | apply aw_block | apply aw_condT rfl | apply aw_condF rfl | ((first | refine aw_hide fun K hK => aw_region ?_ | refine acall0 (within_ac _ _ _) ?_ | refine ago_if (by omega) ?_ | skip); simp (disch := first | exact okY | omega) only [ZU, Nat.reduceAdd, Nat.reduceMul, dI, dB, AOpRun, aexec, D.isBot, ↓eget_h, or_self, ↓reduceIte, D.cells, Nat.reduceBEq, Int.reduceNeg, run1, isSh, abin, fits, h1, ARun_some, AG_tt, h2, h3, h4, AG_ft]) | subst hK))
    all_goals (refine end_q [] [] ?_ ?_ <;> repeat' (first | exact trivial | exact vr_val _))
  | true =>
  cases h5 : wI f.den 1 1000 with
  | false =>
    have e : fokB w f = false := by simp only [fokB, h5, Bool.and_false, Bool.false_and]
    rw [e]
    (repeat' (first | (with_reducible first | refine thenQ_n ?_ | refine blockQ_n ?_ | refine thenQ_e ?_ | refine blockQ_t ?_ | refine blockQ_f (by decide) ?_) | apply aw_seq | apply aw_skip | apply aw_exit | apply aw_ret | apply aw_block | apply aw_condT rfl | apply aw_condF rfl | ((first | refine aw_hide fun K hK => aw_region ?_ | refine acall0 (within_ac _ _ _) ?_ | refine ago_if (by omega) ?_ | skip); simp (disch := first | exact okY | omega) only [ZU, Nat.reduceAdd, Nat.reduceMul, dI, dB, AOpRun, aexec, D.isBot, ↓eget_h, or_self, ↓reduceIte, D.cells, Nat.reduceBEq, Int.reduceNeg, run1, isSh, abin, fits, h1, ARun_some, AG_tt, h2, h3, h4, h5, AG_ft]) | subst hK))
    all_goals (refine end_q [] [] ?_ ?_ <;> repeat' (first | exact trivial | exact vr_val _))
  | true =>
  cases h6 : wI f.add (-1000000) 1000000 with
  | false =>
    have e : fokB w f = false := by simp only [fokB, h6, Bool.and_false, Bool.false_and]
    rw [e]
    (repeat' (first | (with_reducible first | refine thenQ_n ?_ | refine blockQ_n ?_ | refine thenQ_e ?_ | refine blockQ_t ?_ | refine blockQ_f (by decide) ?_) | apply aw_seq | apply aw_skip | apply aw_exit | apply aw_ret | apply aw_block | apply aw_condT rfl | apply aw_condF rfl | ((first | refine aw_hide fun K hK => aw_region ?_ | refine acall0 (within_ac _ _ _) ?_ | refine ago_if (by omega) ?_ | skip); simp (disch := first | exact okY | omega) only [ZU, Nat.reduceAdd, Nat.reduceMul, dI, dB, AOpRun, aexec, D.isBot, ↓eget_h, or_self, ↓reduceIte, D.cells, Nat.reduceBEq, Int.reduceNeg, run1, isSh, abin, fits, h1, ARun_some, AG_tt, h2, h3, h4, h5, h6, AG_ft]) | subst hK))
    all_goals (refine end_q [] [] ?_ ?_ <;> repeat' (first | exact trivial | exact vr_val _))
  | true =>
  cases h7 : decide (0 ≤ idxI [1, 2, 4] f.every) with
  | false =>
    have e : fokB w f = false := by simp only [fokB, h7, Bool.and_false, Bool.false_and]
    rw [e]
    (repeat' (first | (with_reducible first | refine thenQ_n ?_ | refine blockQ_n ?_ | refine thenQ_e ?_ | refine blockQ_t ?_ | refine blockQ_f (by decide) ?_) | apply aw_seq | apply aw_skip | apply aw_exit | apply aw_ret | apply aw_block | apply aw_condT rfl | apply aw_condF rfl | ((first | refine aw_hide fun K hK => aw_region ?_ | refine acall0 (within_ac _ _ _) ?_ | refine acall (contains_ac [1, 2, 4] f.every (by decide)) [344] ⟨vw, .refl _, trivial⟩ (.inr (.val _)) (by simp only [List.mem_cons, List.not_mem_nil, or_false, forall_eq_or_imp, forall_eq]; first | exact ⟨_, rfl⟩ | exact ⟨⟨_, rfl⟩, ⟨_, rfl⟩⟩) (by kernel_rfl) ?_ | refine ago_if (by omega) ?_ | skip); simp (disch := first | exact okY | omega) only [ZU, Nat.reduceAdd, Nat.reduceMul, dI, dB, AOpRun, aexec, D.isBot, ↓eget_h, or_self, ↓reduceIte, D.cells, Nat.reduceBEq, Int.reduceNeg, run1, isSh, abin, fits, h1, ARun_some, AG_tt, h2, h3, h4, h5, h6, fillD, ne_eq, not_true_eq_false, Nat.reduceGT, splice, List.take, List.drop, h7, AG_ft]) | subst hK))
    all_goals (refine end_q [] [] ?_ ?_ <;> repeat' (first | exact trivial | exact vr_val _))
  | true =>
  have k7 : f.every = 1 ∨ f.every = 2 ∨ f.every = 4 := by
    have := idx_mem.1 (of_decide_eq_true h7)
    simpa using this
  have e : fokB w f = wI f.phase 0 (f.every - 1) := by simp only [fokB, h1, h2, h3, h4, h5, h6, h7, Bool.true_and]
  rw [e]
  (repeat' (first | (with_reducible first | refine thenQ_n ?_ | refine blockQ_n ?_ | refine thenQ_e ?_ | refine blockQ_t ?_ | refine blockQ_f (by decide) ?_) | apply aw_seq | apply aw_skip | apply aw_exit | apply aw_ret | apply aw_block | apply aw_condT rfl | apply aw_condF rfl | ((first | refine aw_hide fun K hK => aw_region ?_ | refine acall0 (within_ac _ _ _) ?_ | refine acall (contains_ac [1, 2, 4] f.every (by decide)) [344] ⟨vw, .refl _, trivial⟩ (.inr (.val _)) (by simp only [List.mem_cons, List.not_mem_nil, or_false, forall_eq_or_imp, forall_eq]; first | exact ⟨_, rfl⟩ | exact ⟨⟨_, rfl⟩, ⟨_, rfl⟩⟩) (by kernel_rfl) ?_ | refine ago_if (by omega) ?_ | skip); simp (disch := first | exact okY | omega) only [ZU, Nat.reduceAdd, Nat.reduceMul, dI, dB, AOpRun, aexec, D.isBot, ↓eget_h, or_self, ↓reduceIte, D.cells, Nat.reduceBEq, Int.reduceNeg, run1, isSh, abin, fits, h1, ARun_some, AG_tt, h2, h3, h4, h5, h6, fillD, ne_eq, not_true_eq_false, Nat.reduceGT, splice, List.take, List.drop, h7]) | subst hK))
  all_goals (refine end_q [] [] ?_ ?_ <;> repeat' (first | exact trivial | exact vr_val _))
end Go.Proofs.YtdcodicoclecnaaDoor
/- The functions' bodies, translated. Written by a program; no conditions. -/
namespace Go.Proofs.YtdcodicoclecnaaDoor
open Go.RowKit Lift

def crecord_Check : ACode :=
 (.seq
 (.region false [oo 1 (.box (.tmp 0)),
 oo 2 (.mv (kI 0))] [])
 (.seq
 (.seq
 (.region false [oo 12 (.fad 0 (.tmp 1)),
 oo 13 (.load1 (.tmp 12)),
 oo 14 (.call (.func 19) [(.tmp 13), (kI 2), (kI 32)]),
 oo 15 (.un .not (.tmp 14)),
 oo 16 (.mv (.tmp 15)),
 og 17 16 false (.fad 5 (.tmp 1)) [],
 og 18 16 false (.load1 (.tmp 17)) [],
 og 19 16 false (.len_ (.tmp 18)) [],
 og 20 16 false (.bin .gtr (.tmp 19) (kI 16)) [],
 oo 21 (.pick (.tmp 16) (.const (.bool true)) (.tmp 20))] [12,13,14,15,16,17,18,19,20])
 (.cond (.tmp 21)
 (.seq
 (.region false [oo 2 (.mv (kI 120))] [])
 .ret)
 .skip))
 (.seq
 (.seq
 (.region false [oo 22 (.fad 1 (.tmp 1)),
 oo 23 (.loadN 4 (.tmp 22)),
 oo 24 (.mv (kI 0))] [22])
 (.block 0
 (.loop
 (.seq
 (.region false [oo 25 (.bin .lss (.tmp 24) (kI 4))] [])
 (.seq
 (.cond (.tmp 25)
 .skip
 (.exit 0))
 (.seq
 (.block 1
 (.seq
 (.region false [oo 26 (.mv (.tmp 24)),
 oo 27 (.idx1 4 1 (.tmp 23) (.tmp 24)),
 oo 3 (.mv (.tmp 26)),
 oo 4 (.mv (.tmp 27))] [26,27])
 (.seq
 (.region false [oo 28 (.mv (.tmp 4)),
 oo 29 (.call (.func 19) [(.tmp 28), (kI 0), (kI 4095)]),
 oo 30 (.un .not (.tmp 29)),
 oo 31 (.mv (.tmp 30)),
 og 32 31 false (.fad 1 (.tmp 1)) [],
 og 33 31 false (.mv (.tmp 3)) [],
 og 34 31 false (.slA 4 1 (.tmp 32) none (some (.tmp 33))) [],
 og 35 31 false (.mv (.tmp 4)) [],
 og 36 31 false (.call (.func 76) [(.tmp 34), (.tmp 35)]) [],
 oo 37 (.pick (.tmp 31) (.const (.bool true)) (.tmp 36))] [28,29,30,31,32,33,34,35,36])
 (.cond (.tmp 37)
 (.seq
 (.region false [oo 2 (.mv (kI 120))] [])
 .ret)
 .skip))))
 (.region false [oo 38 (.bin .add (.tmp 24) (kI 1)),
 oo 24 (.mv (.tmp 38))] [38])))))))
 (.seq
 (.seq
 (.region false [oo 39 (.fad 5 (.tmp 1)),
 oo 40 (.load1 (.tmp 39)),
 oo 41 (.len_ (.tmp 40)),
 oo 42 (.mv (kI 0))] [39])
 (.block 2
 (.loop
 (.seq
 (.region false [oo 43 (.bin .lss (.tmp 42) (.tmp 41))] [])
 (.seq
 (.cond (.tmp 43)
 .skip
 (.exit 2))
 (.seq
 (.block 3
 (.seq
 (.region false [oo 44 (.iadS 9 (.tmp 40) (.tmp 42)),
 oo 45 (.loadN 9 (.tmp 44)),
 oo 6 (.mem [(.val (.int .i64 0)), (.val (.int .i64 0)), (.val (.int .i64 0)), (.val (.bool false)), (.val (.int .i64 0)), (.val (.int .i64 0)), (.val (.int .i64 0)), (.val (.int .i64 0)), (.val (.int .i64 0))]),
 on (.store 9 (.tmp 6) (.tmp 45))] [44,45])
 (.seq
 (.region false [oo 46 (.loadN 9 (.tmp 6)),
 oo 47 (.build [(.val (.int .i64 0)), (.val (.int .i64 0)), (.val (.int .i64 0)), (.val (.bool false)), (.val (.int .i64 0)), (.val (.int .i64 0)), (.val (.int .i64 0)), (.val (.int .i64 0)), (.val (.int .i64 0))] [(0,9, (.tmp 46))]),
 oo 48 (.fad 0 (.tmp 1)),
 oo 49 (.load1 (.tmp 48)),
 oo 50 (.call (.func 77) [(.tmp 47), (.tmp 49)]),
 oo 51 (.un .not (.tmp 50))] [46,47,48,49,50])
 (.cond (.tmp 51)
 (.seq
 (.region false [oo 2 (.mv (kI 120))] [])
 .ret)
 .skip))))
 (.region false [oo 52 (.bin .add (.tmp 42) (kI 1)),
 oo 42 (.mv (.tmp 52))] [52])))))))
 (.seq
 (.seq
 (.region false [oo 53 (.mv (kI 0))] [])
 (.block 4
 (.loop
 (.seq
 (.region false [oo 54 (.bin .lss (.tmp 53) (kI 4))] [])
 (.seq
 (.cond (.tmp 54)
 .skip
 (.exit 4))
 (.seq
 (.block 5
 (.seq
 (.region false [oo 55 (.mv (.tmp 53)),
 oo 7 (.mv (.tmp 55))] [55])
 (.seq
 (.region false [oo 56 (.fad 0 (.tmp 1)),
 oo 57 (.load1 (.tmp 56)),
 oo 58 (.mksl 1 8 [(.val (.int .i64 0))] (.tmp 57) (.tmp 57)),
 oo 8 (.mv (.tmp 58))] [56,57,58])
 (.seq
 (.region false [oo 59 (.fad 5 (.tmp 1)),
 oo 60 (.load1 (.tmp 59)),
 oo 61 (.len_ (.tmp 60)),
 oo 62 (.mv (kI 0))] [59])
 (.block 6
 (.loop
 (.seq
 (.region false [oo 63 (.bin .lss (.tmp 62) (.tmp 61))] [])
 (.seq
 (.cond (.tmp 63)
 .skip
 (.exit 6))
 (.seq
 (.block 7
 (.seq
 (.region false [oo 64 (.iadS 9 (.tmp 60) (.tmp 62)),
 oo 65 (.loadN 9 (.tmp 64)),
 oo 10 (.mem [(.val (.int .i64 0)), (.val (.int .i64 0)), (.val (.int .i64 0)), (.val (.bool false)), (.val (.int .i64 0)), (.val (.int .i64 0)), (.val (.int .i64 0)), (.val (.int .i64 0)), (.val (.int .i64 0))]),
 on (.store 9 (.tmp 10) (.tmp 65))] [64,65])
 (.seq
 (.region false [oo 66 (.loadN 9 (.tmp 10)),
 oo 67 (.build [(.val (.int .i64 0)), (.val (.int .i64 0)), (.val (.int .i64 0)), (.val (.bool false)), (.val (.int .i64 0)), (.val (.int .i64 0)), (.val (.int .i64 0)), (.val (.int .i64 0)), (.val (.int .i64 0))] [(0,9, (.tmp 66))]),
 oo 11 (.mem [(.val (.int .i64 0)), (.val (.int .i64 0)), (.val (.int .i64 0)), (.val (.bool false)), (.val (.int .i64 0)), (.val (.int .i64 0)), (.val (.int .i64 0)), (.val (.int .i64 0)), (.val (.int .i64 0))]),
 on (.store 9 (.tmp 11) (.tmp 67))] [66,67])
 (.seq
 (.region false [oo 68 (.loadN 9 (.tmp 11)),
 oo 69 (.mv (.tmp 7)),
 oo 70 (.call (.func 40) [(.tmp 68), (.tmp 69)])] [68,69])
 (.cond (.tmp 70)
 (.seq
 (.seq
 (.region true [oo 71 (.mv (.tmp 8)),
 oo 72 (.fad 0 (.tmp 11)),
 oa 73 (.fad 0 (.tmp 72)) [1],
 oa 74 (.load1 (.tmp 73)) [2,1],
 oa 75 (.iadS 1 (.tmp 71) (.tmp 74)) [0,3,2,1],
 oa 76 (.load1 (.tmp 75)) [4,0,3,2,1],
 oo 77 (.loadN 9 (.tmp 11)),
 oa 78 (.call (.func 70) [(.tmp 77)]) [6],
 oa 79 (.bin .and (.tmp 76) (.tmp 78)) [5,4,0,3,2,1,7,6],
 oa 80 (.bin .neq (.tmp 79) (kI 0)) [8,5,4,0,3,2,1,7,6]] [71,72,73,74,75,76,77,78,79])
 (.cond (.tmp 80)
 (.seq
 (.region false [oo 2 (.mv (kI 120))] [])
 .ret)
 .skip))
 (.region true [oo 81 (.mv (.tmp 8)),
 oo 82 (.fad 0 (.tmp 11)),
 oa 83 (.fad 0 (.tmp 82)) [1],
 oa 84 (.load1 (.tmp 83)) [2,1],
 oa 85 (.iadS 1 (.tmp 81) (.tmp 84)) [0,3,2,1],
 oa 86 (.load1 (.tmp 85)) [4,0,3,2,1],
 oo 87 (.loadN 9 (.tmp 11)),
 oa 88 (.call (.func 70) [(.tmp 87)]) [6],
 oa 89 (.bin .or (.tmp 86) (.tmp 88)) [5,4,0,3,2,1,7,6],
 oa 90 (.iadS 1 (.tmp 81) (.tmp 84)) [0,3,2,1,4,5,6,7,8],
 ⟨none, .store 1 (.tmp 90) (.tmp 89), none, [9,0,3,2,1,4,5,6,7,8]⟩] [81,82,83,84,85,86,87,88,89,90]))
 .skip)))))
 (.region false [oo 91 (.bin .add (.tmp 62) (kI 1)),
 oo 62 (.mv (.tmp 91))] [91]))))))))))
 (.region false [oo 92 (.bin .add (.tmp 53) (kI 1)),
 oo 53 (.mv (.tmp 92))] [92])))))))
 (.seq
 (.region false [oo 2 (.mv (kI 0))] [])
 .ret))))))
set_option maxRecDepth 100000 in
theorem krecord_Check : IsCode Tryd.prog 49 93 crecord_Check [.tmp 2] :=
 ⟨Tryd.f49, _, [80,70,63,54,51,43,37,25,21,0,1,24,23,4,3,42,41,40,6,53,62,61,60,10,11,7,8,2], Tryd.func49, rfl, by decide, rfl, by kernel_rfl, by kernel_rfl⟩
end Go.Proofs.YtdcodicoclecnaaDoor
/- record: the check of a layout. No conditions. -/
namespace Go.Proofs.YtdcodicoclecnaaDoor
open Go.RowKit Lift

structure LayIn (l : Lay) : Prop where
  nf : l.fl.length ≤ maxLen
  sz : ∀ k, k < l.fl.length → (fAt l k).size ≤ 9223372036854775807
theorem sync_no (l : Lay) (k : Nat) (hk : k < 4) (h : wI ((sync l)[k]?.getD 0) 0 4095 = false ∨ (sync l)[k]?.getD 0 ∈ (sync l).take k) : ¬ LayOk l := by
  intro ho
  rcases h with h | h
  · have := ho.sy k hk
    have := wI_f h
    omega
  · obtain ⟨j, hj, he⟩ := List.getElem_of_mem h
    have hjk : j < k := by simp at hj; omega
    refine ho.sd k hk j hjk ?_
    rw [List.getElem_take] at he
    have hj4 : j < (sync l).length := by simp [sync]; omega
    simp [hj4, he]
def SyncOk (l : Lay) (k : Nat) : Prop := ∀ j, j < k → (0 ≤ (sync l)[j]?.getD 0 ∧ (sync l)[j]?.getD 0 ≤ 4095) ∧ ∀ i, i < j → (sync l)[j]?.getD 0 ≠ (sync l)[i]?.getD 0
theorem sync_step {l : Lay} {k : Nat} (hk : k < 4) (h : SyncOk l k) (h1 : wI ((sync l)[k]?.getD 0) 0 4095 = true) (h2 : (sync l)[k]?.getD 0 ∉ (sync l).take k) : SyncOk l (k + 1) := by
  intro j hj
  rcases (by omega : j < k ∨ j = k) with h' | rfl
  · exact h j h'
  · refine ⟨wI_t h1, fun i hi he => h2 ?_⟩
    have hi4 : i < (sync l).length := by simp [sync]; omega
    have : (sync l)[i] ∈ (sync l).take j := by
      rw [List.mem_take_iff_getElem]
      exact ⟨i, by omega, rfl⟩
    rw [he]; simpa [hi4] using this
theorem sync_view (l : Lay) (k : Nat) (hk : k ≤ 4) {H : Heap} (hH : H 0 = some (layC l)) : Vw H [0] (.own 0 1 k 1) (.list (ints ((sync l).take k))) := by
  refine own_ints ((sync l).take k) (by simp) hH (by simp [sync]; omega) (by simp [layC]; omega) ?_ (layC_in l)
  have : (layC l).drop 1 = [dI l.s0, dI l.s1, dI l.s2, dI l.s3] ++ [.list (fls l.fl)] := rfl
  rw [this, List.take_append_of_le_length (by simp; omega)]
  unfold icells sync
  rw [List.map_take]; rfl
def UsdOk (l : Lay) (s : Int) (k : Nat) : Prop := ∀ i, i < k → ∀ j, j < i → inSub (fAt l i) s → inSub (fAt l j) s → ¬ Ovl (fAt l i) (fAt l j)
end Go.Proofs.YtdcodicoclecnaaDoor
/- record: the check of a layout, walked. No conditions. -/
namespace Go.Proofs.YtdcodicoclecnaaDoor
open Go.RowKit Lift

set_option maxRecDepth 100000 in
set_option maxHeartbeats 8000000 in
theorem check_ac (l : Lay) (hl : LayIn l) : AC Tryd.prog 49 [layD l] [] [] (dI (layE l 120)) := by
  refine krecord_Check.ac (n0 := 0) (by simp) ⟨in_layD _ _, trivial⟩ trivial rfl ?_
  unfold crecord_Check layD layC
  have hmax : maxLen = 9223372036854775807 := rfl
  have hnf := hl.nf
  cases h1 : wI l.words 2 32 with
  | false =>
    have e : layE l 120 = 120 := layE_no fun h => by have := wI_f h1; have := h.w1; have := h.w2; omega
    rw [e]
    (repeat' (first | (with_reducible first | refine thenQ_n ?_ | refine blockQ_n ?_ | refine thenQ_e ?_ | refine blockQ_t ?_ | refine blockQ_f (by decide) ?_) | apply aw_seq | apply aw_skip | apply aw_exit | apply aw_ret | apply aw_block | apply aw_condT rfl | apply aw_condF rfl | ((first | refine aw_hide fun K hK => aw_region ?_ | refine acall0 (within_ac _ _ _) ?_ | refine ago_if (by omega) ?_ | skip); simp (disch := first | exact okY | omega) only [ZU, Nat.reduceAdd, Nat.reduceMul, dI, AOpRun, aexec, D.isBot, ↓eget_h, or_self, ↓reduceIte, D.cells, Nat.reduceBEq, run1, dB, h1, ARun_some, AG_tf]) | subst hK))
    all_goals (refine end_q [] [] ?_ ?_ <;> repeat' (first | exact trivial | exact vr_val _))
  | true =>
  have w1 := wI_t h1
  by_cases h2 : l.fl.length ≤ 16
  case neg =>
    have e : layE l 120 = 120 := layE_no fun h => h2 h.nf
    have q : decide ((l.fl.length : Int) > 16) = true := decide_eq_true (by omega)
    rw [e]
    (repeat' (first | (with_reducible first | refine thenQ_n ?_ | refine blockQ_n ?_ | refine thenQ_e ?_ | refine blockQ_t ?_ | refine blockQ_f (by decide) ?_) | apply aw_seq | apply aw_skip | apply aw_exit | apply aw_ret | apply aw_block | apply aw_condT rfl | apply aw_condF rfl | ((first | refine aw_hide fun K hK => aw_region ?_ | refine acall0 (within_ac _ _ _) ?_ | refine ago_if (by omega) ?_ | skip); simp (disch := first | exact okY | omega) only [ZU, Nat.reduceAdd, Nat.reduceMul, dI, AOpRun, aexec, D.isBot, ↓eget_h, or_self, ↓reduceIte, D.cells, Nat.reduceBEq, run1, dB, h1, ARun_some, AG_ff, fls_len, isSh, abin, q]) | subst hK))
    all_goals (refine end_q [] [] ?_ ?_ <;> repeat' (first | exact trivial | exact vr_val _))
  have q2 : decide ((l.fl.length : Int) > 16) = false := decide_eq_false (by omega)
  (repeat' (first | (with_reducible first | refine thenQ_n ?_ | refine blockQ_n ?_ | refine thenQ_e ?_ | refine blockQ_t ?_ | refine blockQ_f (by decide) ?_) | apply aw_seq | apply aw_skip | apply aw_exit | apply aw_ret | apply aw_block | apply aw_condT rfl | apply aw_condF rfl | ((first | refine aw_hide fun K hK => aw_region ?_ | refine acall0 (within_ac _ _ _) ?_ | refine ago_if (by omega) ?_ | skip); simp (disch := first | exact okY | omega) only [ZU, Nat.reduceAdd, Nat.reduceMul, dI, AOpRun, aexec, D.isBot, ↓eget_h, or_self, ↓reduceIte, D.cells, Nat.reduceBEq, run1, dB, h1, ARun_some, AG_ff, fls_len, isSh, abin, q2, Nat.reduceLeDiff, List.drop, List.take]) | subst hK))
  refine aw_loop (fun k : Nat => ⟨[(1, .ptr 0 0), (23, .agg [dI l.s0, dI l.s1, dI l.s2, dI l.s3]), (24, dI k)], [(0, layC l)], 100⟩) (fun k => k ≤ 4 ∧ SyncOk l k) (fun k => 4 - k) ⟨0, ⟨by omega, fun j hj => by omega⟩, ?_⟩ ?_
  · refine wk_q [] [(0, 0)] ?_ ?_ <;> repeat' (first | exact trivial | exact vr_val _ | exact vr_list _ | exact vr_ptr _ _ _ rfl | apply vr_agg | refine And.intro ⟨_, rfl, .inl ⟨_, rfl, by decide, ?_⟩⟩ ?_ | apply And.intro)
  rintro k ⟨hk, hin⟩
  by_cases hk4 : k < 4
  · have vw := sync_view l k (by omega) (H := hget [(0, layC l)]) rfl
    have hcn := contains_ac ((sync l).take k) ((sync l)[k]?.getD 0) (by simp [sync]; omega)
    have hno := sync_no l k hk4
    have hst := sync_step hk4 hin
    have mm : (0 ≤ idxI ((sync l).take k) ((sync l)[k]?.getD 0)) ↔ (sync l)[k]?.getD 0 ∈ (sync l).take k := idx_mem
    obtain ⟨x, hx⟩ : ∃ x, (sync l)[k]?.getD 0 = x := ⟨_, rfl⟩
    have gx : ([.val (.int .i64 l.s0), .val (.int .i64 l.s1), .val (.int .i64 l.s2), .val (.int .i64 l.s3)] : List D)[k]? = some (.val (.int .i64 x)) := by
      have : ([.val (.int .i64 l.s0), .val (.int .i64 l.s1), .val (.int .i64 l.s2), .val (.int .i64 l.s3)] : List D) = (sync l).map dI := rfl
      have hk' : k < (sync l).length := by simp [sync]; omega
      rw [this, ← hx]; simp [hk', dI]
    rw [hx] at hno hst hcn mm
    obtain ⟨c, hc⟩ : ∃ c, decide (0 ≤ idxI ((sync l).take k) x) = c := ⟨_, rfl⟩
    rw [hc] at hcn
    have ki : (k : Int) < 4 := by omega
    have ki4 : (k : Int) ≤ 4 := by omega
    have l6 : (layC l).length = 6 := rfl
    cases hw : wI x 0 4095 with
    | false =>
      have e : layE l 120 = 120 := layE_no (hno (.inl hw))
      rw [e]
      (repeat' (first | apply aw_seq | ((first | apply aw_skip | apply aw_exit); try simp only [thenQ, blockQ, if_true, if_false, Nat.reduceEqDiff, reduceCtorEq]) | apply aw_ret | apply aw_block | apply aw_condT rfl | apply aw_condF rfl | ((first | refine aw_region ?_ | refine acall0 (within_ac _ _ _) ?_ | refine ago_if (by omega) ?_ | skip); simp (disch := first | exact okY | omega) only [ZU, dI, Nat.mul_one, Nat.reduceAdd, AOpRun, aexec, Nat.reduceBEq, ↓eget_h, isSh, ↓reduceIte, abin, ki, Nat.reduceMul, D.isAgg, cast_lit, opt1, D.cells, gx, dB, hw, ARun_some, AG_tf, blockQ])))
      all_goals (refine end_q [] [] ?_ ?_ <;> repeat' (first | exact trivial | exact vr_val _))
    | true =>
      cases c with
      | true =>
        have e : layE l 120 = 120 := layE_no (hno (.inr (mm.1 (of_decide_eq_true hc))))
        rw [e]
        (repeat' (first | apply aw_seq | ((first | apply aw_skip | apply aw_exit); try simp only [thenQ, blockQ, if_true, if_false, Nat.reduceEqDiff, reduceCtorEq]) | apply aw_ret | apply aw_block | apply aw_condT rfl | apply aw_condF rfl | ((first | refine aw_region ?_ | refine acall0 (within_ac _ _ _) ?_ | refine acall (hcn) [0] ⟨vw, .refl _, trivial⟩ (.inr (.val _)) (by simp only [List.mem_cons, List.not_mem_nil, or_false, forall_eq_or_imp, forall_eq]; first | exact ⟨_, rfl⟩ | exact ⟨⟨_, rfl⟩, ⟨_, rfl⟩⟩) (by kernel_rfl) ?_ | refine ago_if (by omega) ?_ | skip); simp (disch := first | exact okY | omega) only [ZU, dI, Nat.mul_one, Nat.reduceAdd, AOpRun, aexec, Nat.reduceBEq, ↓eget_h, isSh, ↓reduceIte, abin, ki, Nat.reduceMul, D.isAgg, cast_lit, opt1, D.cells, gx, dB, hw, ARun_some, AG_ff, asI, Int.le_refl, ki4, l6, Nat.reduceLeDiff, true_or, Int.toNat_zero, Int.sub_zero, blockQ])))
        all_goals (refine end_q [] [] ?_ ?_ <;> repeat' (first | exact trivial | exact vr_val _))
      | false =>
        (repeat' (first | apply aw_seq | ((first | apply aw_skip | apply aw_exit); try simp only [thenQ, blockQ, if_true, if_false, Nat.reduceEqDiff, reduceCtorEq]) | apply aw_ret | apply aw_block | apply aw_condT rfl | apply aw_condF rfl | ((first | refine aw_region ?_ | refine acall0 (within_ac _ _ _) ?_ | refine acall (hcn) [0] ⟨vw, .refl _, trivial⟩ (.inr (.val _)) (by simp only [List.mem_cons, List.not_mem_nil, or_false, forall_eq_or_imp, forall_eq]; first | exact ⟨_, rfl⟩ | exact ⟨⟨_, rfl⟩, ⟨_, rfl⟩⟩) (by kernel_rfl) ?_ | refine ago_if (by omega) ?_ | skip); simp (disch := first | exact okY | omega) only [ZU, dI, Nat.mul_one, Nat.reduceAdd, AOpRun, aexec, Nat.reduceBEq, ↓eget_h, isSh, ↓reduceIte, abin, ki, Nat.reduceMul, D.isAgg, cast_lit, opt1, D.cells, gx, dB, hw, ARun_some, AG_ff, asI, Int.le_refl, ki4, l6, Nat.reduceLeDiff, true_or, Int.toNat_zero, Int.sub_zero, fits])))
        refine ⟨k + 1, ⟨by omega, hst hw fun h => of_decide_eq_false hc (mm.2 h)⟩, by omega, ?_⟩
        refine wk_q [] [(0, 0)] ?_ ?_ <;> repeat' (first | exact trivial | exact vr_val _ | exact vr_list _ | exact vr_ptr _ _ _ rfl | apply vr_agg | refine And.intro ⟨_, rfl, .inl ⟨_, rfl, by decide, ?_⟩⟩ ?_ | apply And.intro)
  obtain rfl : k = 4 := by omega
  have cF : ∀ k, k < l.fl.length → (fls l.fl)[k]? = some (flC (fAt l k)) := fun k h => fls_gd l.fl k h
  (repeat' (first | (with_reducible first | refine thenQ_n ?_ | refine blockQ_n ?_ | refine thenQ_e ?_ | refine blockQ_t ?_ | refine blockQ_f (by decide) ?_) | apply aw_seq | apply aw_skip | apply aw_exit | apply aw_ret | apply aw_block | apply aw_condT rfl | apply aw_condF rfl | ((first | refine aw_hide fun K hK => aw_region ?_ | refine ago_if (by omega) ?_ | skip); simp (disch := first | exact okY | omega) only [ZU, Nat.reduceMul, Nat.reduceAdd, dI, cast_lit, layC, AOpRun, aexec, Nat.reduceBEq, ↓eget_h, isSh, ↓reduceIte, abin, Int.reduceLT, decide_false, run1, fls_len]) | subst hK))
  refine aw_loop (fun k : Nat => ⟨[(1, .ptr 0 0), (40, .list (fls l.fl)), (41, dI l.fl.length), (42, dI k)], [(0, [dI l.words, dI l.s0, dI l.s1, dI l.s2, dI l.s3, .list (fls l.fl)])], 100⟩) (fun k => k ≤ l.fl.length ∧ ∀ j, j < k → FOk l.words (fAt l j)) (fun k => l.fl.length - k) ⟨0, ⟨by omega, fun j hj => by omega⟩, ?_⟩ ?_
  · refine wk_q [] [(0, 0)] ?_ ?_ <;> repeat' (first | exact trivial | exact vr_val _ | exact vr_list _ | exact vr_ptr _ _ _ rfl | refine And.intro ⟨_, rfl, .inl ⟨_, rfl, by decide, ?_⟩⟩ ?_ | apply And.intro)
  · rintro k ⟨hk, hfo⟩
    by_cases hk2 : k < l.fl.length
    · have g1 := cF k hk2
      have va := valid_ac l.words (fAt l k) w1 (hl.sz k hk2)
      cases hv : fokB l.words (fAt l k) with
      | false =>
        have e : layE l 120 = 120 := layE_no fun h => by
          have := fok_iff.2 (h.fo k hk2)
          rw [show l.fl[k]?.getD fl0 = fAt l k from rfl, hv] at this
          cases this
        rw [e]
        rw [hv] at va
        (have hg : (987654321 : Nat) - 987654321 = 0 := rfl; have hr := hg; repeat' (first | apply aw_seq | ((first | apply aw_skip | apply aw_exit); try simp only [thenQ, blockQ, if_true, if_false, Nat.reduceEqDiff, reduceCtorEq]) | apply aw_ret | apply aw_block | apply aw_condT rfl | apply aw_condF rfl | (refine aw_cond rfl (fun hg => ?_) (fun hg => ?_) <;> (try (have hq := hg; simp only [Bool.not_eq_true', Bool.not_eq_false', Bool.and_eq_true, Bool.and_eq_false_iff, Bool.or_eq_true, Bool.or_eq_false_iff, decide_eq_true_eq, decide_eq_false_iff_not, bne_iff_ne, beq_iff_eq, beq_eq_false_iff_ne, bne_eq_false_iff_eq, ne_eq, Int.not_lt, Int.not_le, Decidable.not_not] at hq)) <;> (try (have hr := hg; simp only [decide_eq_true_eq, decide_eq_false_iff_not] at hr)) <;> (try (exfalso; omega))) | ((first | refine aw_region ?_ | refine acall0 (va) ?_ | refine ago_if (by omega) ?_ | skip); simp (disch := first | exact okY | omega) only [ZU, dI, Nat.mul_one, Nat.reduceAdd, AOpRun, aexec, Nat.reduceBEq, ↓eget_h, isSh, ↓reduceIte, abin, Nat.reduceMul, hr, fls_all, opt1, g1, flC, dB, Nat.reduceLeDiff, List.take, ↓hget_h, D.isBot, D.cells, List.all, D.leaf, splice, List.drop, fillD, ne_eq, not_true_eq_false, Nat.reduceGT, or_self, run1, blockQ])))
        all_goals (refine end_q [] [] ?_ ?_ <;> repeat' (first | exact trivial | exact vr_val _))
      | true =>
        rw [hv] at va
        (have hg : (987654321 : Nat) - 987654321 = 0 := rfl; have hr := hg; repeat' (first | apply aw_seq | ((first | apply aw_skip | apply aw_exit); try simp only [thenQ, blockQ, if_true, if_false, Nat.reduceEqDiff, reduceCtorEq]) | apply aw_ret | apply aw_block | apply aw_condT rfl | apply aw_condF rfl | (refine aw_cond rfl (fun hg => ?_) (fun hg => ?_) <;> (try (have hq := hg; simp only [Bool.not_eq_true', Bool.not_eq_false', Bool.and_eq_true, Bool.and_eq_false_iff, Bool.or_eq_true, Bool.or_eq_false_iff, decide_eq_true_eq, decide_eq_false_iff_not, bne_iff_ne, beq_iff_eq, beq_eq_false_iff_ne, bne_eq_false_iff_eq, ne_eq, Int.not_lt, Int.not_le, Decidable.not_not] at hq)) <;> (try (have hr := hg; simp only [decide_eq_true_eq, decide_eq_false_iff_not] at hr)) <;> (try (exfalso; omega))) | ((first | refine aw_region ?_ | refine acall0 (va) ?_ | refine ago_if (by omega) ?_ | skip); simp (disch := first | exact okY | omega) only [ZU, dI, Nat.mul_one, Nat.reduceAdd, AOpRun, aexec, Nat.reduceBEq, ↓eget_h, isSh, ↓reduceIte, abin, Nat.reduceMul, hr, fls_all, opt1, g1, flC, dB, Nat.reduceLeDiff, List.take, ↓hget_h, D.isBot, D.cells, List.all, D.leaf, splice, List.drop, fillD, ne_eq, not_true_eq_false, Nat.reduceGT, or_self, run1, fits])))
        refine ⟨k + 1, ⟨by omega, fun j hj => ?_⟩, by omega, ?_⟩
        · rcases (by omega : j < k ∨ j = k) with h | rfl
          · exact hfo j h
          · exact fok_iff.1 hv
        · refine wk_q [] [(0, 0)] ?_ ?_ <;> repeat' (first | exact trivial | exact vr_val _ | exact vr_list _ | exact vr_ptr _ _ _ rfl | refine And.intro ⟨_, rfl, .inl ⟨_, rfl, by decide, ?_⟩⟩ ?_ | apply And.intro)
    · obtain rfl : k = l.fl.length := by omega
      have hF : ∀ j, j < l.fl.length → FOk l.words (fAt l j) := hfo
      (have hg : (987654321 : Nat) - 987654321 = 0 := rfl; have hr := hg; repeat' (first | (with_reducible first | refine thenQ_n ?_ | refine blockQ_n ?_ | refine thenQ_e ?_ | refine blockQ_t ?_ | refine blockQ_f (by decide) ?_) | apply aw_seq | apply aw_skip | apply aw_exit | apply aw_ret | apply aw_block | apply aw_condT rfl | apply aw_condF rfl | (refine aw_cond rfl (fun hg => ?_) (fun hg => ?_) <;> (try (have hq := hg; simp only [Bool.not_eq_true', Bool.not_eq_false', Bool.and_eq_true, Bool.and_eq_false_iff, Bool.or_eq_true, Bool.or_eq_false_iff, decide_eq_true_eq, decide_eq_false_iff_not, bne_iff_ne, beq_iff_eq, beq_eq_false_iff_ne, bne_eq_false_iff_eq, ne_eq, Int.not_lt, Int.not_le, Decidable.not_not] at hq)) <;> (try (have hr := hg; simp only [decide_eq_true_eq, decide_eq_false_iff_not] at hr)) <;> (try (exfalso; omega))) | ((first | refine aw_hide fun K hK => aw_region ?_ | refine ago_if (by omega) ?_ | skip); simp (disch := first | exact okY | omega) only [ZU, Nat.reduceMul, Nat.reduceAdd, dI, AOpRun, aexec, Nat.reduceBEq, ↓eget_h, isSh, ↓reduceIte, abin, hr, decide_false]) | subst hK))
      refine aw_loop (fun s : Nat => ⟨[(1, .ptr 0 0), (53, dI s)], [(0, [dI l.words, dI l.s0, dI l.s1, dI l.s2, dI l.s3, .list (fls l.fl)])], 100⟩) (fun s => s ≤ 4 ∧ ∀ t : Nat, t < s → UsdOk l t l.fl.length) (fun s => 4 - s) ⟨0, ⟨by omega, fun j hj => by omega⟩, ?_⟩ ?_
      · refine wk_q [] [(0, 0)] ?_ ?_ <;> repeat' (first | exact trivial | exact vr_val _ | exact vr_list _ | exact vr_ptr _ _ _ rfl | refine And.intro ⟨_, rfl, .inl ⟨_, rfl, by decide, ?_⟩⟩ ?_ | apply And.intro)
      rintro s ⟨hs, hus⟩
      by_cases hs4 : s < 4
      case neg =>
        obtain rfl : s = 4 := by omega
        have e : layE l 120 = 0 := layE_ok ⟨w1.1, w1.2, h2, fun k hk => (hin k hk).1, fun i hi k hk => (hin i hi).2 k hk, hF, fun i hi k hk s hs h3 h4 => hus s hs i hi k hk h3 h4⟩
        rw [e]
        (repeat' (first | (with_reducible first | refine thenQ_n ?_ | refine blockQ_n ?_ | refine thenQ_e ?_ | refine blockQ_t ?_ | refine blockQ_f (by decide) ?_) | apply aw_seq | apply aw_skip | apply aw_exit | apply aw_ret | apply aw_block | apply aw_condT rfl | apply aw_condF rfl | ((first | refine aw_hide fun K hK => aw_region ?_ | refine ago_if (by omega) ?_ | skip); simp (disch := first | exact okY | omega) only [ZU, Nat.reduceMul, Nat.reduceAdd, dI, cast_lit, AOpRun, aexec, Nat.reduceBEq, ↓eget_h, isSh, ↓reduceIte, abin, Int.reduceLT, decide_false]) | subst hK))
        all_goals (refine end_q [] [] ?_ ?_ <;> repeat' (first | exact trivial | exact vr_val _))
      have ki : (s : Int) < 4 := by omega
      have hrep : (List.replicate l.words.toNat [D.val (.int .i64 0)]).flatten = icells (usd s l 0) := by rw [rep_ic, usd_zero]
      (repeat' (first | (with_reducible first | refine thenQ_n ?_ | refine blockQ_n ?_ | refine thenQ_e ?_ | refine blockQ_t ?_ | refine blockQ_f (by decide) ?_) | apply aw_seq | apply aw_skip | apply aw_exit | apply aw_ret | apply aw_block | apply aw_condT rfl | apply aw_condF rfl | ((first | refine aw_hide fun K hK => aw_region ?_ | refine ago_if (by omega) ?_ | skip); simp (disch := first | exact okY | omega) only [ZU, Nat.reduceMul, Nat.reduceAdd, dI, AOpRun, aexec, Nat.reduceBEq, ↓eget_h, isSh, ↓reduceIte, abin, ki, run1, cast_lit, and_true, true_and, hrep, fls_len]) | subst hK))
      refine aw_loop (fun k : Nat => ⟨[(1, .ptr 0 0), (7, dI s), (8, .vec 200 l.words.toNat 1), (53, dI s), (60, .list (fls l.fl)), (61, dI l.fl.length), (62, dI k)], [(0, [dI l.words, dI l.s0, dI l.s1, dI l.s2, dI l.s3, .list (fls l.fl)]), (200, icells (usd s l k))], 300⟩) (fun k => k ≤ l.fl.length ∧ UsdOk l s k) (fun k => l.fl.length - k) ⟨0, ⟨by omega, fun i hi => by omega⟩, ?_⟩ ?_
      · refine wk_q [] [(0, 0), (200, 140)] ?_ ?_ <;> repeat' (first | exact trivial | exact vr_val _ | exact vr_list _ | exact vr_vec _ _ _ _ rfl | exact vr_ptr _ _ _ rfl | refine And.intro ⟨_, rfl, .inl ⟨_, rfl, by decide, ?_⟩⟩ ?_ | apply And.intro | exact vrl_flat _ (by first | exact icells_in _ | exact rcells_in _ | exact scells_in _ | exact bcells_in _ | assumption))
      rintro k ⟨hk, huk⟩
      by_cases hk2 : k < l.fl.length
      case neg =>
        obtain rfl : k = l.fl.length := by omega
        (have hg : (987654321 : Nat) - 987654321 = 0 := rfl; have hr := hg; repeat' (first | (with_reducible first | refine thenQ_n ?_ | refine blockQ_n ?_ | refine thenQ_e ?_ | refine blockQ_t ?_ | refine blockQ_f (by decide) ?_) | apply aw_seq | apply aw_skip | apply aw_exit | apply aw_ret | apply aw_block | apply aw_condT rfl | apply aw_condF rfl | (refine aw_cond rfl (fun hg => ?_) (fun hg => ?_) <;> (try (have hq := hg; simp only [Bool.not_eq_true', Bool.not_eq_false', Bool.and_eq_true, Bool.and_eq_false_iff, Bool.or_eq_true, Bool.or_eq_false_iff, decide_eq_true_eq, decide_eq_false_iff_not, bne_iff_ne, beq_iff_eq, beq_eq_false_iff_ne, bne_eq_false_iff_eq, ne_eq, Int.not_lt, Int.not_le, Decidable.not_not] at hq)) <;> (try (have hr := hg; simp only [decide_eq_true_eq, decide_eq_false_iff_not] at hr)) <;> (try (exfalso; omega))) | ((first | refine aw_hide fun K hK => aw_region ?_ | refine ago_if (by omega) ?_ | skip); simp (disch := first | exact okY | omega) only [ZU, Nat.reduceMul, Nat.reduceAdd, dI, AOpRun, aexec, Nat.reduceBEq, ↓eget_h, isSh, ↓reduceIte, abin, hr, decide_false, fits]) | subst hK))
        refine ⟨s + 1, ⟨by omega, fun t ht => ?_⟩, by omega, ?_⟩
        · rcases (by omega : t < s ∨ t = s) with h | rfl
          · exact hus t h
          · exact huk
        · refine wk_q [] [(0, 0)] ?_ ?_ <;> repeat' (first | exact trivial | exact vr_val _ | exact vr_list _ | exact vr_ptr _ _ _ rfl | refine And.intro ⟨_, rfl, .inl ⟨_, rfl, by decide, ?_⟩⟩ ?_ | apply And.intro)
      have g1 := cF k hk2
      have hf := hF k hk2
      have iac := in_sub_ac hf s
      by_cases hi : inSub (fAt l k) s
      case neg =>
        rw [inB_f hi] at iac
        have eu := usd_no s l k hi
        (have hg : (987654321 : Nat) - 987654321 = 0 := rfl; have hr := hg; repeat' (first | (with_reducible first | refine thenQ_n ?_ | refine blockQ_n ?_ | refine thenQ_e ?_ | refine blockQ_t ?_ | refine blockQ_f (by decide) ?_) | apply aw_seq | apply aw_skip | apply aw_exit | apply aw_ret | apply aw_block | apply aw_condT rfl | apply aw_condF rfl | (refine aw_cond rfl (fun hg => ?_) (fun hg => ?_) <;> (try (have hq := hg; simp only [Bool.not_eq_true', Bool.not_eq_false', Bool.and_eq_true, Bool.and_eq_false_iff, Bool.or_eq_true, Bool.or_eq_false_iff, decide_eq_true_eq, decide_eq_false_iff_not, bne_iff_ne, beq_iff_eq, beq_eq_false_iff_ne, bne_eq_false_iff_eq, ne_eq, Int.not_lt, Int.not_le, Decidable.not_not] at hq)) <;> (try (have hr := hg; simp only [decide_eq_true_eq, decide_eq_false_iff_not] at hr)) <;> (try (exfalso; omega))) | ((first | refine aw_hide fun K hK => aw_region ?_ | refine acall0 (iac) ?_ | refine ago_if (by omega) ?_ | skip); simp (disch := first | exact okY | omega) only [ZU, Nat.mul_one, Nat.reduceAdd, dI, AOpRun, aexec, Nat.reduceBEq, ↓eget_h, isSh, ↓reduceIte, abin, Nat.reduceMul, hr, fls_all, opt1, g1, flC, dB, Nat.reduceLeDiff, List.take, ↓hget_h, D.isBot, D.cells, List.all, D.leaf, splice, List.drop, fillD, ne_eq, not_true_eq_false, Nat.reduceGT, or_self, fits]) | subst hK))
        refine ⟨k + 1, ⟨by omega, fun i hik j hj h3 h4 => ?_⟩, by omega, ?_⟩
        · rcases (by omega : i < k ∨ i = k) with h | rfl
          · exact huk i h j hj h3 h4
          · exact absurd h3 hi
        · rw [eu]
          refine wk_q [] [(0, 0), (200, 200)] ?_ ?_ <;> repeat' (first | exact trivial | exact vr_val _ | exact vr_list _ | exact vr_vec _ _ _ _ rfl | exact vr_ptr _ _ _ rfl | refine And.intro ⟨_, rfl, .inl ⟨_, rfl, by decide, ?_⟩⟩ ?_ | apply And.intro | exact vrl_flat _ (by first | exact icells_in _ | exact rcells_in _ | exact scells_in _ | exact bcells_in _ | assumption))
      rw [inB_t hi] at iac
      have mac := mask_ac hf
      have hw0 : 0 ≤ (fAt l k).word := by have := hf.w1; omega
      have hw1 : (fAt l k).word < (l.words.toNat : Int) := by have := hf.w2; omega
      have hwn : (fAt l k).word.toNat < l.words.toNat := by omega
      have hwi : (((fAt l k).word.toNat : Nat) : Int) = (fAt l k).word := by omega
      have lu := usd_len s l k
      have gu := ic_gd (usd s l k) (fAt l k).word.toNat (by omega)
      rw [usd_get s l k _ hwn, hwi] at gu
      have ts := ic_t (usd s l k) (fAt l k).word.toNat ((orM s l (fAt l k).word k ||| mskF (fAt l k) : Nat) : Int) (by omega)
      rw [← usd_in s l k hi hw0] at ts
      have ol := orM_lt s l (fAt l k).word hF k (by omega)
      have ml := mskF_lt hf
      have an := and_nat (orM s l (fAt l k).word k) (mskF (fAt l k)) (by omega) (by omega)
      have on := or_nat (orM s l (fAt l k).word k) (mskF (fAt l k)) (by omega) (by omega)
      have cf := orM_conf (s := s) hF hk2
      by_cases hz : orM s l (fAt l k).word k &&& mskF (fAt l k) = 0
      case neg =>
        have q : ((((orM s l (fAt l k).word k &&& mskF (fAt l k) : Nat) : Int)) != 0) = true := by simp only [bne_iff_ne]; omega
        have e : layE l 120 = 120 := layE_no fun h => hz (cf.2 fun j hj h4 => h.ov k hk2 j hj s hs4 hi h4)
        rw [e]
        (have hg : (987654321 : Nat) - 987654321 = 0 := rfl; have hr := hg; repeat' (first | (with_reducible first | refine thenQ_n ?_ | refine blockQ_n ?_ | refine thenQ_e ?_ | refine blockQ_t ?_ | refine blockQ_f (by decide) ?_) | apply aw_seq | apply aw_skip | apply aw_exit | apply aw_ret | apply aw_block | apply aw_condT rfl | apply aw_condF rfl | (refine aw_cond rfl (fun hg => ?_) (fun hg => ?_) <;> (try (have hq := hg; simp only [Bool.not_eq_true', Bool.not_eq_false', Bool.and_eq_true, Bool.and_eq_false_iff, Bool.or_eq_true, Bool.or_eq_false_iff, decide_eq_true_eq, decide_eq_false_iff_not, bne_iff_ne, beq_iff_eq, beq_eq_false_iff_ne, bne_eq_false_iff_eq, ne_eq, Int.not_lt, Int.not_le, Decidable.not_not] at hq)) <;> (try (have hr := hg; simp only [decide_eq_true_eq, decide_eq_false_iff_not] at hr)) <;> (try (exfalso; omega))) | ((first | refine aw_hide fun K hK => aw_region ?_ | refine acall0 (iac) ?_ | refine acall0 (mac) ?_ | refine ago_if (by omega) ?_ | skip); simp (disch := first | exact okY | omega) only [ZU, Nat.mul_one, Nat.reduceAdd, dI, AOpRun, aexec, Nat.reduceBEq, ↓eget_h, isSh, ↓reduceIte, abin, Nat.reduceMul, hr, fls_all, opt1, g1, flC, dB, Nat.reduceLeDiff, List.take, ↓hget_h, D.isBot, D.cells, List.all, D.leaf, splice, List.drop, fillD, ne_eq, not_true_eq_false, Nat.reduceGT, or_self, Nat.add_zero, run1, hw0, hw1, gu, an, q, blockQ]) | subst hK))
        all_goals (refine end_q [] [] ?_ ?_ <;> repeat' (first | exact trivial | exact vr_val _))
      have q : ((((orM s l (fAt l k).word k &&& mskF (fAt l k) : Nat) : Int)) != 0) = false := by rw [hz]; rfl
      have lc : (fAt l k).word.toNat + 1 ≤ (icells (usd s l k)).length := by rw [icells_len, lu]; omega
      (have hg : (987654321 : Nat) - 987654321 = 0 := rfl; have hr := hg; repeat' (first | (with_reducible first | refine thenQ_n ?_ | refine blockQ_n ?_ | refine thenQ_e ?_ | refine blockQ_t ?_ | refine blockQ_f (by decide) ?_) | apply aw_seq | apply aw_skip | apply aw_exit | apply aw_ret | apply aw_block | apply aw_condT rfl | apply aw_condF rfl | (refine aw_cond rfl (fun hg => ?_) (fun hg => ?_) <;> (try (have hq := hg; simp only [Bool.not_eq_true', Bool.not_eq_false', Bool.and_eq_true, Bool.and_eq_false_iff, Bool.or_eq_true, Bool.or_eq_false_iff, decide_eq_true_eq, decide_eq_false_iff_not, bne_iff_ne, beq_iff_eq, beq_eq_false_iff_ne, bne_eq_false_iff_eq, ne_eq, Int.not_lt, Int.not_le, Decidable.not_not] at hq)) <;> (try (have hr := hg; simp only [decide_eq_true_eq, decide_eq_false_iff_not] at hr)) <;> (try (exfalso; omega))) | ((first | refine aw_hide fun K hK => aw_region ?_ | refine acall0 (iac) ?_ | refine acall0 (mac) ?_ | refine ago_if (by omega) ?_ | skip); simp (disch := first | exact okY | omega) only [ZU, Nat.mul_one, Nat.reduceAdd, dI, AOpRun, aexec, Nat.reduceBEq, ↓eget_h, isSh, ↓reduceIte, abin, Nat.reduceMul, hr, fls_all, opt1, g1, flC, dB, Nat.reduceLeDiff, List.take, ↓hget_h, D.isBot, D.cells, List.all, D.leaf, splice, List.drop, fillD, ne_eq, not_true_eq_false, Nat.reduceGT, or_self, Nat.add_zero, run1, hw0, hw1, gu, an, q, on, lc, ts, fits]) | subst hK))
      refine ⟨k + 1, ⟨by omega, fun i hik j hj h3 h4 => ?_⟩, by omega, ?_⟩
      · rcases (by omega : i < k ∨ i = k) with h | rfl
        · exact huk i h j hj h3 h4
        · exact cf.1 hz j hj h4
      · refine wk_q [] [(0, 0), (200, 200)] ?_ ?_ <;> repeat' (first | exact trivial | exact vr_val _ | exact vr_list _ | exact vr_vec _ _ _ _ rfl | exact vr_ptr _ _ _ rfl | refine And.intro ⟨_, rfl, .inl ⟨_, rfl, by decide, ?_⟩⟩ ?_ | apply And.intro | exact vrl_flat _ (by first | exact icells_in _ | exact rcells_in _ | exact scells_in _ | exact bcells_in _ | assumption))
end Go.Proofs.YtdcodicoclecnaaDoor
/- States with fewer names. No conditions. -/
namespace Go.Proofs.YtdcodicoclecnaaDoor.Lift
open Go Go.RowKit

def EL (n : Nat) (env : Env) : Env → Prop
  | [] => True
  | x :: r => x.2 = eget env x.1 ∧ In (· < n) x.2 ∧ EL n env r
theorem EL.get {n : Nat} {env : Env} : ∀ {e : Env}, EL n env e → ∀ t, eget e t = .bot ∨ (eget e t = eget env t ∧ In (· < n) (eget e t))
  | [], _, t => .inl rfl
  | (k, d) :: r, h, t => by
    rw [get_cons]
    split
    · rename_i hk; subst hk; exact .inr ⟨h.1, h.2.1⟩
    · exact EL.get h.2.2 t
theorem wk_low {pre : List Nat} {s s' : St} (hpre : ∀ g ∈ pre, g < s'.nx) (hh : s'.hp = s.hp) (hE : EL s'.nx s.env s'.env) (hH : ∀ g c, hget s.hp g = some c → g < s'.nx ∧ ∀ d ∈ c, In (· < s'.nx) d) : Wk pre s s' := by
  rintro C a w rfl ⟨β, Z, h, hβ⟩
  obtain ⟨β', hb'⟩ : ∃ β' : Bet, β' = fun g => if g < s'.nx then β g else none := ⟨_, rfl⟩
  have eq : ∀ g, g < s'.nx → β' g = β g := fun g hg => by rw [hb']; exact if_pos hg
  have no : ∀ g, s'.nx ≤ g → β' g = none := fun g hg => by rw [hb']; exact if_neg (by omega)
  have back : ∀ g B, β' g = some B → β g = some B := fun g B hB => by
    by_cases hg : g < s'.nx
    · rw [← eq g hg]; exact hB
    · rw [no g (by omega)] at hB; cases hB
  have hHs : ∀ g c, s'.F.H g = some c → s.F.H g = some c := fun g c hc => by
    have h1 : hget s'.hp g = some c := hc
    rw [hh] at h1; exact h1
  refine ⟨β', Z, ⟨h.size, h.defers, fun t => ?_, fun g c hc => ?_, fun g g' c c' B hc hc' hb hb'' => h.inj g g' c c' B (hHs _ _ hc) (hHs _ _ hc') (back _ _ hb) (back _ _ hb''), h.fr, h.z0, h.old, fun g c B hc hB => h.orig g c B (hHs _ _ hc) (back _ _ hB), fun g hg B hB => ?_, h.zlt⟩, no⟩
  · show Rep w _ Z _ (eget s'.env t)
    rcases hE.get t with h1 | ⟨h1, h2⟩
    · rw [h1]; exact .bot _
    · rw [h1] at h2 ⊢
      exact (h.env t).rename h2 eq
  · obtain ⟨h1, h2⟩ := hH g c (hHs g c hc)
    rcases h.objs g c (hHs g c hc) with ⟨h3, h4⟩ | ⟨B, cs, e, hO⟩
    · exact .inl ⟨h3, by rw [eq g h1]; exact h4⟩
    · exact .inr ⟨B, cs, e, by rw [eq g h1]; exact hO.at_, hO.ours, hO.block, hO.fits, fun i hi => (hO.rep i hi).rename (h2 _ (List.getElem_mem hi)) eq⟩
  · have h1 := h.ext g hg B hB
    rw [eq g (hpre g hg)]; exact h1
theorem wk_up {pre : List Nat} {e : Env} {h : Hp} {n m : Nat} (hn : n ≤ m) : Wk pre ⟨e, h, n⟩ ⟨e, h, m⟩ := by
  rintro C a w rfl ⟨β, Z, hR, hβ⟩
  exact ⟨β, Z, hR, fun g hg => hβ g (Nat.le_trans hn hg)⟩
end Go.Proofs.YtdcodicoclecnaaDoor.Lift
namespace Go.Proofs.YtdcodicoclecnaaDoor
open Go.RowKit Lift

def subsK (l : Lay) (frs : List (List Int)) (k : Nat) : List Int := (List.range k).map fun i => subF l (frm frs i)
theorem subsK_len (l : Lay) (frs : List (List Int)) (k : Nat) : (subsK l frs k).length = k := by simp [subsK]
theorem subsK_succ (l : Lay) (frs : List (List Int)) (k : Nat) : subsK l frs (k + 1) = subsK l frs k ++ [subF l (frm frs k)] := by simp [subsK, List.range_succ]
theorem subsK_get (l : Lay) (frs : List (List Int)) (n k : Nat) (h : k < n) : (subsK l frs n)[k]?.getD 0 = subF l (frm frs k) := by simp [subsK, h]
def tpC (l : Lay) (frs : List (List Int)) : List D := [dI l.words, dI l.s0, dI l.s1, dI l.s2, dI l.s3, .list (fls l.fl), .list (rows frs), .list (ints (subsK l frs frs.length))]
theorem tpC_in (S : Nat → Prop) (l : Lay) (frs : List (List Int)) : ∀ d ∈ tpC l frs, In S d := by
  intro d hd; simp [tpC] at hd; rcases hd with rfl | rfl | rfl | rfl | rfl | rfl | rfl | rfl <;> first | exact .val _ | exact .list _
noncomputable def tpE (l : Lay) (frs : List (List Int)) : Int := if layE l 120 = 0 then (if frs.length > 200 then 2 else 0) else 120
theorem tpE_ok {l : Lay} {frs : List (List Int)} (h1 : LayOk l) (h2 : frs.length ≤ 200) : tpE l frs = 0 := by
  unfold tpE; rw [if_pos (layE_ok h1), if_neg (by omega)]
theorem tpE_many {l : Lay} {frs : List (List Int)} (h1 : LayOk l) (h2 : ¬ frs.length ≤ 200) : tpE l frs = 2 := by
  unfold tpE; rw [if_pos (layE_ok h1), if_pos (by omega)]
theorem tpE_no {l : Lay} {frs : List (List Int)} (h1 : ¬ LayOk l) : tpE l frs = 120 := by
  unfold tpE; rw [if_neg (by rw [layE_no h1]; omega)]
theorem tpE_cases (l : Lay) (frs : List (List Int)) : (tpE l frs = 0 ∧ LayOk l ∧ frs.length ≤ 200) ∨ (tpE l frs ≠ 0 ∧ (tpE l frs != 0) = true) := by
  by_cases h1 : LayOk l
  · by_cases h2 : frs.length ≤ 200
    · exact .inl ⟨tpE_ok h1 h2, h1, h2⟩
    · rw [tpE_many h1 h2]; exact .inr ⟨by omega, rfl⟩
  · rw [tpE_no h1]; exact .inr ⟨by omega, rfl⟩
theorem idx_sync (l : Lay) (x : Int) : idxI (sync l) x = idx4 l x := by
  unfold idx4
  by_cases h0 : x = l.s0
  · rw [if_pos h0]
    exact idx_at (l := sync l) (k := 0) (by simp [sync]) (fun j hj => by omega) (by simp [sync, h0])
  rw [if_neg h0]
  by_cases h1 : x = l.s1
  · rw [if_pos h1]
    exact idx_at (l := sync l) (k := 1) (by simp [sync]) (fun j hj => by obtain rfl : j = 0 := by omega
                                                                         simpa [sync] using fun h => h0 h.symm) (by simp [sync, h1])
  rw [if_neg h1]
  by_cases h2 : x = l.s2
  · rw [if_pos h2]
    exact idx_at (l := sync l) (k := 2) (by simp [sync]) (fun j hj => by
      rcases (by omega : j = 0 ∨ j = 1) with rfl | rfl
      · simpa [sync] using fun h => h0 h.symm
      · simpa [sync] using fun h => h1 h.symm) (by simp [sync, h2])
  rw [if_neg h2]
  by_cases h3 : x = l.s3
  · rw [if_pos h3]
    exact idx_at (l := sync l) (k := 3) (by simp [sync]) (fun j hj => by
      rcases (by omega : j = 0 ∨ j = 1 ∨ j = 2) with rfl | rfl | rfl
      · simpa [sync] using fun h => h0 h.symm
      · simpa [sync] using fun h => h1 h.symm
      · simpa [sync] using fun h => h2 h.symm) (by simp [sync, h3])
  rw [if_neg h3]
  refine idx_no fun j hj => ?_
  have : j < 4 := by simpa [sync] using hj
  rcases (by omega : j = 0 ∨ j = 1 ∨ j = 2 ∨ j = 3) with rfl | rfl | rfl | rfl
  · simpa [sync] using fun h => h0 h.symm
  · simpa [sync] using fun h => h1 h.symm
  · simpa [sync] using fun h => h2 h.symm
  · simpa [sync] using fun h => h3 h.symm
structure FrIn (frs : List (List Int)) : Prop where
  n : frs.length ≤ maxLen
  m : ∀ k, (frm frs k).length ≤ maxLen
end Go.Proofs.YtdcodicoclecnaaDoor
