/- Texts of the law RecordLivesCard, part 10. No conditions. -/
import Derived.Test.YtdcodicoclecnaaDoorPRecordLivesCard09
import Derived.Test.YtdcodicoclecnaaDoorRows
set_option linter.unusedSimpArgs false
set_option linter.unusedVariables false
/- The functions' bodies, translated. Written by a program; no conditions. -/
namespace Go.Proofs.YtdcodicoclecnaaDoor
open Go.RowKit Lift

def crecord_ascends : ACode :=
 (.seq
 (.region false [oo 4 (.mv (.const (.bool false)))] [])
 (.seq
 (.region false [oo 5 (.mv (kI (-1)))] [])
 (.seq
 (.seq
 (.region false [oo 8 (.mv (.tmp 0)),
 oo 9 (.len_ (.tmp 8)),
 oo 10 (.mv (kI 0))] [])
 (.block 0
 (.loop
 (.seq
 (.region false [oo 11 (.bin .lss (.tmp 10) (.tmp 9))] [])
 (.seq
 (.cond (.tmp 11)
 .skip
 (.exit 0))
 (.seq
 (.block 1
 (.seq
 (.region false [oo 12 (.iadS 1 (.tmp 8) (.tmp 10)),
 oo 13 (.load1 (.tmp 12)),
 oo 7 (.mv (.tmp 13))] [12,13])
 (.seq
 (.seq
 (.region false [oo 14 (.mv (.tmp 7)),
 oo 15 (.mv (.tmp 5)),
 oo 16 (.bin .leq (.tmp 14) (.tmp 15)),
 oo 17 (.mv (.tmp 16)),
 og 18 17 false (.mv (.tmp 7)) [],
 og 19 17 false (.mv (.tmp 1)) [],
 og 20 17 false (.bin .geq (.tmp 18) (.tmp 19)) [],
 oo 21 (.pick (.tmp 17) (.const (.bool true)) (.tmp 20))] [14,15,16,17,18,19,20])
 (.cond (.tmp 21)
 (.seq
 (.region false [oo 4 (.mv (.const (.bool false)))] [])
 .ret)
 .skip))
 (.region false [oo 22 (.mv (.tmp 7)),
 oo 5 (.mv (.tmp 22))] [22]))))
 (.region false [oo 23 (.bin .add (.tmp 10) (kI 1)),
 oo 10 (.mv (.tmp 23))] [23])))))))
 (.seq
 (.region false [oo 4 (.mv (.const (.bool true)))] [])
 .ret))))
set_option maxRecDepth 100000 in
theorem krecord_ascends : IsCode Tryd.prog 71 24 crecord_ascends [.tmp 4] :=
 ⟨Tryd.f71, _, [21,11,0,10,9,8,7,5,1,4], Tryd.func71, rfl, by decide, rfl, by kernel_rfl, by kernel_rfl⟩
def crecord_proof : ACode :=
 (.seq
 (.region false [oo 1 (.box (.tmp 0)),
 oo 2 (.mv (.const (.bool false)))] [])
 (.seq
 (.region false [oo 3 (.loadN 2 (.tmp 1)),
 oo 4 (.buildSl 2 1 [(.val (.int .i64 0)), (.val (.int .i64 0))] [(0,2, (.tmp 3))]),
 oo 5 (.call (.func 86) [(.tmp 4)]),
 oo 6 (.bin .eql (.tmp 5) (kI 0)),
 oo 7 (.mv (.tmp 6)),
 og 8 7 true (.fad 0 (.tmp 1)) [],
 og 9 7 true (.load1 (.tmp 8)) [],
 og 10 7 true (.bin .geq (.tmp 9) (kI 0)) [],
 oo 11 (.pick (.tmp 7) (.tmp 10) (.const (.bool false))),
 oo 12 (.mv (.tmp 11)),
 og 13 12 true (.fad 1 (.tmp 1)) [],
 og 14 12 true (.load1 (.tmp 13)) [],
 og 15 12 true (.bin .leq (.tmp 14) (kI 2000)) [],
 oo 16 (.pick (.tmp 12) (.tmp 15) (.const (.bool false))),
 oo 2 (.mv (.tmp 16))] [3,4,5,6,7,8,9,10,11,12,13,14,15,16])
 .ret))
set_option maxRecDepth 100000 in
theorem krecord_proof : IsCode Tryd.prog 74 17 crecord_proof [.tmp 2] :=
 ⟨Tryd.f74, _, [0,1,2], Tryd.func74, rfl, by decide, rfl, by kernel_rfl, by kernel_rfl⟩
def crecord_valid : ACode :=
 (.seq
 (.region false [oo 1 (.box (.tmp 0)),
 oo 2 (.mv (.const (.bool false)))] [])
 (.seq
 (.seq
 (.region false [oo 5 (.fad 0 (.tmp 1)),
 oo 6 (.load1 (.tmp 5)),
 oo 7 (.len_ (.tmp 6)),
 oo 8 (.bin .gtr (.tmp 7) (kI 16)),
 oo 9 (.mv (.tmp 8)),
 og 10 9 false (.fad 1 (.tmp 1)) [],
 og 11 9 false (.load1 (.tmp 10)) [],
 og 12 9 false (.len_ (.tmp 11)) [],
 og 13 9 false (.bin .gtr (.tmp 12) (kI 12)) [],
 oo 14 (.pick (.tmp 9) (.const (.bool true)) (.tmp 13))] [5,6,7,8,9,10,11,12,13])
 (.cond (.tmp 14)
 (.seq
 (.region false [oo 2 (.mv (.const (.bool false)))] [])
 .ret)
 .skip))
 (.seq
 (.seq
 (.region false [oo 15 (.fad 0 (.tmp 1)),
 oo 16 (.load1 (.tmp 15)),
 oo 17 (.len_ (.tmp 16)),
 oo 18 (.mv (kI 0))] [15])
 (.block 0
 (.loop
 (.seq
 (.region false [oo 19 (.bin .lss (.tmp 18) (.tmp 17))] [])
 (.seq
 (.cond (.tmp 19)
 .skip
 (.exit 0))
 (.seq
 (.block 1
 (.seq
 (.region false [oo 20 (.mv (.tmp 18)),
 oo 21 (.iadS 3 (.tmp 16) (.tmp 18)),
 oo 22 (.loadN 3 (.tmp 21)),
 oo 4 (.mem [(.val (.slice none 0 0)), (.val (.slice none 0 0)), (.val (.bool false))]),
 oo 3 (.mv (.tmp 20)),
 on (.store 3 (.tmp 4) (.tmp 22))] [20,21,22])
 (.seq
 (.region false [oo 23 (.fad 0 (.tmp 4)),
 oo 24 (.load1 (.tmp 23)),
 oo 25 (.mv (.tmp 3)),
 oo 26 (.call (.func 71) [(.tmp 24), (.tmp 25)]),
 oo 27 (.un .not (.tmp 26)),
 oo 28 (.mv (.tmp 27)),
 og 29 28 false (.fad 1 (.tmp 4)) [],
 og 30 28 false (.load1 (.tmp 29)) [],
 og 31 28 false (.fad 1 (.tmp 1)) [],
 og 32 28 false (.load1 (.tmp 31)) [],
 og 33 28 false (.len_ (.tmp 32)) [],
 og 34 28 false (.call (.func 71) [(.tmp 30), (.tmp 33)]) [],
 og 35 28 false (.un .not (.tmp 34)) [],
 oo 36 (.pick (.tmp 28) (.const (.bool true)) (.tmp 35))] [23,24,25,26,27,28,29,30,31,32,33,34,35])
 (.cond (.tmp 36)
 (.seq
 (.region false [oo 2 (.mv (.const (.bool false)))] [])
 .ret)
 .skip))))
 (.region false [oo 37 (.bin .add (.tmp 18) (kI 1)),
 oo 18 (.mv (.tmp 37))] [37])))))))
 (.seq
 (.region false [oo 38 (.fad 1 (.tmp 1)),
 oo 39 (.load1 (.tmp 38)),
 oo 40 (.call (.func 72) [(.tmp 39), (.func 73)]),
 oo 41 (.un .not (.tmp 40)),
 oo 2 (.mv (.tmp 41))] [38,39,40,41])
 .ret))))
set_option maxRecDepth 100000 in
theorem krecord_valid : IsCode Tryd.prog 43 42 crecord_valid [.tmp 2] :=
 ⟨Tryd.f43, _, [36,19,14,0,1,18,17,16,4,3,2], Tryd.func43, rfl, by decide, rfl, by kernel_rfl, by kernel_rfl⟩
def crecord_valid_S1 : ACode :=
 (.seq
 (.region false [oo 1 (.box (.tmp 0)),
 oo 2 (.mv (.const (.bool false)))] [])
 (.seq
 (.region false [oo 3 (.loadN 2 (.tmp 1)),
 oo 4 (.call (.func 74) [(.tmp 3)]),
 oo 5 (.un .not (.tmp 4)),
 oo 2 (.mv (.tmp 5))] [3,4,5])
 .ret))
set_option maxRecDepth 100000 in
theorem krecord_valid_S1 : IsCode Tryd.prog 73 6 crecord_valid_S1 [.tmp 2] :=
 ⟨Tryd.f73, _, [0,1,2], Tryd.func73, rfl, by decide, rfl, by kernel_rfl, by kernel_rfl⟩
def crecord_check : ACode :=
 (.seq
 (.region false [oo 3 (.box (.tmp 0)),
 oo 6 (.mv (kI 0))] [])
 (.seq
 (.block 0
 (.seq
 (.region false [oo 8 (.loadN 2 (.tmp 3)),
 oo 9 (.call (.func 43) [(.tmp 8)]),
 oo 10 (.un .not (.tmp 9)),
 oo 7 (.mv (.tmp 10))] [8,9,10])
 (.cond (.tmp 7)
 (.seq
 (.region false [oo 6 (.mv (kI 122))] [])
 .ret)
 (.seq
 (.seq
 (.region false [oo 12 (.mv (.tmp 1)),
 oo 13 (.fad 0 (.tmp 3)),
 oo 14 (.load1 (.tmp 13)),
 oo 15 (.len_ (.tmp 14)),
 oo 16 (.bin .sub (.tmp 15) (kI 1)),
 oo 17 (.call (.func 19) [(.tmp 12), (kI 0), (.tmp 16)]),
 oo 18 (.un .not (.tmp 17)),
 oo 11 (.mv (.tmp 18))] [12,13,14,15,16,17,18])
 (.cond (.tmp 11)
 .skip
 (.region false [oo 19 (.mv (.tmp 2)),
 oo 20 (.call (.func 19) [(.tmp 19), (kI 0), (kI 2000)]),
 oo 21 (.un .not (.tmp 20)),
 oo 11 (.mv (.tmp 21))] [19,20,21])))
 (.cond (.tmp 11)
 (.seq
 (.region false [oo 6 (.mv (kI 1))] [])
 .ret)
 .skip)))))
 (.seq
 (.region false [oo 6 (.mv (kI 0))] [])
 .ret)))
set_option maxRecDepth 100000 in
theorem krecord_check : IsCode Tryd.prog 26 22 crecord_check [.tmp 6] :=
 ⟨Tryd.f26, _, [11,7,0,3,1,2,6], Tryd.func26, rfl, by decide, rfl, by kernel_rfl, by kernel_rfl⟩
def crecord_proofs_has : ACode :=
 (.seq
 (.region false [oo 4 (.mv (.const (.bool false)))] [])
 (.seq
 (.region false [oo 5 (.mv (.tmp 0)),
 oo 6 (.mv (.tmp 1)),
 oo 7 (.bin .shr (.tmp 5) (.tmp 6)),
 oo 8 (.bin .and (.tmp 7) (kI 1)),
 oo 9 (.bin .eql (.tmp 8) (kI 1)),
 oo 4 (.mv (.tmp 9))] [5,6,7,8,9])
 .ret))
set_option maxRecDepth 100000 in
theorem krecord_proofs_has : IsCode Tryd.prog 46 10 crecord_proofs_has [.tmp 4] :=
 ⟨Tryd.f46, _, [0,1,4], Tryd.func46, rfl, by decide, rfl, by kernel_rfl, by kernel_rfl⟩
def crecord_proofs_with : ACode :=
 (.seq
 (.region false [oo 4 (.mv (kI 0))] [])
 (.seq
 (.region false [oo 5 (.mv (.tmp 0)),
 oo 6 (.mv (.tmp 1)),
 oo 7 (.bin .shl (kI 1) (.tmp 6)),
 oo 8 (.bin .or (.tmp 5) (.tmp 7)),
 oo 4 (.mv (.tmp 8))] [5,6,7,8])
 .ret))
set_option maxRecDepth 100000 in
theorem krecord_proofs_with : IsCode Tryd.prog 48 9 crecord_proofs_with [.tmp 4] :=
 ⟨Tryd.f48, _, [0,1,4], Tryd.func48, rfl, by decide, rfl, by kernel_rfl, by kernel_rfl⟩
def crecord_counting : ACode :=
 (.seq
 (.region false [oo 2 (.box (.tmp 0)),
 oo 4 (.mv (kI 0))] [])
 (.seq
 (.seq
 (.region false [oo 7 (.fad 1 (.tmp 2)),
 oo 8 (.load1 (.tmp 7)),
 oo 9 (.len_ (.tmp 8)),
 oo 10 (.mv (kI 0))] [7])
 (.block 0
 (.loop
 (.seq
 (.region false [oo 11 (.bin .lss (.tmp 10) (.tmp 9))] [])
 (.seq
 (.cond (.tmp 11)
 .skip
 (.exit 0))
 (.seq
 (.block 1
 (.seq
 (.region false [oo 12 (.mv (.tmp 10)),
 oo 13 (.iadS 2 (.tmp 8) (.tmp 10)),
 oo 14 (.loadN 2 (.tmp 13)),
 oo 6 (.mem [(.val (.int .i64 0)), (.val (.int .i64 0))]),
 oo 5 (.mv (.tmp 12)),
 on (.store 2 (.tmp 6) (.tmp 14))] [12,13,14])
 (.seq
 (.region false [oo 15 (.mv (.tmp 1)),
 oo 16 (.fad 0 (.tmp 6)),
 oo 17 (.load1 (.tmp 16)),
 oo 18 (.fad 1 (.tmp 6)),
 oo 19 (.load1 (.tmp 18)),
 oo 20 (.call (.func 19) [(.tmp 15), (.tmp 17), (.tmp 19)])] [15,16,17,18,19])
 (.cond (.tmp 20)
 (.region false [oo 21 (.mv (.tmp 4)),
 oo 22 (.mv (.tmp 5)),
 oo 23 (.call (.func 48) [(.tmp 21), (.tmp 22)]),
 oo 4 (.mv (.tmp 23))] [21,22,23])
 .skip))))
 (.region false [oo 24 (.bin .add (.tmp 10) (kI 1)),
 oo 10 (.mv (.tmp 24))] [24])))))))
 (.seq
 (.region false [oo 25 (.mv (.tmp 4)),
 oo 4 (.mv (.tmp 25))] [25])
 .ret)))
set_option maxRecDepth 100000 in
theorem krecord_counting : IsCode Tryd.prog 28 26 crecord_counting [.tmp 4] :=
 ⟨Tryd.f28, _, [20,11,0,2,10,9,8,1,6,4,5], Tryd.func28, rfl, by decide, rfl, by kernel_rfl, by kernel_rfl⟩
def crecord_holds : ACode :=
 (.seq
 (.region false [oo 3 (.box (.tmp 0)),
 oo 6 (.mv (.const (.bool false)))] [])
 (.seq
 (.region false [oo 11 (.mv (.tmp 1)),
 oo 12 (.bin .add (.tmp 11) (kI 1)),
 oo 13 (.mksl 1 1 [(.val (.bool false))] (.tmp 12) (.tmp 12)),
 oo 7 (.mem [(.val (.slice none 0 0))]),
 on (.store 1 (.tmp 7) (.tmp 13))] [11,12,13])
 (.seq
 (.seq
 (.region false [oo 14 (.fad 0 (.tmp 3)),
 oo 15 (.load1 (.tmp 14)),
 oo 16 (.mv (.tmp 1)),
 oo 17 (.bin .add (.tmp 16) (kI 1)),
 oo 18 (.slS 3 (.tmp 15) none (some (.tmp 17))),
 oo 19 (.len_ (.tmp 18)),
 oo 20 (.mv (kI 0))] [14,15,16,17])
 (.block 0
 (.loop
 (.seq
 (.region false [oo 21 (.bin .lss (.tmp 20) (.tmp 19))] [])
 (.seq
 (.cond (.tmp 21)
 .skip
 (.exit 0))
 (.seq
 (.block 1
 (.seq
 (.region false [oo 22 (.mv (.tmp 20)),
 oo 23 (.iadS 3 (.tmp 18) (.tmp 20)),
 oo 24 (.loadN 3 (.tmp 23)),
 oo 9 (.mem [(.val (.slice none 0 0)), (.val (.slice none 0 0)), (.val (.bool false))]),
 oo 8 (.mv (.tmp 22)),
 on (.store 3 (.tmp 9) (.tmp 24))] [22,23,24])
 (.seq
 (.region true [oo 25 (.fad 0 (.tmp 9)),
 oa 26 (.load1 (.tmp 25)) [0],
 oo 27 (.mkfn 45 [] [(.tmp 7)]),
 oa 28 (.call (.func 44) [(.tmp 26), (.tmp 27)]) [1,0,2],
 oo 29 (.fad 1 (.tmp 9)),
 oa 30 (.load1 (.tmp 29)) [4],
 oo 31 (.mv (.tmp 2)),
 oa 32 (.mkfn 46 [(.tmp 31)] []) [6],
 oa 33 (.call (.func 44) [(.tmp 30), (.tmp 32)]) [5,4,7,6,3,1,0,2],
 oa 34 (.app 1 1 (.tmp 28) (.tmp 33)) [3,1,0,2,8,5,4,7,6],
 oa 10 (.mv (.tmp 34)) [9,3,1,0,2,8,5,4,7,6]] [25,26,27,28,29,30,31,32,33,34])
 (.seq
 (.region false [oo 35 (.fad 2 (.tmp 9)),
 oo 36 (.load1 (.tmp 35))] [35])
 (.cond (.tmp 36)
 (.region true [oo 37 (.load1 (.tmp 7)),
 oo 38 (.mv (.tmp 8)),
 oo 39 (.mv (.tmp 10)),
 oa 40 (.call (.func 47) [(.tmp 39), (.const (.bool true))]) [2],
 oa 41 (.iadS 1 (.tmp 37) (.tmp 38)) [0,1,2,3],
 ⟨none, .store 1 (.tmp 41) (.tmp 40), none, [4,0,1,2,3]⟩] [37,38,39,40,41])
 (.region true [oo 42 (.load1 (.tmp 7)),
 oo 43 (.mv (.tmp 8)),
 oo 44 (.mv (.tmp 10)),
 oa 45 (.call (.func 47) [(.tmp 44), (.const (.bool false))]) [2],
 oa 46 (.un .not (.tmp 45)) [3,2],
 oa 47 (.iadS 1 (.tmp 42) (.tmp 43)) [0,1,2,3,4],
 ⟨none, .store 1 (.tmp 47) (.tmp 46), none, [5,0,1,2,3,4]⟩] [42,43,44,45,46,47]))))))
 (.region false [oo 48 (.bin .add (.tmp 20) (kI 1)),
 oo 20 (.mv (.tmp 48))] [48])))))))
 (.seq
 (.region false [oo 49 (.load1 (.tmp 7)),
 oo 50 (.mv (.tmp 1)),
 oo 51 (.iadS 1 (.tmp 49) (.tmp 50)),
 oo 52 (.load1 (.tmp 51)),
 oo 6 (.mv (.tmp 52))] [49,50,51,52])
 .ret))))
set_option maxRecDepth 100000 in
theorem krecord_holds : IsCode Tryd.prog 27 53 crecord_holds [.tmp 6] :=
 ⟨Tryd.f27, _, [36,21,0,1,3,20,19,18,9,7,2,8,10,6], Tryd.func27, rfl, by decide, rfl, by kernel_rfl, by kernel_rfl⟩
def crecord_holds_S1 : ACode :=
 (.seq
 (.region false [oo 3 (.mv (.const (.bool false)))] [])
 (.seq
 (.region false [oo 4 (.load1 (.tmp 1)),
 oo 5 (.mv (.tmp 0)),
 oo 6 (.iadS 1 (.tmp 4) (.tmp 5)),
 oo 7 (.load1 (.tmp 6)),
 oo 3 (.mv (.tmp 7))] [4,5,6,7])
 .ret))
set_option maxRecDepth 100000 in
theorem krecord_holds_S1 : IsCode Tryd.prog 45 8 crecord_holds_S1 [.tmp 3] :=
 ⟨Tryd.f45, _, [1,0,3], Tryd.func45, rfl, by decide, rfl, by kernel_rfl, by kernel_rfl⟩
def crecord_pick : ACode :=
 (.seq
 (.region false [oo 4 (.mv (.const (.slice none 0 0)))] [])
 (.seq
 (.seq
 (.region false [oo 7 (.mv (.tmp 0)),
 oo 8 (.len_ (.tmp 7)),
 oo 9 (.mv (kI 0))] [])
 (.block 0
 (.loop
 (.seq
 (.region false [oo 10 (.bin .lss (.tmp 9) (.tmp 8))] [])
 (.seq
 (.cond (.tmp 10)
 .skip
 (.exit 0))
 (.seq
 (.block 1
 (.seq
 (.region false [oo 11 (.iadS 1 (.tmp 7) (.tmp 9)),
 oo 12 (.load1 (.tmp 11)),
 oo 6 (.mv (.tmp 12))] [11,12])
 (.region false [oo 13 (.mv (.tmp 4)),
 oo 14 (.mv (.tmp 1)),
 oo 15 (.mv (.tmp 6)),
 oo 16 (.call (.tmp 14) [(.tmp 15)]),
 oo 17 (.buildSl 1 1 [(.val (.bool false))] [(0,1, (.tmp 16))]),
 oo 18 (.app 1 1 (.tmp 13) (.tmp 17)),
 oo 4 (.mv (.tmp 18))] [13,14,15,16,17,18])))
 (.region false [oo 19 (.bin .add (.tmp 9) (kI 1)),
 oo 9 (.mv (.tmp 19))] [19])))))))
 (.seq
 (.region false [oo 20 (.mv (.tmp 4)),
 oo 4 (.mv (.tmp 20))] [20])
 .ret)))
set_option maxRecDepth 100000 in
theorem krecord_pick : IsCode Tryd.prog 44 21 crecord_pick [.tmp 4] :=
 ⟨Tryd.f44, _, [10,0,9,8,7,4,1,6], Tryd.func44, rfl, by decide, rfl, by kernel_rfl, by kernel_rfl⟩
def crecord_Until : ACode :=
 (.seq
 (.region false [oo 3 (.box (.tmp 0)),
 oo 6 (.mv (kI 0)),
 oo 7 (.mv (kI 0))] [])
 (.seq
 (.seq
 (.region false [oo 10 (.loadN 2 (.tmp 3)),
 oo 11 (.mv (.tmp 1)),
 oo 12 (.mv (.tmp 2)),
 oo 13 (.call (.func 26) [(.tmp 10), (.tmp 11), (.tmp 12)]),
 oo 8 (.mv (.tmp 13))] [10,11,12,13])
 (.seq
 (.region false [oo 14 (.mv (.tmp 8)),
 oo 15 (.bin .neq (.tmp 14) (kI 0))] [14])
 (.cond (.tmp 15)
 (.seq
 (.region false [oo 16 (.mv (.tmp 8)),
 oo 6 (.mv (kI 0)),
 oo 7 (.mv (.tmp 16))] [16])
 .ret)
 .skip)))
 (.seq
 (.region false [oo 17 (.mv (.tmp 2)),
 oo 9 (.mv (.tmp 17))] [17])
 (.seq
 (.block 0
 (.loop
 (.seq
 (.seq
 (.region true [oo 18 (.mv (.tmp 9)),
 oa 19 (.bin .leq (.tmp 18) (kI 2000)) [0],
 oa 20 (.mv (.tmp 19)) [1,0],
 og 21 20 true (.loadN 2 (.tmp 3)) [2,1,0],
 og 22 20 true (.mv (.tmp 1)) [2,1,0],
 og 23 20 true (.loadN 2 (.tmp 3)) [2,1,0],
 og 24 20 true (.mv (.tmp 9)) [2,1,0],
 og 25 20 true (.call (.func 28) [(.tmp 23), (.tmp 24)]) [5,2,1,0,6],
 og 26 20 true (.call (.func 27) [(.tmp 21), (.tmp 22), (.tmp 25)]) [3,2,1,0,4,7,5,6],
 oa 27 (.pick (.tmp 20) (.tmp 26) (.const (.bool false))) [2,1,0,8,3,4,7,5,6]] [18,19,20,21,22,23,24,25,26])
 (.cond (.tmp 27)
 .skip
 (.exit 0)))
 (.block 1
 (.region false [oo 28 (.mv (.tmp 9)),
 oo 29 (.bin .add (.tmp 28) (kI 1)),
 oo 9 (.mv (.tmp 29))] [28,29])))))
 (.seq
 (.seq
 (.region false [oo 30 (.mv (.tmp 9)),
 oo 31 (.mv (.tmp 2)),
 oo 32 (.bin .eql (.tmp 30) (.tmp 31))] [30,31])
 (.cond (.tmp 32)
 (.seq
 (.region false [oo 6 (.mv (kI 0)),
 oo 7 (.mv (kI 3))] [])
 .ret)
 .skip))
 (.seq
 (.region false [oo 33 (.mv (.tmp 9)),
 oo 34 (.bin .sub (.tmp 33) (kI 1)),
 oo 6 (.mv (.tmp 34)),
 oo 7 (.mv (kI 0))] [33,34])
 .ret))))))
set_option maxRecDepth 100000 in
theorem krecord_Until : IsCode Tryd.prog 15 35 crecord_Until [.tmp 6, .tmp 7] :=
 ⟨Tryd.f15, _, [32,27,15,0,3,1,2,8,9,6,7], Tryd.func15, rfl, by decide, rfl, by kernel_rfl, by kernel_rfl⟩
def cslices_Contains_L_L_Jbool_Kbool_J : ACode :=
 (.seq
 (.region false [oo 4 (.mv (.const (.bool false)))] [])
 (.seq
 (.region false [oo 5 (.mv (.tmp 0)),
 oo 6 (.mv (.tmp 1)),
 oo 7 (.call (.func 75) [(.tmp 5), (.tmp 6)]),
 oo 8 (.bin .geq (.tmp 7) (kI 0)),
 oo 4 (.mv (.tmp 8))] [5,6,7,8])
 .ret))
set_option maxRecDepth 100000 in
theorem kslices_Contains_L_L_Jbool_Kbool_J : IsCode Tryd.prog 47 9 cslices_Contains_L_L_Jbool_Kbool_J [.tmp 4] :=
 ⟨Tryd.f47, _, [0,1,4], Tryd.func47, rfl, by decide, rfl, by kernel_rfl, by kernel_rfl⟩
def cslices_Index_L_L_Jbool_Kbool_J : ACode :=
 (.seq
 (.region false [oo 4 (.mv (kI 0))] [])
 (.seq
 (.seq
 (.region false [oo 6 (.mv (.tmp 0)),
 oo 7 (.len_ (.tmp 6)),
 oo 8 (.mv (kI 0))] [6])
 (.block 0
 (.loop
 (.seq
 (.region false [oo 9 (.bin .lss (.tmp 8) (.tmp 7))] [])
 (.seq
 (.cond (.tmp 9)
 .skip
 (.exit 0))
 (.seq
 (.block 1
 (.seq
 (.region false [oo 10 (.mv (.tmp 8)),
 oo 5 (.mv (.tmp 10))] [10])
 (.seq
 (.region false [oo 11 (.mv (.tmp 1)),
 oo 12 (.mv (.tmp 0)),
 oo 13 (.mv (.tmp 5)),
 oo 14 (.iadS 1 (.tmp 12) (.tmp 13)),
 oo 15 (.load1 (.tmp 14)),
 oo 16 (.eqb false (.tmp 11) (.tmp 15))] [11,12,13,14,15])
 (.cond (.tmp 16)
 (.seq
 (.region false [oo 17 (.mv (.tmp 5)),
 oo 4 (.mv (.tmp 17))] [17])
 .ret)
 .skip))))
 (.region false [oo 18 (.bin .add (.tmp 8) (kI 1)),
 oo 8 (.mv (.tmp 18))] [18])))))))
 (.seq
 (.region false [oo 4 (.mv (kI (-1)))] [])
 .ret)))
set_option maxRecDepth 100000 in
theorem kslices_Index_L_L_Jbool_Kbool_J : IsCode Tryd.prog 75 19 cslices_Index_L_L_Jbool_Kbool_J [.tmp 4] :=
 ⟨Tryd.f75, _, [16,9,0,8,7,1,5,4], Tryd.func75, rfl, by decide, rfl, by kernel_rfl, by kernel_rfl⟩
def claw12_works : ACode :=
 (.seq
 (.region false [oo 0 (.mv (.const (.bool false)))] [])
 (.seq
 (.region false [oo 10 (.call (.func 13) []),
 oo 9 (.mv (.tmp 10)),
 oo 11 (.ext (.tmp 9) 0),
 oo 12 (.ext (.tmp 9) 1),
 oo 13 (.ext (.tmp 9) 2),
 oo 1 (.mem [(.val (.int .i64 0)), (.val (.int .i64 0)), (.val (.int .i64 0)), (.val (.int .i64 0)), (.val (.int .i64 0)), (.val (.slice none 0 0))]),
 oo 3 (.mem [(.val (.slice none 0 0)), (.val (.slice none 0 0))]),
 on (.store 6 (.tmp 1) (.tmp 11)),
 oo 2 (.mv (.tmp 12)),
 on (.store 2 (.tmp 3) (.tmp 13))] [10,9,11,12,13])
 (.seq
 (.region false [oo 15 (.loadN 6 (.tmp 1)),
 oo 16 (.mv (.tmp 2)),
 oo 17 (.call (.func 14) [(.tmp 15), (.tmp 16), (kI 0)]),
 oo 14 (.mv (.tmp 17)),
 oo 18 (.ext (.tmp 14) 0),
 oo 19 (.ext (.tmp 14) 1),
 oo 20 (.ext (.tmp 14) 2),
 oo 4 (.mv (.tmp 18)),
 oo 5 (.mv (.tmp 19)),
 oo 6 (.mv (.tmp 20))] [15,16,17,14,18,19,20])
 (.seq
 (.region false [oo 22 (.loadN 2 (.tmp 3)),
 oo 23 (.call (.func 15) [(.tmp 22), (kI 1), (kI 5)]),
 oo 21 (.mv (.tmp 23)),
 oo 24 (.ext (.tmp 21) 0),
 oo 25 (.ext (.tmp 21) 1),
 oo 7 (.mv (.tmp 24)),
 oo 8 (.mv (.tmp 25))] [22,23,21,24,25])
 (.seq
 (.region false [oo 26 (.mv (.tmp 6)),
 oo 27 (.bin .eql (.tmp 26) (kI 0)),
 oo 28 (.mv (.tmp 27)),
 og 29 28 true (.mv (.tmp 8)) [],
 og 30 28 true (.bin .eql (.tmp 29) (kI 0)) [],
 oo 31 (.pick (.tmp 28) (.tmp 30) (.const (.bool false))),
 oo 32 (.mv (.tmp 31)),
 og 33 32 true (.mv (.tmp 4)) [],
 og 34 32 true (.bin .eql (.tmp 33) (kI 2)) [],
 oo 35 (.pick (.tmp 32) (.tmp 34) (.const (.bool false))),
 oo 36 (.mv (.tmp 35)),
 og 37 36 true (.mv (.tmp 5)) [],
 og 38 36 true (.bin .eql (.tmp 37) (kI 26)) [],
 oo 39 (.pick (.tmp 36) (.tmp 38) (.const (.bool false))),
 oo 40 (.mv (.tmp 39)),
 og 41 40 true (.mv (.tmp 7)) [],
 og 42 40 true (.bin .eql (.tmp 41) (kI 30)) [],
 oo 43 (.pick (.tmp 40) (.tmp 42) (.const (.bool false))),
 oo 0 (.mv (.tmp 43))] [26,27,28,29,30,31,32,33,34,35,36,37,38,39,40,41,42,43])
 .ret)))))
set_option maxRecDepth 100000 in
theorem klaw12_works : IsCode Tryd.prog 6 44 claw12_works [.tmp 0] :=
 ⟨Tryd.f6, _, [1,2,3,6,8,4,5,7,0], Tryd.func6, rfl, by decide, rfl, by kernel_rfl, by kernel_rfl⟩
def claw12_Example : ACode :=
 (.seq
 (.region false [oo 0 (.mem [(.val (.int .i64 0)), (.val (.int .i64 0)), (.val (.int .i64 0)), (.val (.int .i64 0)), (.val (.int .i64 0)), (.val (.slice none 0 0))]),
 oo 1 (.mv (.const (.slice none 0 0))),
 oo 2 (.mem [(.val (.slice none 0 0)), (.val (.slice none 0 0))])] [])
 (.seq
 (.region false [oo 5 (.build [(.val (.int .i64 0)), (.val (.int .i64 0)), (.val (.int .i64 0)), (.val (.int .i64 0))] [(0,1, (kI 100)), (1,1, (kI 200)), (2,1, (kI 300)), (3,1, (kI 400))]),
 oo 6 (.build [(.val (.int .i64 0)), (.val (.int .i64 0)), (.val (.int .i64 0)), (.val (.bool false)), (.val (.int .i64 0)), (.val (.int .i64 0)), (.val (.int .i64 0)), (.val (.int .i64 0)), (.val (.int .i64 0))] [(0,1, (kI 1)), (2,1, (kI 8)), (3,1, (.const (.bool true))), (4,1, (kI 1)), (5,1, (kI 2)), (6,1, (kI 10)), (7,1, (kI 1))]),
 oo 7 (.build [(.val (.int .i64 0)), (.val (.int .i64 0)), (.val (.int .i64 0)), (.val (.bool false)), (.val (.int .i64 0)), (.val (.int .i64 0)), (.val (.int .i64 0)), (.val (.int .i64 0)), (.val (.int .i64 0))] [(0,1, (kI 2)), (1,1, (kI 4)), (2,1, (kI 3)), (4,1, (kI 5)), (5,1, (kI 1)), (7,1, (kI 2)), (8,1, (kI 1))]),
 oo 8 (.build [(.val (.int .i64 0)), (.val (.int .i64 0)), (.val (.int .i64 0)), (.val (.bool false)), (.val (.int .i64 0)), (.val (.int .i64 0)), (.val (.int .i64 0)), (.val (.int .i64 0)), (.val (.int .i64 0))] [(0,1, (kI 3)), (2,1, (kI 1)), (4,1, (kI 1)), (5,1, (kI 1)), (7,1, (kI 1))]),
 oo 9 (.buildSl 9 3 [(.val (.int .i64 0)), (.val (.int .i64 0)), (.val (.int .i64 0)), (.val (.bool false)), (.val (.int .i64 0)), (.val (.int .i64 0)), (.val (.int .i64 0)), (.val (.int .i64 0)), (.val (.int .i64 0)), (.val (.int .i64 0)), (.val (.int .i64 0)), (.val (.int .i64 0)), (.val (.bool false)), (.val (.int .i64 0)), (.val (.int .i64 0)), (.val (.int .i64 0)), (.val (.int .i64 0)), (.val (.int .i64 0)), (.val (.int .i64 0)), (.val (.int .i64 0)), (.val (.int .i64 0)), (.val (.bool false)), (.val (.int .i64 0)), (.val (.int .i64 0)), (.val (.int .i64 0)), (.val (.int .i64 0)), (.val (.int .i64 0))] [(0,9, (.tmp 6)), (9,9, (.tmp 7)), (18,9, (.tmp 8))]),
 oo 10 (.build [(.val (.int .i64 0)), (.val (.int .i64 0)), (.val (.int .i64 0)), (.val (.int .i64 0)), (.val (.int .i64 0)), (.val (.slice none 0 0))] [(0,1, (kI 4)), (1,4, (.tmp 5)), (5,1, (.tmp 9))]),
 oo 3 (.mem [(.val (.int .i64 0)), (.val (.int .i64 0)), (.val (.int .i64 0)), (.val (.int .i64 0)), (.val (.int .i64 0)), (.val (.slice none 0 0))]),
 on (.store 6 (.tmp 3) (.tmp 10))] [5,6,7,8,9,10])
 (.seq
 (.region false [oo 11 (.buildSl 1 2 [(.val (.int .i64 0)), (.val (.int .i64 0))] [(0,1, (kI 0)), (1,1, (kI 1))]),
 oo 12 (.build [(.val (.slice none 0 0)), (.val (.slice none 0 0)), (.val (.bool false))] [(1,1, (.tmp 11))]),
 oo 13 (.buildSl 1 1 [(.val (.int .i64 0))] [(0,1, (kI 0))]),
 oo 14 (.buildSl 1 1 [(.val (.int .i64 0))] [(0,1, (kI 2))]),
 oo 15 (.build [(.val (.slice none 0 0)), (.val (.slice none 0 0)), (.val (.bool false))] [(0,1, (.tmp 13)), (1,1, (.tmp 14)), (2,1, (.const (.bool true)))]),
 oo 16 (.buildSl 1 2 [(.val (.int .i64 0)), (.val (.int .i64 0))] [(0,1, (kI 0)), (1,1, (kI 1))]),
 oo 17 (.build [(.val (.slice none 0 0)), (.val (.slice none 0 0)), (.val (.bool false))] [(0,1, (.tmp 16))]),
 oo 18 (.buildSl 3 3 [(.val (.slice none 0 0)), (.val (.slice none 0 0)), (.val (.bool false)), (.val (.slice none 0 0)), (.val (.slice none 0 0)), (.val (.bool false)), (.val (.slice none 0 0)), (.val (.slice none 0 0)), (.val (.bool false))] [(0,3, (.tmp 12)), (3,3, (.tmp 15)), (6,3, (.tmp 17))]),
 oo 19 (.build [(.val (.int .i64 0)), (.val (.int .i64 0))] [(1,1, (kI 10))]),
 oo 20 (.build [(.val (.int .i64 0)), (.val (.int .i64 0))] [(0,1, (kI 5)), (1,1, (kI 20))]),
 oo 21 (.build [(.val (.int .i64 0)), (.val (.int .i64 0))] [(0,1, (kI 8)), (1,1, (kI 30))]),
 oo 22 (.buildSl 2 3 [(.val (.int .i64 0)), (.val (.int .i64 0)), (.val (.int .i64 0)), (.val (.int .i64 0)), (.val (.int .i64 0)), (.val (.int .i64 0))] [(0,2, (.tmp 19)), (2,2, (.tmp 20)), (4,2, (.tmp 21))]),
 oo 23 (.build [(.val (.slice none 0 0)), (.val (.slice none 0 0))] [(0,1, (.tmp 18)), (1,1, (.tmp 22))]),
 oo 4 (.mem [(.val (.slice none 0 0)), (.val (.slice none 0 0))]),
 on (.store 2 (.tmp 4) (.tmp 23))] [11,12,13,14,15,16,17,18,19,20,21,22,23])
 (.seq
 (.region true [oo 24 (.loadN 6 (.tmp 3)),
 oo 25 (.buildSl 1 4 [(.val (.int .i64 0)), (.val (.int .i64 0)), (.val (.int .i64 0)), (.val (.int .i64 0))] [(0,1, (kI 100)), (1,1, (kI 4)), (2,1, (kI 0)), (3,1, (kI 0))]),
 oo 26 (.buildSl 1 4 [(.val (.int .i64 0)), (.val (.int .i64 0)), (.val (.int .i64 0)), (.val (.int .i64 0))] [(0,1, (kI 200)), (1,1, (kI 254)), (2,1, (kI 48)), (3,1, (kI 1))]),
 oo 27 (.buildSl 1 4 [(.val (.int .i64 0)), (.val (.int .i64 0)), (.val (.int .i64 0)), (.val (.int .i64 0))] [(0,1, (kI 300)), (1,1, (kI 6)), (2,1, (kI 0)), (3,1, (kI 0))]),
 oa 28 (.buildSl 1 3 [(.val (.slice none 0 0)), (.val (.slice none 0 0)), (.val (.slice none 0 0))] [(0,1, (.tmp 25)), (1,1, (.tmp 26)), (2,1, (.tmp 27))]) [1,2,3],
 oo 29 (.loadN 2 (.tmp 4)),
 ⟨none, .store 6 (.tmp 0) (.tmp 24), none, [0]⟩,
 oa 1 (.mv (.tmp 28)) [4,1,2,3,6,0],
 ⟨none, .store 2 (.tmp 2) (.tmp 29), none, [5,7,4,1,2,3,6,0]⟩] [24,25,26,27,28,29])
 .ret))))
set_option maxRecDepth 100000 in
theorem klaw12_Example : IsCode Tryd.prog 13 30 claw12_Example [.cellN 0 6, .tmp 1, .cellN 2 2] :=
 ⟨Tryd.f13, _, [3,4,0,2,1], Tryd.func13, rfl, by decide, rfl, by kernel_rfl, by kernel_rfl⟩
end Go.Proofs.YtdcodicoclecnaaDoor
/- record: what a case must be. No conditions. -/
namespace Go.Proofs.YtdcodicoclecnaaDoor
open Go Go.RowKit Lift

theorem in_sp (S : Nat → Prop) (a b : Int) : In S (.agg [dI a, dI b]) := .agg _ (by intro d hd; simp at hd; rcases hd with rfl | rfl <;> exact .val _)
set_option maxRecDepth 100000 in
set_option maxHeartbeats 1000000 in
theorem swithin_ac (n a b : Int) : AC Tryd.prog 91 [dI n, dI a, dI b] [] [] (dB (wI n a b)) := by
  refine kspans_within.ac (n0 := 0) (by simp) ⟨.val _, .val _, .val _, trivial⟩ trivial rfl ?_
  unfold cspans_within wI
  cases q1 : decide (a ≤ n) <;> cases q2 : decide (n ≤ b)
  all_goals
    (repeat' (first | apply aw_seq | ((first | apply aw_skip | apply aw_exit); try simp only [thenQ, blockQ, if_true, if_false, Nat.reduceEqDiff, reduceCtorEq]) | apply aw_ret | apply aw_block | apply aw_condT rfl | apply aw_condF rfl | ((first | refine aw_region ?_ | refine ago_if (by omega) ?_ | skip); simp (disch := first | exact okY | omega) only [ZU, dB, Bool.and_false, Nat.reduceMul, dI, Nat.reduceAdd, AOpRun, aexec, Nat.reduceBEq, ↓eget_h, isSh, ↓reduceIte, abin, ge_iff_le, q1, ARun_some, AG_ft, AG_tt, q2])))
    all_goals (refine end_q [] [] ?_ ?_ <;> repeat' (first | exact trivial | exact vr_val _))
def spVB (x : Int × Int) : Bool := wI x.1 (-1000000) x.2 && decide (x.2 ≤ 1000000)
set_option maxRecDepth 100000 in
set_option maxHeartbeats 1000000 in
theorem svalid_ac (x : Int × Int) : AC Tryd.prog 94 [.agg [dI x.1, dI x.2]] [] [] (dB (spVB x)) := by
  refine kspans_valid.ac (n0 := 0) (by simp) ⟨in_sp _ _ _, trivial⟩ trivial rfl ?_
  unfold cspans_valid spVB
  cases q1 : wI x.1 (-1000000) x.2 <;> cases q2 : decide (x.2 ≤ 1000000)
  all_goals
    have cw := swithin_ac x.1 (-1000000) x.2
    rw [q1] at cw
    (repeat' (first | apply aw_seq | ((first | apply aw_skip | apply aw_exit); try simp only [thenQ, blockQ, if_true, if_false, Nat.reduceEqDiff, reduceCtorEq]) | apply aw_ret | apply aw_block | apply aw_condT rfl | apply aw_condF rfl | ((first | refine aw_region ?_ | refine acall0 (cw) ?_ | refine ago_if (by omega) ?_ | skip); simp (disch := first | exact okY | omega) only [ZU, Int.reduceNeg, dB, Bool.and_false, Nat.reduceAdd, Nat.reduceMul, dI, AOpRun, aexec, D.isBot, ↓eget_h, or_self, ↓reduceIte, D.cells, Nat.reduceBEq, run1, ARun_some, AG_ft, AG_tt, isSh, abin, q2])))
    all_goals (refine end_q [] [] ?_ ?_ <;> repeat' (first | exact trivial | exact vr_val _))
set_option maxRecDepth 100000 in
set_option maxHeartbeats 1000000 in
theorem sspan1_ac (x : Int × Int) : AC Tryd.prog 93 [.agg [dI x.1, dI x.2]] [] [] (dB (!spVB x)) := by
  refine kspans_spanned_S1.ac (n0 := 0) (by simp) ⟨in_sp _ _ _, trivial⟩ trivial rfl ?_
  unfold cspans_spanned_S1
  (repeat' (first | apply aw_seq | ((first | apply aw_skip | apply aw_exit); try simp only [thenQ, blockQ, if_true, if_false, Nat.reduceEqDiff, reduceCtorEq]) | apply aw_ret | apply aw_block | apply aw_condT rfl | apply aw_condF rfl | ((first | refine aw_region ?_ | refine acall0 (svalid_ac x) ?_ | refine ago_if (by omega) ?_ | skip); simp (disch := first | exact okY | omega) only [ZU, dB, Nat.reduceAdd, Nat.reduceMul, dI, AOpRun, aexec, D.isBot, ↓eget_h, or_self, ↓reduceIte, D.cells, Nat.reduceBEq, Nat.reduceLeDiff, List.drop, List.take])))
  all_goals (refine end_q [] [] ?_ ?_ <;> repeat' (first | exact trivial | exact vr_val _))
theorem sp_at (l : List (Int × Int)) (k : Nat) (h : k < l.length) : (sps l)[k]? = some [dI (l[k]?.getD (0, 0)).1, dI (l[k]?.getD (0, 0)).2] := by simp [sps, h, dI]
set_option maxRecDepth 100000 in
set_option maxHeartbeats 1000000 in
theorem ifsp_ac (F : FuncId) (p : Int × Int → Bool) (hF : ∀ x : Int × Int, AC Tryd.prog F [.agg [dI x.1, dI x.2]] [] [] (dB (p x))) (l : List (Int × Int)) (hl : l.length ≤ 1000000) : AC Tryd.prog 85 [.list (sps l), .fn F [] []] [] [] (dI (match l.findIdx? p with
    | some k => (k : Int)
    | none => -1)) := by
  refine kslices_IndexFunc_L_L_Japi_Span_Kapi_Span_J.ac (n0 := 0) (by simp) ⟨.list _, .fn _ _ _ (by simp) (by simp), trivial⟩ trivial rfl ?_
  unfold cslices_IndexFunc_L_L_Japi_Span_Kapi_Span_J
  (repeat' (first | apply aw_seq | ((first | apply aw_skip | apply aw_exit); try simp only [thenQ, blockQ, if_true, if_false, Nat.reduceEqDiff, reduceCtorEq]) | apply aw_ret | apply aw_block | apply aw_condT rfl | apply aw_condF rfl | ((first | refine aw_region ?_ | refine ago_if (by omega) ?_ | skip); simp (disch := first | exact okY | omega) only [ZU, Int.reduceNeg, dI, Nat.reduceMul, AOpRun, aexec, Nat.reduceBEq, Nat.reduceAdd, ↓eget_h, sps_len])))
  refine aw_loop (fun k : Nat => ⟨[(0, .list (sps l)), (1, .fn F [] []), (7, dI l.length), (8, dI k)], [], 400⟩) (fun k => k ≤ l.length ∧ ∀ j, j < k → p (l[j]?.getD (0, 0)) = false) (fun k => l.length - k) ⟨0, ⟨by omega, fun j hj => by omega⟩, ?_⟩ ?_
  · refine wk_q [] [] ?_ ?_ <;> repeat' (first | exact trivial | exact vr_val _ | exact vr_list _ | apply vr_fn | apply And.intro)
  rintro k ⟨hk, hin⟩
  by_cases hk2 : k < l.length
  · have g1 := sp_at l k hk2
    have hc := hF (l[k]?.getD (0, 0))
    cases he : p (l[k]?.getD (0, 0)) with
    | true =>
      have q : l.findIdx? p = some k := by
        rw [List.findIdx?_eq_some_iff_getElem]
        refine ⟨hk2, by have := he; simp [hk2] at this; simp [this], fun j hj => ?_⟩
        have := hin j hj
        simpa [show j < l.length by omega] using this
      rw [q]
      rw [he] at hc
      (have hg : (987654321 : Nat) - 987654321 = 0 := rfl; have hr := hg; repeat' (first | apply aw_seq | ((first | apply aw_skip | apply aw_exit); try simp only [thenQ, blockQ, if_true, if_false, Nat.reduceEqDiff, reduceCtorEq]) | apply aw_ret | apply aw_block | apply aw_condT rfl | apply aw_condF rfl | (refine aw_cond rfl (fun hg => ?_) (fun hg => ?_) <;> (try (have hq := hg; simp only [Bool.not_eq_true', Bool.not_eq_false', Bool.and_eq_true, Bool.and_eq_false_iff, Bool.or_eq_true, Bool.or_eq_false_iff, decide_eq_true_eq, decide_eq_false_iff_not, bne_iff_ne, beq_iff_eq, beq_eq_false_iff_ne, bne_eq_false_iff_eq, ne_eq, Int.not_lt, Int.not_le, Decidable.not_not] at hq)) <;> (try (have hr := hg; simp only [decide_eq_true_eq, decide_eq_false_iff_not] at hr)) <;> (try (exfalso; omega))) | ((first | refine aw_region ?_ | refine acall0 (hc) ?_ | refine ago_if (by omega) ?_ | skip); simp (disch := first | exact okY | omega) only [ZU, dI, Int.reduceNeg, Nat.reduceMul, Nat.reduceAdd, AOpRun, aexec, Nat.reduceBEq, ↓eget_h, isSh, ↓reduceIte, abin, hr, sps_all, opt1, g1, Nat.reduceLeDiff, List.take, dB, blockQ])))
      all_goals (refine end_q [] [] ?_ ?_ <;> repeat' (first | exact trivial | exact vr_val _))
    | false =>
      rw [he] at hc
      (have hg : (987654321 : Nat) - 987654321 = 0 := rfl; have hr := hg; repeat' (first | apply aw_seq | ((first | apply aw_skip | apply aw_exit); try simp only [thenQ, blockQ, if_true, if_false, Nat.reduceEqDiff, reduceCtorEq]) | apply aw_ret | apply aw_block | apply aw_condT rfl | apply aw_condF rfl | (refine aw_cond rfl (fun hg => ?_) (fun hg => ?_) <;> (try (have hq := hg; simp only [Bool.not_eq_true', Bool.not_eq_false', Bool.and_eq_true, Bool.and_eq_false_iff, Bool.or_eq_true, Bool.or_eq_false_iff, decide_eq_true_eq, decide_eq_false_iff_not, bne_iff_ne, beq_iff_eq, beq_eq_false_iff_ne, bne_eq_false_iff_eq, ne_eq, Int.not_lt, Int.not_le, Decidable.not_not] at hq)) <;> (try (have hr := hg; simp only [decide_eq_true_eq, decide_eq_false_iff_not] at hr)) <;> (try (exfalso; omega))) | ((first | refine aw_region ?_ | refine acall0 (hc) ?_ | refine ago_if (by omega) ?_ | skip); simp (disch := first | exact okY | omega) only [ZU, dI, Int.reduceNeg, Nat.reduceMul, Nat.reduceAdd, AOpRun, aexec, Nat.reduceBEq, ↓eget_h, isSh, ↓reduceIte, abin, hr, sps_all, opt1, g1, Nat.reduceLeDiff, List.take, dB, fits])))
      refine ⟨k + 1, ⟨by omega, fun j hj => ?_⟩, by omega, by refine wk_q [] [] ?_ ?_ <;> repeat' (first | exact trivial | exact vr_val _ | exact vr_list _ | apply vr_fn | apply And.intro)⟩
      rcases (by omega : j < k ∨ j = k) with h | rfl
      · exact hin j h
      · exact he
  · obtain rfl : k = l.length := by omega
    have q : l.findIdx? p = none := by
      rw [List.findIdx?_eq_none_iff]
      intro y hy
      obtain ⟨j, hj, rfl⟩ := List.getElem_of_mem hy
      have := hin j hj
      simp [hj] at this
      simp [this]
    rw [q]
    (have hg : (987654321 : Nat) - 987654321 = 0 := rfl; have hr := hg; repeat' (first | apply aw_seq | ((first | apply aw_skip | apply aw_exit); try simp only [thenQ, blockQ, if_true, if_false, Nat.reduceEqDiff, reduceCtorEq]) | apply aw_ret | apply aw_block | apply aw_condT rfl | apply aw_condF rfl | (refine aw_cond rfl (fun hg => ?_) (fun hg => ?_) <;> (try (have hq := hg; simp only [Bool.not_eq_true', Bool.not_eq_false', Bool.and_eq_true, Bool.and_eq_false_iff, Bool.or_eq_true, Bool.or_eq_false_iff, decide_eq_true_eq, decide_eq_false_iff_not, bne_iff_ne, beq_iff_eq, beq_eq_false_iff_ne, bne_eq_false_iff_eq, ne_eq, Int.not_lt, Int.not_le, Decidable.not_not] at hq)) <;> (try (have hr := hg; simp only [decide_eq_true_eq, decide_eq_false_iff_not] at hr)) <;> (try (exfalso; omega))) | ((first | refine aw_region ?_ | refine ago_if (by omega) ?_ | skip); simp (disch := first | exact okY | omega) only [ZU, dI, Int.reduceNeg, Nat.reduceMul, Nat.reduceAdd, AOpRun, aexec, Nat.reduceBEq, ↓eget_h, isSh, ↓reduceIte, abin, hr, decide_false])))
    all_goals (refine end_q [] [] ?_ ?_ <;> repeat' (first | exact trivial | exact vr_val _))
set_option maxRecDepth 100000 in
set_option maxHeartbeats 1000000 in
theorem cfsp_ac (F : FuncId) (p : Int × Int → Bool) (hF : ∀ x : Int × Int, AC Tryd.prog F [.agg [dI x.1, dI x.2]] [] [] (dB (p x))) (l : List (Int × Int)) (hl : l.length ≤ 1000000) : AC Tryd.prog 72 [.list (sps l), .fn F [] []] [] [] (dB (l.any p)) := by
  refine kslices_ContainsFunc_L_L_Japi_Span_Kapi_Span_J.ac (n0 := 0) (by simp) ⟨.list _, .fn _ _ _ (by simp) (by simp), trivial⟩ trivial rfl ?_
  unfold cslices_ContainsFunc_L_L_Japi_Span_Kapi_Span_J
  have hf := ifsp_ac F p hF l hl
  cases h : l.findIdx? p with
  | none =>
    have ha : l.any p = false := by
      rw [List.findIdx?_eq_none_iff] at h
      exact List.any_eq_false.2 fun x hx => by simp [h x hx]
    rw [h] at hf
    rw [ha]
    (repeat' (first | apply aw_seq | ((first | apply aw_skip | apply aw_exit); try simp only [thenQ, blockQ, if_true, if_false, Nat.reduceEqDiff, reduceCtorEq]) | apply aw_ret | apply aw_block | apply aw_condT rfl | apply aw_condF rfl | ((first | refine aw_region ?_ | refine acall0 (hf) ?_ | refine ago_if (by omega) ?_ | skip); simp (disch := first | exact okY | omega) only [ZU, dB, Nat.reduceMul, AOpRun, aexec, Nat.reduceBEq, Nat.reduceAdd, ↓eget_h, dI, Int.reduceNeg, isSh, ↓reduceIte, abin])))
    all_goals (refine end_q [] [] ?_ ?_ <;> repeat' (first | exact trivial | exact vr_val _))
  | some k =>
    have ha : l.any p = true := by
      rw [List.findIdx?_eq_some_iff_getElem] at h
      obtain ⟨hk, he, _⟩ := h
      exact List.any_eq_true.2 ⟨l[k], List.getElem_mem hk, he⟩
    rw [h] at hf
    rw [ha]
    have q : decide ((k : Int) ≥ 0) = true := decide_eq_true (by omega)
    (repeat' (first | apply aw_seq | ((first | apply aw_skip | apply aw_exit); try simp only [thenQ, blockQ, if_true, if_false, Nat.reduceEqDiff, reduceCtorEq]) | apply aw_ret | apply aw_block | apply aw_condT rfl | apply aw_condF rfl | ((first | refine aw_region ?_ | refine acall0 (hf) ?_ | refine ago_if (by omega) ?_ | skip); simp (disch := first | exact okY | omega) only [ZU, dB, Nat.reduceMul, AOpRun, aexec, Nat.reduceBEq, Nat.reduceAdd, ↓eget_h, dI, isSh, ↓reduceIte, abin])))
    all_goals (refine end_q [] [] ?_ ?_ <;> repeat' (first | exact trivial | exact vr_val _))
set_option maxRecDepth 100000 in
set_option maxHeartbeats 1000000 in
theorem scheck_ac (x : Int × Int) : AC Tryd.prog 86 [.list (sps [x])] [] [] (dI (if spVB x = true then 0 else 10)) := by
  have h1 : AC Tryd.prog 92 [.list (sps [x])] [] [] (dI (if spVB x = true then 0 else 10)) := by
    refine kspans_spanned.ac (n0 := 0) (by simp) ⟨.list _, trivial⟩ trivial rfl ?_
    unfold cspans_spanned
    have hc := cfsp_ac 93 (fun x => !spVB x) sspan1_ac [x] (by simp)
    cases h : spVB x with
    | true =>
      rw [show ([x].any fun x => !spVB x) = false by simp [h]] at hc
      rw [if_pos rfl]
      (repeat' (first | apply aw_seq | ((first | apply aw_skip | apply aw_exit); try simp only [thenQ, blockQ, if_true, if_false, Nat.reduceEqDiff, reduceCtorEq]) | apply aw_ret | apply aw_block | apply aw_condT rfl | apply aw_condF rfl | ((first | refine aw_region ?_ | refine acall0 (hc) ?_ | refine ago_if (by omega) ?_ | skip); simp (disch := first | exact okY | omega) only [ZU, dI, Nat.reduceMul, AOpRun, aexec, Nat.reduceBEq, Nat.reduceAdd, ↓eget_h, dB])))
      all_goals (refine end_q [] [] ?_ ?_ <;> repeat' (first | exact trivial | exact vr_val _))
    | false =>
      rw [show ([x].any fun x => !spVB x) = true by simp [h]] at hc
      rw [if_neg (by simp)]
      (repeat' (first | apply aw_seq | ((first | apply aw_skip | apply aw_exit); try simp only [thenQ, blockQ, if_true, if_false, Nat.reduceEqDiff, reduceCtorEq]) | apply aw_ret | apply aw_block | apply aw_condT rfl | apply aw_condF rfl | ((first | refine aw_region ?_ | refine acall0 (hc) ?_ | refine ago_if (by omega) ?_ | skip); simp (disch := first | exact okY | omega) only [ZU, dI, Nat.reduceMul, AOpRun, aexec, Nat.reduceBEq, Nat.reduceAdd, ↓eget_h, dB])))
      all_goals (refine end_q [] [] ?_ ?_ <;> repeat' (first | exact trivial | exact vr_val _))
  refine kspans_Check.ac (n0 := 0) (by simp) ⟨.list _, trivial⟩ trivial rfl ?_
  unfold cspans_Check
  have cw : AC Tryd.prog 91 [dI 1, dI 1, dI 3] [] [] (dB true) := swithin_ac 1 1 3
  generalize (if spVB x = true then (0 : Int) else 10) = E at *
  (repeat' (first | apply aw_seq | ((first | apply aw_skip | apply aw_exit); try simp only [thenQ, blockQ, if_true, if_false, Nat.reduceEqDiff, reduceCtorEq]) | apply aw_ret | apply aw_block | apply aw_condT rfl | apply aw_condF rfl | ((first | refine aw_region ?_ | refine acall0 (cw) ?_ | refine acall0 (h1) ?_ | refine ago_if (by omega) ?_ | skip); simp (disch := first | exact okY | omega) only [ZU, dI, Nat.reduceMul, AOpRun, aexec, Nat.reduceBEq, Nat.reduceAdd, ↓eget_h, sps_len, cast_lit, dB])))
  all_goals (refine end_q [] [] ?_ ?_ <;> repeat' (first | exact trivial | exact vr_val _))
theorem spv_iff (x : Int × Int) : pfOk x ↔ (spVB x = true ∧ 0 ≤ x.1 ∧ x.2 ≤ 2000) := by
  unfold pfOk spVB wI
  simp only [Bool.and_eq_true, decide_eq_true_eq]
  omega
set_option maxRecDepth 100000 in
set_option maxHeartbeats 1000000 in
theorem proof_ac (x : Int × Int) : AC Tryd.prog 74 [.agg [dI x.1, dI x.2]] [] [] (dB (decide (pfOk x))) := by
  refine krecord_proof.ac (n0 := 0) (by simp) ⟨in_sp _ _ _, trivial⟩ trivial rfl ?_
  unfold crecord_proof
  have hs := scheck_ac x
  have hp : decide (pfOk x) = (spVB x && (decide (0 ≤ x.1) && decide (x.2 ≤ 2000))) := by
    rw [← Bool.decide_and]
    cases h : spVB x with
    | true => simp only [Bool.true_and]; exact decide_eq_decide.2 (by rw [spv_iff]; simp [h])
    | false => rw [Bool.false_and]; exact decide_eq_false (by rw [spv_iff]; simp [h])
  rw [hp]
  cases h : spVB x with
  | true =>
    rw [h, if_pos rfl] at hs
    cases q1 : decide (0 ≤ x.1) <;> cases q2 : decide (x.2 ≤ 2000)
    all_goals
      refine aw_seq (aw_region ?_)
      simp (disch := first | exact okY | omega) only [ZU, dB, Bool.and_false, Nat.reduceAdd, Nat.reduceMul, dI, AOpRun, aexec, D.isBot, ↓eget_h, or_self, ↓reduceIte, D.cells, Nat.reduceBEq]
      refine aw_seq (aw_region ?_)
      simp (disch := first | exact okY | omega) only [ZU, Nat.reduceAdd, Nat.reduceMul, AOpRun, aexec, Nat.reduceBEq, ↓eget_h, Nat.reduceLeDiff, ↓reduceIte, List.drop, List.take, fillD, D.isBot, D.cells, ne_eq, not_true_eq_false, Nat.reduceGT, or_self, splice]
      refine acall hs [24] ⟨.vec 24 1 2 (scells [x]) (sps [x]) (by simp) rfl (Nat.le_of_ble_eq_true rfl) (sps_two _) rfl rfl (scells_in _), trivial⟩ (.inr (.val _)) (by intro g hg; simp at hg; subst hg; exact ⟨_, rfl⟩) (by kernel_rfl) ?_
      simp (disch := first | exact okY | omega) only [ZU, Nat.reduceAdd, dI, Nat.reduceBEq, AOpRun, aexec, ↓eget_h, isSh, ↓reduceIte, abin, ARun_some, AG_tt, run1, ge_iff_le, q1, AG_ft, q2]
      (repeat' (first | apply aw_seq | ((first | apply aw_skip | apply aw_exit); try simp only [thenQ, blockQ, if_true, if_false, Nat.reduceEqDiff, reduceCtorEq]) | apply aw_ret | apply aw_block | apply aw_condT rfl | apply aw_condF rfl | ((first | refine aw_region ?_ | refine ago_if (by omega) ?_ | skip); fail)))
      all_goals (refine end_q [] [] ?_ ?_ <;> repeat' (first | exact trivial | exact vr_val _))
  | false =>
    rw [h, if_neg (by simp)] at hs
    refine aw_seq (aw_region ?_)
    simp (disch := first | exact okY | omega) only [ZU, dB, Bool.false_and, Nat.reduceAdd, Nat.reduceMul, dI, AOpRun, aexec, D.isBot, ↓eget_h, or_self, ↓reduceIte, D.cells, Nat.reduceBEq]
    refine aw_seq (aw_region ?_)
    simp (disch := first | exact okY | omega) only [ZU, Nat.reduceAdd, Nat.reduceMul, AOpRun, aexec, Nat.reduceBEq, ↓eget_h, Nat.reduceLeDiff, ↓reduceIte, List.drop, List.take, fillD, D.isBot, D.cells, ne_eq, not_true_eq_false, Nat.reduceGT, or_self, splice]
    refine acall hs [24] ⟨.vec 24 1 2 (scells [x]) (sps [x]) (by simp) rfl (Nat.le_of_ble_eq_true rfl) (sps_two _) rfl rfl (scells_in _), trivial⟩ (.inr (.val _)) (by intro g hg; simp at hg; subst hg; exact ⟨_, rfl⟩) (by kernel_rfl) ?_
    simp (disch := first | exact okY | omega) only [ZU, Nat.reduceAdd, dI, Nat.reduceBEq, AOpRun, aexec, ↓eget_h, isSh, ↓reduceIte, abin, Int.reduceBEq, ARun_some, AG_ft]
    (repeat' (first | apply aw_seq | ((first | apply aw_skip | apply aw_exit); try simp only [thenQ, blockQ, if_true, if_false, Nat.reduceEqDiff, reduceCtorEq]) | apply aw_ret | apply aw_block | apply aw_condT rfl | apply aw_condF rfl | ((first | refine aw_region ?_ | refine ago_if (by omega) ?_ | skip); fail)))
    all_goals (refine end_q [] [] ?_ ?_ <;> repeat' (first | exact trivial | exact vr_val _))
set_option maxRecDepth 100000 in
set_option maxHeartbeats 1000000 in
theorem valid1_ac (x : Int × Int) : AC Tryd.prog 73 [.agg [dI x.1, dI x.2]] [] [] (dB (!decide (pfOk x))) := by
  refine krecord_valid_S1.ac (n0 := 0) (by simp) ⟨in_sp _ _ _, trivial⟩ trivial rfl ?_
  unfold crecord_valid_S1
  (repeat' (first | apply aw_seq | ((first | apply aw_skip | apply aw_exit); try simp only [thenQ, blockQ, if_true, if_false, Nat.reduceEqDiff, reduceCtorEq]) | apply aw_ret | apply aw_block | apply aw_condT rfl | apply aw_condF rfl | ((first | refine aw_region ?_ | refine acall0 (proof_ac x) ?_ | refine ago_if (by omega) ?_ | skip); simp (disch := first | exact okY | omega) only [ZU, dB, Nat.reduceAdd, Nat.reduceMul, dI, AOpRun, aexec, D.isBot, ↓eget_h, or_self, ↓reduceIte, D.cells, Nat.reduceBEq, Nat.reduceLeDiff, List.drop, List.take])))
  all_goals (refine end_q [] [] ?_ ?_ <;> repeat' (first | exact trivial | exact vr_val _))
end Go.Proofs.YtdcodicoclecnaaDoor
/- record: what a case must be, in all. No conditions. -/
namespace Go.Proofs.YtdcodicoclecnaaDoor
open Go Go.RowKit Lift

instance (l : List Int) (b : Int) : Decidable (Asc l b) := inferInstanceAs (Decidable (∀ i, i < l.length → _))
def AscK (l : List Int) (b : Int) (k : Nat) : Prop := ∀ i, i < k → 0 ≤ l[i]?.getD 0 ∧ l[i]?.getD 0 < b ∧ (0 < i → l[i - 1]?.getD 0 < l[i]?.getD 0)
def lastA (l : List Int) (k : Nat) : Int := if k = 0 then -1 else l[k - 1]?.getD 0
theorem asc_no {l : List Int} {b : Int} {k : Nat} (hk : k < l.length) (hp : AscK l b k) (h : ¬ (lastA l k < l[k]?.getD 0 ∧ l[k]?.getD 0 < b)) : ¬ Asc l b := fun ha => by
  obtain ⟨h1, h2, h3⟩ := ha k hk
  refine h ⟨?_, h2⟩
  unfold lastA
  split
  · omega
  · exact h3 (by omega)
theorem asc_yes {l : List Int} {b : Int} {k : Nat} (hp : AscK l b k) (h1 : lastA l k < l[k]?.getD 0) (h2 : l[k]?.getD 0 < b) : AscK l b (k + 1) := fun i hi => by
  rcases (by omega : i < k ∨ i = k) with h | rfl
  · exact hp i h
  · refine ⟨?_, h2, fun h0 => ?_⟩
    · unfold lastA at h1
      split at h1
      · omega
      · have := (hp (i - 1) (by omega)).1; omega
    · unfold lastA at h1
      rw [if_neg (by omega)] at h1
      exact h1
set_option maxHeartbeats 2000000 in
theorem ascends_ac (l : List Int) (b : Int) (hl : l.length ≤ 1000000) : AC Tryd.prog 71 [.list (ints l), dI b] [] [] (dB (decide (Asc l b))) := by
  refine krecord_ascends.ac (n0 := 0) (by simp) ⟨.list _, .val _, trivial⟩ trivial rfl ?_
  unfold crecord_ascends
  (repeat' (first | apply aw_seq | ((first | apply aw_skip | apply aw_exit); try simp only [thenQ, blockQ, if_true, if_false, Nat.reduceEqDiff, reduceCtorEq]) | apply aw_ret | apply aw_block | apply aw_condT rfl | apply aw_condF rfl | ((first | refine aw_region ?_ | refine ago_if (by omega) ?_ | skip); simp (disch := first | exact okY | omega) only [ZU, Int.reduceNeg, dB, Nat.reduceMul, dI, AOpRun, aexec, Nat.reduceBEq, Nat.reduceAdd, ↓eget_h, ints_len])))
  refine aw_loop (fun k : Nat => ⟨[(1, dI b), (5, dI (lastA l k)), (8, .list (ints l)), (9, dI l.length), (10, dI k)], [], 400⟩) (fun k => k ≤ l.length ∧ AscK l b k) (fun k => l.length - k) ⟨0, ⟨by omega, fun i hi => by omega⟩, ?_⟩ ?_
  · refine wk_q [] [] ?_ ?_ <;> repeat' (first | exact trivial | exact vr_val _ | exact vr_list _ | apply And.intro)
  rintro k ⟨hk, hp⟩
  by_cases hk2 : k < l.length
  case neg =>
    obtain rfl : k = l.length := by omega
    rw [decide_eq_true (show Asc l b from hp)]
    (have hg : (987654321 : Nat) - 987654321 = 0 := rfl; have hr := hg; repeat' (first | apply aw_seq | ((first | apply aw_skip | apply aw_exit); try simp only [thenQ, blockQ, if_true, if_false, Nat.reduceEqDiff, reduceCtorEq]) | apply aw_ret | apply aw_block | apply aw_condT rfl | apply aw_condF rfl | (refine aw_cond rfl (fun hg => ?_) (fun hg => ?_) <;> (try (have hq := hg; simp only [Bool.not_eq_true', Bool.not_eq_false', Bool.and_eq_true, Bool.and_eq_false_iff, Bool.or_eq_true, Bool.or_eq_false_iff, decide_eq_true_eq, decide_eq_false_iff_not, bne_iff_ne, beq_iff_eq, beq_eq_false_iff_ne, bne_eq_false_iff_eq, ne_eq, Int.not_lt, Int.not_le, Decidable.not_not] at hq)) <;> (try (have hr := hg; simp only [decide_eq_true_eq, decide_eq_false_iff_not] at hr)) <;> (try (exfalso; omega))) | ((first | refine aw_region ?_ | refine ago_if (by omega) ?_ | skip); simp (disch := first | exact okY | omega) only [ZU, dI, Nat.reduceMul, Nat.reduceAdd, AOpRun, aexec, Nat.reduceBEq, ↓eget_h, isSh, ↓reduceIte, abin, hr, decide_false])))
    all_goals (refine end_q [] [] ?_ ?_ <;> repeat' (first | exact trivial | exact vr_val _))
  have g1 := ints_gd l k hk2
  have e1 : lastA l (k + 1) = l[k]?.getD 0 := by unfold lastA; rw [if_neg (by omega)]; rfl
  have hno := asc_no hk2 hp
  have hyes := asc_yes hp
  rw [← e1] at hno hyes g1
  generalize lastA l (k + 1) = x at *
  generalize lastA l k = y at *
  cases q1 : decide (x ≤ y) with
  | true =>
    rw [decide_eq_false (hno fun h => by have := of_decide_eq_true q1; omega)]
    (have hg : (987654321 : Nat) - 987654321 = 0 := rfl; have hr := hg; repeat' (first | apply aw_seq | ((first | apply aw_skip | apply aw_exit); try simp only [thenQ, blockQ, if_true, if_false, Nat.reduceEqDiff, reduceCtorEq]) | apply aw_ret | apply aw_block | apply aw_condT rfl | apply aw_condF rfl | (refine aw_cond rfl (fun hg => ?_) (fun hg => ?_) <;> (try (have hq := hg; simp only [Bool.not_eq_true', Bool.not_eq_false', Bool.and_eq_true, Bool.and_eq_false_iff, Bool.or_eq_true, Bool.or_eq_false_iff, decide_eq_true_eq, decide_eq_false_iff_not, bne_iff_ne, beq_iff_eq, beq_eq_false_iff_ne, bne_eq_false_iff_eq, ne_eq, Int.not_lt, Int.not_le, Decidable.not_not] at hq)) <;> (try (have hr := hg; simp only [decide_eq_true_eq, decide_eq_false_iff_not] at hr)) <;> (try (exfalso; omega))) | ((first | refine aw_region ?_ | refine ago_if (by omega) ?_ | skip); simp (disch := first | exact okY | omega) only [ZU, dI, Nat.reduceMul, Nat.reduceAdd, AOpRun, aexec, Nat.reduceBEq, ↓eget_h, isSh, ↓reduceIte, abin, hr, ints_all, opt1, g1, run1, q1, ARun_some, AG_tf, blockQ])))
    all_goals (refine end_q [] [] ?_ ?_ <;> repeat' (first | exact trivial | exact vr_val _))
  | false =>
    have n1 := of_decide_eq_false q1
    cases q2 : decide (x ≥ b) with
    | true =>
      rw [decide_eq_false (hno fun h => by have := of_decide_eq_true q2; omega)]
      (have hg : (987654321 : Nat) - 987654321 = 0 := rfl; have hr := hg; repeat' (first | apply aw_seq | ((first | apply aw_skip | apply aw_exit); try simp only [thenQ, blockQ, if_true, if_false, Nat.reduceEqDiff, reduceCtorEq]) | apply aw_ret | apply aw_block | apply aw_condT rfl | apply aw_condF rfl | (refine aw_cond rfl (fun hg => ?_) (fun hg => ?_) <;> (try (have hq := hg; simp only [Bool.not_eq_true', Bool.not_eq_false', Bool.and_eq_true, Bool.and_eq_false_iff, Bool.or_eq_true, Bool.or_eq_false_iff, decide_eq_true_eq, decide_eq_false_iff_not, bne_iff_ne, beq_iff_eq, beq_eq_false_iff_ne, bne_eq_false_iff_eq, ne_eq, Int.not_lt, Int.not_le, Decidable.not_not] at hq)) <;> (try (have hr := hg; simp only [decide_eq_true_eq, decide_eq_false_iff_not] at hr)) <;> (try (exfalso; omega))) | ((first | refine aw_region ?_ | refine ago_if (by omega) ?_ | skip); simp (disch := first | exact okY | omega) only [ZU, dI, Nat.reduceMul, Nat.reduceAdd, AOpRun, aexec, Nat.reduceBEq, ↓eget_h, isSh, ↓reduceIte, abin, hr, ints_all, opt1, g1, run1, q1, ARun_some, AG_ff, q2, blockQ])))
      all_goals (refine end_q [] [] ?_ ?_ <;> repeat' (first | exact trivial | exact vr_val _))
    | false =>
      have n2 := of_decide_eq_false q2
      (have hg : (987654321 : Nat) - 987654321 = 0 := rfl; have hr := hg; repeat' (first | apply aw_seq | ((first | apply aw_skip | apply aw_exit); try simp only [thenQ, blockQ, if_true, if_false, Nat.reduceEqDiff, reduceCtorEq]) | apply aw_ret | apply aw_block | apply aw_condT rfl | apply aw_condF rfl | (refine aw_cond rfl (fun hg => ?_) (fun hg => ?_) <;> (try (have hq := hg; simp only [Bool.not_eq_true', Bool.not_eq_false', Bool.and_eq_true, Bool.and_eq_false_iff, Bool.or_eq_true, Bool.or_eq_false_iff, decide_eq_true_eq, decide_eq_false_iff_not, bne_iff_ne, beq_iff_eq, beq_eq_false_iff_ne, bne_eq_false_iff_eq, ne_eq, Int.not_lt, Int.not_le, Decidable.not_not] at hq)) <;> (try (have hr := hg; simp only [decide_eq_true_eq, decide_eq_false_iff_not] at hr)) <;> (try (exfalso; omega))) | ((first | refine aw_region ?_ | refine ago_if (by omega) ?_ | skip); simp (disch := first | exact okY | omega) only [ZU, dI, Nat.reduceMul, Nat.reduceAdd, AOpRun, aexec, Nat.reduceBEq, ↓eget_h, isSh, ↓reduceIte, abin, hr, ints_all, opt1, g1, run1, q1, ARun_some, AG_ff, q2, blockQ, fits])))
      refine ⟨k + 1, ⟨by omega, hyes (by omega) (by omega)⟩, by omega, ?_⟩
      rw [e1]
      refine wk_q [] [] ?_ ?_ <;> repeat' (first | exact trivial | exact vr_val _ | exact vr_list _ | apply And.intro)
def casD (c : Cas) : D := .agg [.list (cls c.cl), .list (sps c.pf)]
theorem in_cas (S : Nat → Prop) (c : Cas) : In S (casD c) := .agg _ (by intro d hd; simp at hd; rcases hd with rfl | rfl <;> exact .list _)
open Classical in
noncomputable def casB (c : Cas) : Bool := decide (CasOk c)
open Classical in
theorem casB_y {c : Cas} (h : CasOk c) : casB c = true := by unfold casB; exact decide_eq_true h
open Classical in
theorem casB_n {c : Cas} (h : ¬ CasOk c) : casB c = false := by unfold casB; exact decide_eq_false h
structure CasIn (c : Cas) : Prop where
  n1 : c.cl.length ≤ maxLen
  n2 : c.pf.length ≤ maxLen
  l1 : ∀ i, (clAt c i).needs.length ≤ 1000000
  l2 : ∀ i, (clAt c i).proofs.length ≤ 1000000
theorem pf_any {c : Cas} : (c.pf.any fun x => !decide (pfOk x)) = true ↔ ¬ ∀ i, i < c.pf.length → pfOk (pfAt c i) := by
  rw [List.any_eq_true]
  constructor
  · rintro ⟨x, hx, h⟩ ha
    obtain ⟨j, hj, rfl⟩ := List.getElem_of_mem hx
    have := ha j hj
    simp only [pfAt, hj, List.getElem?_eq_getElem, Option.getD_some] at this
    simp [this] at h
  · intro h
    by_cases hx : ∃ x ∈ c.pf, ¬ pfOk x
    · obtain ⟨x, h1, h2⟩ := hx; exact ⟨x, h1, by simp [h2]⟩
    · refine absurd (fun i hi => ?_) h
      refine Decidable.byContradiction fun h1 => hx ⟨pfAt c i, ?_, h1⟩
      simp [pfAt, hi]
set_option maxRecDepth 100000 in
set_option maxHeartbeats 4000000 in
theorem cvalid_ac (c : Cas) (hc : CasIn c) : AC Tryd.prog 43 [casD c] [] [] (dB (casB c)) := by
  refine krecord_valid.ac (n0 := 0) (by simp) ⟨in_cas _ _, trivial⟩ trivial rfl ?_
  unfold crecord_valid casD
  have hmax : maxLen = 9223372036854775807 := rfl
  have m1 := hc.n1
  have m2 := hc.n2
  cases q1 : decide ((c.cl.length : Int) > 16) with
  | true =>
    rw [casB_n fun h => by have := h.n1; have := of_decide_eq_true q1; omega]
    (repeat' (first | apply aw_seq | ((first | apply aw_skip | apply aw_exit); try simp only [thenQ, blockQ, if_true, if_false, Nat.reduceEqDiff, reduceCtorEq]) | apply aw_ret | apply aw_block | apply aw_condT rfl | apply aw_condF rfl | ((first | refine aw_region ?_ | refine ago_if (by omega) ?_ | skip); simp (disch := first | exact okY | omega) only [ZU, dB, Nat.reduceAdd, Nat.reduceMul, AOpRun, aexec, D.isBot, ↓eget_h, or_self, ↓reduceIte, D.cells, Nat.reduceBEq, run1, cls_len, isSh, abin, q1, ARun_some, AG_tf])))
    all_goals (refine end_q [] [] ?_ ?_ <;> repeat' (first | exact trivial | exact vr_val _))
  | false =>
  have n1 := of_decide_eq_false q1
  cases q2 : decide ((c.pf.length : Int) > 12) with
  | true =>
    rw [casB_n fun h => by have := h.n2; have := of_decide_eq_true q2; omega]
    (repeat' (first | apply aw_seq | ((first | apply aw_skip | apply aw_exit); try simp only [thenQ, blockQ, if_true, if_false, Nat.reduceEqDiff, reduceCtorEq]) | apply aw_ret | apply aw_block | apply aw_condT rfl | apply aw_condF rfl | ((first | refine aw_region ?_ | refine ago_if (by omega) ?_ | skip); simp (disch := first | exact okY | omega) only [ZU, dB, Nat.reduceAdd, Nat.reduceMul, AOpRun, aexec, D.isBot, ↓eget_h, or_self, ↓reduceIte, D.cells, Nat.reduceBEq, run1, cls_len, isSh, abin, q1, ARun_some, AG_ff, sps_len, q2])))
    all_goals (refine end_q [] [] ?_ ?_ <;> repeat' (first | exact trivial | exact vr_val _))
  | false =>
  have n2 := of_decide_eq_false q2
  refine aw_seq (aw_region ?_)
  simp (disch := first | exact okY | omega) only [ZU, dB, Nat.reduceAdd, Nat.reduceMul, AOpRun, aexec, D.isBot, ↓eget_h, or_self, ↓reduceIte, D.cells, Nat.reduceBEq]
  refine aw_seq (aw_seq (aw_region ?_))
  simp (disch := first | exact okY | omega) only [ZU, Nat.reduceAdd, Nat.reduceMul, AOpRun, aexec, Nat.reduceBEq, ↓eget_h, run1, cls_len, isSh, ↓reduceIte, abin, q1, ARun_some, AG_ff, sps_len, q2]
  refine aw_condF rfl (aw_skip ?_)
  refine aw_seq (aw_seq (aw_region ?_))
  simp (disch := first | exact okY | omega) only [ZU, Nat.reduceAdd, Nat.reduceMul, AOpRun, aexec, Nat.reduceBEq, ↓eget_h, run1, cls_len]
  refine aw_block ?_
  refine aw_loop (fun k : Nat => ⟨[(1, .ptr 0 0), (16, .list (cls c.cl)), (17, dI c.cl.length), (18, dI k)], [(0, [.list (cls c.cl), .list (sps c.pf)])], 400⟩) (fun k => k ≤ c.cl.length ∧ ∀ i, i < k → Asc (clAt c i).needs i ∧ Asc (clAt c i).proofs c.pf.length) (fun k => c.cl.length - k) ⟨0, ⟨by omega, fun i hi => by omega⟩, ?_⟩ ?_
  · refine wk_q [] [(0, 0)] ?_ ?_ <;> repeat' (first | exact trivial | exact vr_val _ | exact vr_list _ | exact vr_ptr _ _ _ rfl | refine And.intro ⟨_, rfl, .inl ⟨_, rfl, by decide, ?_⟩⟩ ?_ | apply And.intro)
  rintro k ⟨hk, hp⟩
  by_cases hk2 : k < c.cl.length
  case neg =>
    obtain rfl : k = c.cl.length := by omega
    have hf := cfsp_ac 73 (fun x => !decide (pfOk x)) valid1_ac c.pf (by omega)
    have e : casB c = !(c.pf.any fun x => !decide (pfOk x)) := by
      cases h : (c.pf.any fun x => !decide (pfOk x)) with
      | true => exact casB_n fun hh => (pf_any.1 h) hh.pf
      | false => exact casB_y ⟨by omega, by omega, hp, Classical.byContradiction fun hn => by rw [pf_any.2 hn] at h; cases h⟩
    rw [e]
    generalize (c.pf.any fun x => !decide (pfOk x)) = bb at *
    (have hg : (987654321 : Nat) - 987654321 = 0 := rfl; have hr := hg; repeat' (first | apply aw_seq | ((first | apply aw_skip | apply aw_exit); try simp only [thenQ, blockQ, if_true, if_false, Nat.reduceEqDiff, reduceCtorEq]) | apply aw_ret | apply aw_block | apply aw_condT rfl | apply aw_condF rfl | (refine aw_cond rfl (fun hg => ?_) (fun hg => ?_) <;> (try (have hq := hg; simp only [Bool.not_eq_true', Bool.not_eq_false', Bool.and_eq_true, Bool.and_eq_false_iff, Bool.or_eq_true, Bool.or_eq_false_iff, decide_eq_true_eq, decide_eq_false_iff_not, bne_iff_ne, beq_iff_eq, beq_eq_false_iff_ne, bne_eq_false_iff_eq, ne_eq, Int.not_lt, Int.not_le, Decidable.not_not] at hq)) <;> (try (have hr := hg; simp only [decide_eq_true_eq, decide_eq_false_iff_not] at hr)) <;> (try (exfalso; omega))) | ((first | refine aw_region ?_ | refine acall0 (hf) ?_ | refine ago_if (by omega) ?_ | skip); simp (disch := first | exact okY | omega) only [ZU, dI, Nat.reduceMul, Nat.reduceAdd, AOpRun, aexec, Nat.reduceBEq, ↓eget_h, isSh, ↓reduceIte, abin, hr, decide_false, run1, dB])))
    all_goals (refine end_q [] [] ?_ ?_ <;> repeat' (first | exact trivial | exact vr_val _))
  have g1 : (cls c.cl)[k]? = some (clC (clAt c k)) := cls_gd c.cl k hk2
  unfold clC at g1
  have l1 := hc.l1 k
  have l2 := hc.l2 k
  have hyes : Asc (clAt c k).needs k → Asc (clAt c k).proofs c.pf.length → ∀ i, i < k + 1 → Asc (clAt c i).needs i ∧ Asc (clAt c i).proofs c.pf.length := fun h1 h2 i hi => by
    rcases (by omega : i < k ∨ i = k) with h | rfl
    · exact hp i h
    · exact ⟨h1, h2⟩
  have hno : ¬ (Asc (clAt c k).needs k ∧ Asc (clAt c k).proofs c.pf.length) → casB c = false := fun h => casB_n fun hh => h (hh.asc k hk2)
  generalize clAt c k = x at g1 l1 l2 hyes hno
  have a1 := ascends_ac x.needs k l1
  have a2 := ascends_ac x.proofs c.pf.length l2
  by_cases h1 : Asc x.needs k
  case neg =>
    rw [decide_eq_false h1] at a1
    rw [hno fun h => h1 h.1]
    (have hg : (987654321 : Nat) - 987654321 = 0 := rfl; have hr := hg; repeat' (first | apply aw_seq | ((first | apply aw_skip | apply aw_exit); try simp only [thenQ, blockQ, if_true, if_false, Nat.reduceEqDiff, reduceCtorEq]) | apply aw_ret | apply aw_block | apply aw_condT rfl | apply aw_condF rfl | (refine aw_cond rfl (fun hg => ?_) (fun hg => ?_) <;> (try (have hq := hg; simp only [Bool.not_eq_true', Bool.not_eq_false', Bool.and_eq_true, Bool.and_eq_false_iff, Bool.or_eq_true, Bool.or_eq_false_iff, decide_eq_true_eq, decide_eq_false_iff_not, bne_iff_ne, beq_iff_eq, beq_eq_false_iff_ne, bne_eq_false_iff_eq, ne_eq, Int.not_lt, Int.not_le, Decidable.not_not] at hq)) <;> (try (have hr := hg; simp only [decide_eq_true_eq, decide_eq_false_iff_not] at hr)) <;> (try (exfalso; omega))) | ((first | refine aw_region ?_ | refine acall0 (a1) ?_ | refine ago_if (by omega) ?_ | skip); simp (disch := first | exact okY | omega) only [ZU, dI, Nat.reduceMul, Nat.reduceAdd, AOpRun, aexec, Nat.reduceBEq, ↓eget_h, isSh, ↓reduceIte, abin, hr, cls_all, opt1, g1, dB, Nat.reduceLeDiff, List.take, ↓hget_h, D.isBot, D.cells, List.all, D.leaf, splice, List.drop, run1, ARun_some, AG_tf, blockQ])))
    all_goals (refine end_q [] [] ?_ ?_ <;> repeat' (first | exact trivial | exact vr_val _))
  by_cases h2 : Asc x.proofs c.pf.length
  case neg =>
    rw [decide_eq_true h1] at a1
    rw [decide_eq_false h2] at a2
    rw [hno fun h => h2 h.2]
    (have hg : (987654321 : Nat) - 987654321 = 0 := rfl; have hr := hg; repeat' (first | apply aw_seq | ((first | apply aw_skip | apply aw_exit); try simp only [thenQ, blockQ, if_true, if_false, Nat.reduceEqDiff, reduceCtorEq]) | apply aw_ret | apply aw_block | apply aw_condT rfl | apply aw_condF rfl | (refine aw_cond rfl (fun hg => ?_) (fun hg => ?_) <;> (try (have hq := hg; simp only [Bool.not_eq_true', Bool.not_eq_false', Bool.and_eq_true, Bool.and_eq_false_iff, Bool.or_eq_true, Bool.or_eq_false_iff, decide_eq_true_eq, decide_eq_false_iff_not, bne_iff_ne, beq_iff_eq, beq_eq_false_iff_ne, bne_eq_false_iff_eq, ne_eq, Int.not_lt, Int.not_le, Decidable.not_not] at hq)) <;> (try (have hr := hg; simp only [decide_eq_true_eq, decide_eq_false_iff_not] at hr)) <;> (try (exfalso; omega))) | ((first | refine aw_region ?_ | refine acall0 (a1) ?_ | refine acall0 (a2) ?_ | refine ago_if (by omega) ?_ | skip); simp (disch := first | exact okY | omega) only [ZU, dI, Nat.reduceMul, Nat.reduceAdd, AOpRun, aexec, Nat.reduceBEq, ↓eget_h, isSh, ↓reduceIte, abin, hr, cls_all, opt1, g1, dB, Nat.reduceLeDiff, List.take, ↓hget_h, D.isBot, D.cells, List.all, D.leaf, splice, List.drop, run1, ARun_some, AG_ff, sps_len, blockQ])))
    all_goals (refine end_q [] [] ?_ ?_ <;> repeat' (first | exact trivial | exact vr_val _))
  rw [decide_eq_true h1] at a1
  rw [decide_eq_true h2] at a2
  (have hg : (987654321 : Nat) - 987654321 = 0 := rfl; have hr := hg; repeat' (first | apply aw_seq | ((first | apply aw_skip | apply aw_exit); try simp only [thenQ, blockQ, if_true, if_false, Nat.reduceEqDiff, reduceCtorEq]) | apply aw_ret | apply aw_block | apply aw_condT rfl | apply aw_condF rfl | (refine aw_cond rfl (fun hg => ?_) (fun hg => ?_) <;> (try (have hq := hg; simp only [Bool.not_eq_true', Bool.not_eq_false', Bool.and_eq_true, Bool.and_eq_false_iff, Bool.or_eq_true, Bool.or_eq_false_iff, decide_eq_true_eq, decide_eq_false_iff_not, bne_iff_ne, beq_iff_eq, beq_eq_false_iff_ne, bne_eq_false_iff_eq, ne_eq, Int.not_lt, Int.not_le, Decidable.not_not] at hq)) <;> (try (have hr := hg; simp only [decide_eq_true_eq, decide_eq_false_iff_not] at hr)) <;> (try (exfalso; omega))) | ((first | refine aw_region ?_ | refine acall0 (a1) ?_ | refine acall0 (a2) ?_ | refine ago_if (by omega) ?_ | skip); simp (disch := first | exact okY | omega) only [ZU, dI, Nat.reduceMul, Nat.reduceAdd, AOpRun, aexec, Nat.reduceBEq, ↓eget_h, isSh, ↓reduceIte, abin, hr, cls_all, opt1, g1, dB, Nat.reduceLeDiff, List.take, ↓hget_h, D.isBot, D.cells, List.all, D.leaf, splice, List.drop, run1, ARun_some, AG_ff, sps_len, fits])))
  refine ⟨k + 1, ⟨by omega, hyes h1 h2⟩, by omega, ?_⟩
  refine wk_q [] [(0, 0)] ?_ ?_ <;> repeat' (first | exact trivial | exact vr_val _ | exact vr_list _ | exact vr_ptr _ _ _ rfl | refine And.intro ⟨_, rfl, .inl ⟨_, rfl, by decide, ?_⟩⟩ ?_ | apply And.intro)
theorem casE_B (c : Cas) (E : Int) : casE c E = if casB c = true then 0 else E := by
  by_cases h : CasOk c
  · rw [casE_ok h, casB_y h, if_pos rfl]
  · rw [casE_no h, casB_n h, if_neg (by simp)]
set_option maxRecDepth 100000 in
set_option maxHeartbeats 4000000 in
theorem ccheck_ac (c : Cas) (hc : CasIn c) (claim tick : Int) : AC Tryd.prog 26 [casD c, dI claim, dI tick] [] [] (dI (clmE c claim tick 122 1)) := by
  refine krecord_check.ac (n0 := 0) (by simp) ⟨in_cas _ _, .val _, .val _, trivial⟩ trivial rfl ?_
  have cv := cvalid_ac c hc
  unfold crecord_check clmE
  rw [casE_B]
  have hmax : maxLen = 9223372036854775807 := rfl
  have m1 := hc.n1
  unfold casD at *
  cases hb : casB c with
  | false =>
    rw [hb] at cv
    simp only [Bool.false_eq_true, if_false, ne_eq, reduceCtorEq, not_false_eq_true, if_true]
    (repeat' (first | apply aw_seq | ((first | apply aw_skip | apply aw_exit); try simp only [thenQ, blockQ, if_true, if_false, Nat.reduceEqDiff, reduceCtorEq]) | apply aw_ret | apply aw_block | apply aw_condT rfl | apply aw_condF rfl | ((first | refine aw_region ?_ | refine acall0 (cv) ?_ | refine ago_if (by omega) ?_ | skip); simp (disch := first | exact okY | omega) only [ZU, dI, Int.reduceEq, not_false_eq_true, ↓reduceIte, Nat.reduceAdd, Nat.reduceMul, AOpRun, aexec, D.isBot, ↓eget_h, or_self, D.cells, Nat.reduceBEq, Nat.reduceLeDiff, List.drop, List.take, dB, blockQ])))
    all_goals (refine end_q [] [] ?_ ?_ <;> repeat' (first | exact trivial | exact vr_val _))
  | true =>
    rw [hb] at cv
    simp only [if_true, ne_eq, not_true_eq_false, if_false]
    have w1 := within_ac claim 0 ((c.cl.length : Int) - 1)
    have w2 := within_ac tick 0 2000
    cases h1 : wI claim 0 ((c.cl.length : Int) - 1) with
    | false =>
      rw [h1] at w1
      rw [if_neg fun h => by have := wI_f h1; omega]
      (repeat' (first | apply aw_seq | ((first | apply aw_skip | apply aw_exit); try simp only [thenQ, blockQ, if_true, if_false, Nat.reduceEqDiff, reduceCtorEq]) | apply aw_ret | apply aw_block | apply aw_condT rfl | apply aw_condF rfl | ((first | refine aw_region ?_ | refine acall0 (cv) ?_ | refine acall0 (w1) ?_ | refine ago_if (by omega) ?_ | skip); simp (disch := first | exact okY | omega) only [ZU, dI, Nat.reduceAdd, Nat.reduceMul, AOpRun, aexec, D.isBot, ↓eget_h, or_self, ↓reduceIte, D.cells, Nat.reduceBEq, Nat.reduceLeDiff, List.drop, List.take, dB, run1, cls_len, isSh, abin, fits, blockQ])))
      all_goals (refine end_q [] [] ?_ ?_ <;> repeat' (first | exact trivial | exact vr_val _))
    | true =>
      rw [h1] at w1
      cases h2 : wI tick 0 2000 with
      | false =>
        rw [h2] at w2
        rw [if_neg fun h => by have := wI_f h2; omega]
        (repeat' (first | apply aw_seq | ((first | apply aw_skip | apply aw_exit); try simp only [thenQ, blockQ, if_true, if_false, Nat.reduceEqDiff, reduceCtorEq]) | apply aw_ret | apply aw_block | apply aw_condT rfl | apply aw_condF rfl | ((first | refine aw_region ?_ | refine acall0 (cv) ?_ | refine acall0 (w1) ?_ | refine acall0 (w2) ?_ | refine ago_if (by omega) ?_ | skip); simp (disch := first | exact okY | omega) only [ZU, dI, Nat.reduceAdd, Nat.reduceMul, AOpRun, aexec, D.isBot, ↓eget_h, or_self, ↓reduceIte, D.cells, Nat.reduceBEq, Nat.reduceLeDiff, List.drop, List.take, dB, run1, cls_len, isSh, abin, fits, blockQ])))
        all_goals (refine end_q [] [] ?_ ?_ <;> repeat' (first | exact trivial | exact vr_val _))
      | true =>
        rw [h2] at w2
        rw [if_pos (by have := wI_t h1; have := wI_t h2; omega)]
        (repeat' (first | apply aw_seq | ((first | apply aw_skip | apply aw_exit); try simp only [thenQ, blockQ, if_true, if_false, Nat.reduceEqDiff, reduceCtorEq]) | apply aw_ret | apply aw_block | apply aw_condT rfl | apply aw_condF rfl | ((first | refine aw_region ?_ | refine acall0 (cv) ?_ | refine acall0 (w1) ?_ | refine acall0 (w2) ?_ | refine ago_if (by omega) ?_ | skip); simp (disch := first | exact okY | omega) only [ZU, dI, Nat.reduceAdd, Nat.reduceMul, AOpRun, aexec, D.isBot, ↓eget_h, or_self, ↓reduceIte, D.cells, Nat.reduceBEq, Nat.reduceLeDiff, List.drop, List.take, dB, run1, cls_len, isSh, abin, fits])))
        all_goals (refine end_q [] [] ?_ ?_ <;> repeat' (first | exact trivial | exact vr_val _))
end Go.Proofs.YtdcodicoclecnaaDoor
/- record: sets of proofs as bits; which count in a tick. No conditions. -/
namespace Go.Proofs.YtdcodicoclecnaaDoor
open Go Go.RowKit Lift

def bitsN (cn : Nat → Bool) : Nat → Nat
  | 0 => 0
  | i + 1 => if cn i = true then bitsN cn i ||| 2 ^ i else bitsN cn i
theorem bitsN_lt (cn : Nat → Bool) : ∀ n, bitsN cn n < 2 ^ n
  | 0 => by simp [bitsN]
  | n + 1 => by
    have ih := bitsN_lt cn n
    have h2 : 2 ^ n < 2 ^ (n + 1) := Nat.pow_lt_pow_right (by omega) (by omega)
    unfold bitsN
    split
    · exact Nat.or_lt_two_pow (by omega) h2
    · omega
theorem bitsN_test (cn : Nat → Bool) (j : Nat) : ∀ n, (bitsN cn n).testBit j = (decide (j < n) && cn j)
  | 0 => by simp [bitsN]
  | n + 1 => by
    have ih := bitsN_test cn j n
    unfold bitsN
    split
    · rename_i h
      rw [Nat.testBit_or, ih, Nat.testBit_two_pow]
      by_cases h1 : n = j
      · subst h1; simp [h]
      · rcases Nat.lt_or_ge j n with h2 | h2
        · simp [h1, h2, show j < n + 1 by omega]
        · simp [h1, show ¬ j < n by omega, show ¬ j < n + 1 by omega]
    · rename_i h
      rw [ih]
      by_cases h1 : n = j
      · subst h1; simp at h; simp [h]
      · rcases Nat.lt_or_ge j n with h2 | h2
        · simp [h2, show j < n + 1 by omega]
        · simp [show ¬ j < n by omega, show ¬ j < n + 1 by omega]
theorem bits_small {n k : Nat} (cn : Nat → Bool) (h : n ≤ 12) (hk : k ≤ n) : bitsN cn k < 4096 := by
  have h1 := bitsN_lt cn k
  have h2 : 2 ^ k ≤ 2 ^ 12 := Nat.pow_le_pow_right (by omega) (by omega)
  omega
set_option maxRecDepth 100000 in
set_option maxHeartbeats 1000000 in
theorem phas_ac (p i : Nat) (hp : p < 4096) (hi : i < 60) : AC Tryd.prog 46 [dI p, dI i] [] [] (dB (p.testBit i)) := by
  refine krecord_proofs_has.ac (n0 := 0) (by simp) ⟨.val _, .val _, trivial⟩ trivial rfl ?_
  unfold crecord_proofs_has
  have e0 : IntKind.i64.bits = 64 := rfl
  have e1 : min i IntKind.i64.bits = i := by rw [e0]; omega
  have hd : p / 2 ^ i ≤ p := Nat.div_le_self _ _
  have a1 : Int.fdiv (p : Int) (2 ^ i) = ((p / 2 ^ i : Nat) : Int) := fdiv_pow _ _
  have a2 : IntKind.i64.wrap ((BitVec.ofInt IntKind.i64.bits ((p / 2 ^ i : Nat) : Int) &&& BitVec.ofInt IntKind.i64.bits 1).toNat) = ((p / 2 ^ i &&& 1 : Nat) : Int) := and_nat _ 1 (by omega) (by omega)
  have a3 : (((p / 2 ^ i &&& 1 : Nat) : Int) == 1) = p.testBit i := by
    rw [Nat.and_one_is_mod, Nat.testBit_eq_decide_div_mod_eq]
    cases h : decide (p / 2 ^ i % 2 = 1) with
    | true => have := of_decide_eq_true h; simp only [beq_iff_eq]; omega
    | false => have := of_decide_eq_false h; simp only [beq_eq_false_iff_ne]; omega
  (repeat' (first | apply aw_seq | ((first | apply aw_skip | apply aw_exit); try simp only [thenQ, blockQ, if_true, if_false, Nat.reduceEqDiff, reduceCtorEq]) | apply aw_ret | apply aw_block | apply aw_condT rfl | apply aw_condF rfl | ((first | refine aw_region ?_ | refine ago_if (by omega) ?_ | skip); simp (disch := first | exact okY | omega) only [ZU, dB, Nat.reduceMul, dI, AOpRun, aexec, Nat.reduceBEq, Nat.reduceAdd, ↓eget_h, isSh, ↓reduceIte, ash, e1, a1, abin, a2, a3])))
  all_goals (refine end_q [] [] ?_ ?_ <;> repeat' (first | exact trivial | exact vr_val _))
set_option maxRecDepth 100000 in
set_option maxHeartbeats 1000000 in
theorem pwith_ac (p i : Nat) (hp : p < 4096) (hi : i < 12) : AC Tryd.prog 48 [dI p, dI i] [] [] (dI ((p ||| 2 ^ i : Nat) : Int)) := by
  refine krecord_proofs_with.ac (n0 := 0) (by simp) ⟨.val _, .val _, trivial⟩ trivial rfl ?_
  unfold crecord_proofs_with
  have e0 : IntKind.i64.bits = 64 := rfl
  have e1 : min i IntKind.i64.bits = i := by rw [e0]; omega
  have h2 : 2 ^ i < 2 ^ 12 := Nat.pow_lt_pow_right (by omega) hi
  have a1 : IntKind.i64.wrap (1 * 2 ^ i) = ((2 ^ i : Nat) : Int) := by
    rw [Int.one_mul, show (2 : Int) ^ i = ((2 ^ i : Nat) : Int) by simp]
    generalize 2 ^ i = z at h2 ⊢
    exact wrap_in (by omega) (by omega)
  have a2 := or_nat p (2 ^ i) (by omega) (by omega)
  (repeat' (first | apply aw_seq | ((first | apply aw_skip | apply aw_exit); try simp only [thenQ, blockQ, if_true, if_false, Nat.reduceEqDiff, reduceCtorEq]) | apply aw_ret | apply aw_block | apply aw_condT rfl | apply aw_condF rfl | ((first | refine aw_region ?_ | refine ago_if (by omega) ?_ | skip); simp (disch := first | exact okY | omega) only [ZU, dI, Nat.reduceMul, AOpRun, aexec, Nat.reduceBEq, Nat.reduceAdd, ↓eget_h, isSh, ↓reduceIte, ash, e1, a1, abin, a2])))
  all_goals (refine end_q [] [] ?_ ?_ <;> repeat' (first | exact trivial | exact vr_val _))
theorem cnt_at {c : Cas} {tick : Int} {i : Nat} (h : i < c.pf.length) : cntT c tick i = wI tick (pfAt c i).1 (pfAt c i).2 := by unfold cntT wI; rw [decide_eq_true h, Bool.true_and]
def cntN (c : Cas) (tick : Int) : Nat := bitsN (cntT c tick) c.pf.length
theorem cntN_test (c : Cas) (tick : Int) (j : Nat) : (cntN c tick).testBit j = cntT c tick j := by
  unfold cntN
  rw [bitsN_test]
  cases h : decide (j < c.pf.length) with
  | true => rfl
  | false => unfold cntT; rw [h]; rfl
set_option maxRecDepth 100000 in
set_option maxHeartbeats 2000000 in
theorem counting_ac (c : Cas) (h12 : c.pf.length ≤ 12) (tick : Int) : AC Tryd.prog 28 [casD c, dI tick] [] [] (dI ((cntN c tick : Nat) : Int)) := by
  refine krecord_counting.ac (n0 := 0) (by simp) ⟨in_cas _ _, .val _, trivial⟩ trivial rfl ?_
  unfold crecord_counting casD
  (repeat' (first | apply aw_seq | ((first | apply aw_skip | apply aw_exit); try simp only [thenQ, blockQ, if_true, if_false, Nat.reduceEqDiff, reduceCtorEq]) | apply aw_ret | apply aw_block | apply aw_condT rfl | apply aw_condF rfl | ((first | refine aw_region ?_ | refine ago_if (by omega) ?_ | skip); simp (disch := first | exact okY | omega) only [ZU, dI, Nat.reduceAdd, Nat.reduceMul, AOpRun, aexec, D.isBot, ↓eget_h, or_self, ↓reduceIte, D.cells, Nat.reduceBEq, run1, sps_len])))
  refine aw_loop (fun k : Nat => ⟨[(1, dI tick), (2, .ptr 0 0), (4, dI ((bitsN (cntT c tick) k : Nat) : Int)), (8, .list (sps c.pf)), (9, dI c.pf.length), (10, dI k)], [(0, [.list (cls c.cl), .list (sps c.pf)])], 400⟩) (fun k => k ≤ c.pf.length) (fun k => c.pf.length - k) ⟨0, by omega, ?_⟩ ?_
  · refine wk_q [] [(0, 0)] ?_ ?_ <;> repeat' (first | exact trivial | exact vr_val _ | exact vr_list _ | exact vr_ptr _ _ _ rfl | refine And.intro ⟨_, rfl, .inl ⟨_, rfl, by decide, ?_⟩⟩ ?_ | apply And.intro)
  intro k hk
  by_cases hk2 : k < c.pf.length
  case neg =>
    obtain rfl : k = c.pf.length := by omega
    show AWb _ _ _ _ _ _ _
    unfold cntN
    (have hg : (987654321 : Nat) - 987654321 = 0 := rfl; have hr := hg; repeat' (first | apply aw_seq | ((first | apply aw_skip | apply aw_exit); try simp only [thenQ, blockQ, if_true, if_false, Nat.reduceEqDiff, reduceCtorEq]) | apply aw_ret | apply aw_block | apply aw_condT rfl | apply aw_condF rfl | (refine aw_cond rfl (fun hg => ?_) (fun hg => ?_) <;> (try (have hq := hg; simp only [Bool.not_eq_true', Bool.not_eq_false', Bool.and_eq_true, Bool.and_eq_false_iff, Bool.or_eq_true, Bool.or_eq_false_iff, decide_eq_true_eq, decide_eq_false_iff_not, bne_iff_ne, beq_iff_eq, beq_eq_false_iff_ne, bne_eq_false_iff_eq, ne_eq, Int.not_lt, Int.not_le, Decidable.not_not] at hq)) <;> (try (have hr := hg; simp only [decide_eq_true_eq, decide_eq_false_iff_not] at hr)) <;> (try (exfalso; omega))) | ((first | refine aw_region ?_ | refine ago_if (by omega) ?_ | skip); simp (disch := first | exact okY | omega) only [ZU, dI, Nat.reduceMul, Nat.reduceAdd, AOpRun, aexec, Nat.reduceBEq, ↓eget_h, isSh, ↓reduceIte, abin, hr, decide_false])))
    all_goals (refine end_q [] [] ?_ ?_ <;> repeat' (first | exact trivial | exact vr_val _))
  have g1 : (sps c.pf)[k]? = some [dI (pfAt c k).1, dI (pfAt c k).2] := sp_at c.pf k hk2
  have w := within_ac tick (pfAt c k).1 (pfAt c k).2
  have hs := bits_small (cntT c tick) h12 hk
  have hc := cnt_at (tick := tick) hk2
  have hb : bitsN (cntT c tick) (k + 1) = if cntT c tick k = true then bitsN (cntT c tick) k ||| 2 ^ k else bitsN (cntT c tick) k := rfl
  have cw := pwith_ac (bitsN (cntT c tick) k) k hs (by omega)
  cases h : cntT c tick k with
  | true =>
    rw [h, if_pos rfl] at hb
    rw [← hc, h] at w
    (have hg : (987654321 : Nat) - 987654321 = 0 := rfl; have hr := hg; repeat' (first | apply aw_seq | ((first | apply aw_skip | apply aw_exit); try simp only [thenQ, blockQ, if_true, if_false, Nat.reduceEqDiff, reduceCtorEq]) | apply aw_ret | apply aw_block | apply aw_condT rfl | apply aw_condF rfl | (refine aw_cond rfl (fun hg => ?_) (fun hg => ?_) <;> (try (have hq := hg; simp only [Bool.not_eq_true', Bool.not_eq_false', Bool.and_eq_true, Bool.and_eq_false_iff, Bool.or_eq_true, Bool.or_eq_false_iff, decide_eq_true_eq, decide_eq_false_iff_not, bne_iff_ne, beq_iff_eq, beq_eq_false_iff_ne, bne_eq_false_iff_eq, ne_eq, Int.not_lt, Int.not_le, Decidable.not_not] at hq)) <;> (try (have hr := hg; simp only [decide_eq_true_eq, decide_eq_false_iff_not] at hr)) <;> (try (exfalso; omega))) | ((first | refine aw_region ?_ | refine acall0 (w) ?_ | refine acall0 (cw) ?_ | refine ago_if (by omega) ?_ | skip); simp (disch := first | exact okY | omega) only [ZU, dI, Nat.reduceMul, Nat.reduceAdd, AOpRun, aexec, Nat.reduceBEq, ↓eget_h, isSh, ↓reduceIte, abin, hr, sps_all, opt1, g1, Nat.reduceLeDiff, List.take, ↓hget_h, D.isBot, D.cells, List.all, D.leaf, splice, List.drop, run1, dB, blockQ, fits])))
    refine ⟨k + 1, by omega, by omega, ?_⟩
    rw [hb]
    refine wk_q [] [(0, 0)] ?_ ?_ <;> repeat' (first | exact trivial | exact vr_val _ | exact vr_list _ | exact vr_ptr _ _ _ rfl | refine And.intro ⟨_, rfl, .inl ⟨_, rfl, by decide, ?_⟩⟩ ?_ | apply And.intro)
  | false =>
    rw [h, if_neg (by simp)] at hb
    rw [← hc, h] at w
    (have hg : (987654321 : Nat) - 987654321 = 0 := rfl; have hr := hg; repeat' (first | apply aw_seq | ((first | apply aw_skip | apply aw_exit); try simp only [thenQ, blockQ, if_true, if_false, Nat.reduceEqDiff, reduceCtorEq]) | apply aw_ret | apply aw_block | apply aw_condT rfl | apply aw_condF rfl | (refine aw_cond rfl (fun hg => ?_) (fun hg => ?_) <;> (try (have hq := hg; simp only [Bool.not_eq_true', Bool.not_eq_false', Bool.and_eq_true, Bool.and_eq_false_iff, Bool.or_eq_true, Bool.or_eq_false_iff, decide_eq_true_eq, decide_eq_false_iff_not, bne_iff_ne, beq_iff_eq, beq_eq_false_iff_ne, bne_eq_false_iff_eq, ne_eq, Int.not_lt, Int.not_le, Decidable.not_not] at hq)) <;> (try (have hr := hg; simp only [decide_eq_true_eq, decide_eq_false_iff_not] at hr)) <;> (try (exfalso; omega))) | ((first | refine aw_region ?_ | refine acall0 (w) ?_ | refine ago_if (by omega) ?_ | skip); simp (disch := first | exact okY | omega) only [ZU, dI, Nat.reduceMul, Nat.reduceAdd, AOpRun, aexec, Nat.reduceBEq, ↓eget_h, isSh, ↓reduceIte, abin, hr, sps_all, opt1, g1, Nat.reduceLeDiff, List.take, ↓hget_h, D.isBot, D.cells, List.all, D.leaf, splice, List.drop, run1, dB, fits])))
    refine ⟨k + 1, by omega, by omega, ?_⟩
    rw [hb]
    refine wk_q [] [(0, 0)] ?_ ?_ <;> repeat' (first | exact trivial | exact vr_val _ | exact vr_list _ | exact vr_ptr _ _ _ rfl | refine And.intro ⟨_, rfl, .inl ⟨_, rfl, by decide, ?_⟩⟩ ?_ | apply And.intro)
end Go.Proofs.YtdcodicoclecnaaDoor
/- record: choosing truth values. No conditions. -/
namespace Go.Proofs.YtdcodicoclecnaaDoor
open Go Go.RowKit Lift

set_option maxRecDepth 100000 in
set_option maxHeartbeats 1000000 in
theorem ibool_ac (l : List Bool) (b : Bool) (hl : l.length ≤ 1000000) : AC Tryd.prog 75 [.list (bools l), dB b] [] [] (dI (match l.findIdx? (fun x => x == b) with
    | some k => (k : Int)
    | none => -1)) := by
  refine kslices_Index_L_L_Jbool_Kbool_J.ac (n0 := 0) (by simp) ⟨.list _, .val _, trivial⟩ trivial rfl ?_
  unfold cslices_Index_L_L_Jbool_Kbool_J
  (repeat' (first | apply aw_seq | ((first | apply aw_skip | apply aw_exit); try simp only [thenQ, blockQ, if_true, if_false, Nat.reduceEqDiff, reduceCtorEq]) | apply aw_ret | apply aw_block | apply aw_condT rfl | apply aw_condF rfl | ((first | refine aw_region ?_ | refine ago_if (by omega) ?_ | skip); simp (disch := first | exact okY | omega) only [ZU, Int.reduceNeg, dI, Nat.reduceMul, dB, AOpRun, aexec, Nat.reduceBEq, Nat.reduceAdd, ↓eget_h, bools_len])))
  refine aw_loop (fun k : Nat => ⟨[(0, .list (bools l)), (1, dB b), (7, dI l.length), (8, dI k)], [], 400⟩) (fun k => k ≤ l.length ∧ ∀ j, j < k → (l[j]?.getD false == b) = false) (fun k => l.length - k) ⟨0, ⟨by omega, fun j hj => by omega⟩, ?_⟩ ?_
  · refine wk_q [] [] ?_ ?_ <;> repeat' (first | exact trivial | exact vr_val _ | exact vr_list _ | apply And.intro)
  rintro k ⟨hk, hin⟩
  by_cases hk2 : k < l.length
  · have g1 := bools_gd l k hk2
    unfold dB at g1
    cases he : (l[k]?.getD false == b) with
    | true =>
      have q : l.findIdx? (fun x => x == b) = some k := by
        rw [List.findIdx?_eq_some_iff_getElem]
        refine ⟨hk2, by have := he; simp only [hk2, List.getElem?_eq_getElem, Option.getD_some] at this; exact this, fun j hj => ?_⟩
        have := hin j hj
        simp only [show j < l.length by omega, List.getElem?_eq_getElem, Option.getD_some] at this
        simp [this]
      have he2 : (b == l[k]?.getD false) = true := by rw [beq_iff_eq] at he ⊢; exact he.symm
      rw [q]
      generalize l[k]?.getD false = v at *
      (have hg : (987654321 : Nat) - 987654321 = 0 := rfl; have hr := hg; repeat' (first | apply aw_seq | ((first | apply aw_skip | apply aw_exit); try simp only [thenQ, blockQ, if_true, if_false, Nat.reduceEqDiff, reduceCtorEq]) | apply aw_ret | apply aw_block | apply aw_condT rfl | apply aw_condF rfl | (refine aw_cond rfl (fun hg => ?_) (fun hg => ?_) <;> (try (have hq := hg; simp only [Bool.not_eq_true', Bool.not_eq_false', Bool.and_eq_true, Bool.and_eq_false_iff, Bool.or_eq_true, Bool.or_eq_false_iff, decide_eq_true_eq, decide_eq_false_iff_not, bne_iff_ne, beq_iff_eq, beq_eq_false_iff_ne, bne_eq_false_iff_eq, ne_eq, Int.not_lt, Int.not_le, Decidable.not_not] at hq)) <;> (try (have hr := hg; simp only [decide_eq_true_eq, decide_eq_false_iff_not] at hr)) <;> (try (exfalso; omega))) | ((first | refine aw_region ?_ | refine ago_if (by omega) ?_ | skip); simp (disch := first | exact okY | omega) only [ZU, dB, dI, Int.reduceNeg, Nat.reduceMul, Nat.reduceAdd, AOpRun, aexec, Nat.reduceBEq, ↓eget_h, isSh, ↓reduceIte, abin, hr, bools_all, opt1, g1, run1, he2, blockQ])))
      all_goals (refine end_q [] [] ?_ ?_ <;> repeat' (first | exact trivial | exact vr_val _))
    | false =>
      have he2 : (b == l[k]?.getD false) = false := by rw [beq_eq_false_iff_ne] at he ⊢; exact fun h => he h.symm
      generalize hv : l[k]?.getD false = v at *
      (have hg : (987654321 : Nat) - 987654321 = 0 := rfl; have hr := hg; repeat' (first | apply aw_seq | ((first | apply aw_skip | apply aw_exit); try simp only [thenQ, blockQ, if_true, if_false, Nat.reduceEqDiff, reduceCtorEq]) | apply aw_ret | apply aw_block | apply aw_condT rfl | apply aw_condF rfl | (refine aw_cond rfl (fun hg => ?_) (fun hg => ?_) <;> (try (have hq := hg; simp only [Bool.not_eq_true', Bool.not_eq_false', Bool.and_eq_true, Bool.and_eq_false_iff, Bool.or_eq_true, Bool.or_eq_false_iff, decide_eq_true_eq, decide_eq_false_iff_not, bne_iff_ne, beq_iff_eq, beq_eq_false_iff_ne, bne_eq_false_iff_eq, ne_eq, Int.not_lt, Int.not_le, Decidable.not_not] at hq)) <;> (try (have hr := hg; simp only [decide_eq_true_eq, decide_eq_false_iff_not] at hr)) <;> (try (exfalso; omega))) | ((first | refine aw_region ?_ | refine ago_if (by omega) ?_ | skip); simp (disch := first | exact okY | omega) only [ZU, dB, dI, Int.reduceNeg, Nat.reduceMul, Nat.reduceAdd, AOpRun, aexec, Nat.reduceBEq, ↓eget_h, isSh, ↓reduceIte, abin, hr, bools_all, opt1, g1, run1, he2, bne_self_eq_false, fits])))
      refine ⟨k + 1, ⟨by omega, fun j hj => ?_⟩, by omega, by refine wk_q [] [] ?_ ?_ <;> repeat' (first | exact trivial | exact vr_val _ | exact vr_list _ | apply And.intro)⟩
      rcases (by omega : j < k ∨ j = k) with h | rfl
      · exact hin j h
      · rw [hv]; exact he
  · obtain rfl : k = l.length := by omega
    have q : l.findIdx? (fun x => x == b) = none := by
      rw [List.findIdx?_eq_none_iff]
      intro y hy
      obtain ⟨j, hj, rfl⟩ := List.getElem_of_mem hy
      have := hin j hj
      simp only [hj, List.getElem?_eq_getElem, Option.getD_some] at this
      exact this
    rw [q]
    (have hg : (987654321 : Nat) - 987654321 = 0 := rfl; have hr := hg; repeat' (first | apply aw_seq | ((first | apply aw_skip | apply aw_exit); try simp only [thenQ, blockQ, if_true, if_false, Nat.reduceEqDiff, reduceCtorEq]) | apply aw_ret | apply aw_block | apply aw_condT rfl | apply aw_condF rfl | (refine aw_cond rfl (fun hg => ?_) (fun hg => ?_) <;> (try (have hq := hg; simp only [Bool.not_eq_true', Bool.not_eq_false', Bool.and_eq_true, Bool.and_eq_false_iff, Bool.or_eq_true, Bool.or_eq_false_iff, decide_eq_true_eq, decide_eq_false_iff_not, bne_iff_ne, beq_iff_eq, beq_eq_false_iff_ne, bne_eq_false_iff_eq, ne_eq, Int.not_lt, Int.not_le, Decidable.not_not] at hq)) <;> (try (have hr := hg; simp only [decide_eq_true_eq, decide_eq_false_iff_not] at hr)) <;> (try (exfalso; omega))) | ((first | refine aw_region ?_ | refine ago_if (by omega) ?_ | skip); simp (disch := first | exact okY | omega) only [ZU, dB, dI, Int.reduceNeg, Nat.reduceMul, Nat.reduceAdd, AOpRun, aexec, Nat.reduceBEq, ↓eget_h, isSh, ↓reduceIte, abin, hr, decide_false])))
    all_goals (refine end_q [] [] ?_ ?_ <;> repeat' (first | exact trivial | exact vr_val _))
set_option maxRecDepth 100000 in
set_option maxHeartbeats 1000000 in
theorem cbool_ac (l : List Bool) (b : Bool) (hl : l.length ≤ 1000000) : AC Tryd.prog 47 [.list (bools l), dB b] [] [] (dB (l.any fun x => x == b)) := by
  refine kslices_Contains_L_L_Jbool_Kbool_J.ac (n0 := 0) (by simp) ⟨.list _, .val _, trivial⟩ trivial rfl ?_
  unfold cslices_Contains_L_L_Jbool_Kbool_J
  have hf := ibool_ac l b hl
  cases h : l.findIdx? (fun x => x == b) with
  | none =>
    have ha : l.any (fun x => x == b) = false := by
      rw [List.findIdx?_eq_none_iff] at h
      exact List.any_eq_false.2 fun x hx => by simp [h x hx]
    rw [h] at hf
    rw [ha]
    (repeat' (first | apply aw_seq | ((first | apply aw_skip | apply aw_exit); try simp only [thenQ, blockQ, if_true, if_false, Nat.reduceEqDiff, reduceCtorEq]) | apply aw_ret | apply aw_block | apply aw_condT rfl | apply aw_condF rfl | ((first | refine aw_region ?_ | refine acall0 (hf) ?_ | refine ago_if (by omega) ?_ | skip); simp (disch := first | exact okY | omega) only [ZU, dB, Nat.reduceMul, AOpRun, aexec, Nat.reduceBEq, Nat.reduceAdd, ↓eget_h, dI, Int.reduceNeg, isSh, ↓reduceIte, abin])))
    all_goals (refine end_q [] [] ?_ ?_ <;> repeat' (first | exact trivial | exact vr_val _))
  | some k =>
    have ha : l.any (fun x => x == b) = true := by
      rw [List.findIdx?_eq_some_iff_getElem] at h
      obtain ⟨hk, he, _⟩ := h
      exact List.any_eq_true.2 ⟨l[k], List.getElem_mem hk, he⟩
    rw [h] at hf
    rw [ha]
    have q : decide ((k : Int) ≥ 0) = true := decide_eq_true (by omega)
    (repeat' (first | apply aw_seq | ((first | apply aw_skip | apply aw_exit); try simp only [thenQ, blockQ, if_true, if_false, Nat.reduceEqDiff, reduceCtorEq]) | apply aw_ret | apply aw_block | apply aw_condT rfl | apply aw_condF rfl | ((first | refine aw_region ?_ | refine acall0 (hf) ?_ | refine ago_if (by omega) ?_ | skip); simp (disch := first | exact okY | omega) only [ZU, dB, Nat.reduceMul, AOpRun, aexec, Nat.reduceBEq, Nat.reduceAdd, ↓eget_h, dI, isSh, ↓reduceIte, abin])))
    all_goals (refine end_q [] [] ?_ ?_ <;> repeat' (first | exact trivial | exact vr_val _))
set_option maxRecDepth 100000 in
set_option maxHeartbeats 1000000 in
theorem holds1_ac (hd : List Bool) (hne : (bcl hd).isEmpty = false) (n : Int) (h0 : 0 ≤ n) (h1 : n.toNat < hd.length) : AC Tryd.prog 45 [dI n, .ptr 16 0] [(16, [.vec 24 hd.length 1]), (24, bcl hd)] [(16, some [.vec 24 hd.length 1]), (24, some (bcl hd))] (dB (hd[n.toNat]?.getD false)) := by
  refine krecord_holds_S1.ac (n0 := 400) (by simp) ⟨.val _, .ptr _ _ (by omega), trivial⟩ ⟨⟨by omega, by intro d hd; simp at hd; subst hd; exact .vec _ _ _ (by omega)⟩, ⟨by omega, fun d h => (bcl_in hd d h).mono fun _ h => h.elim⟩, trivial⟩ (by simp [okUp, hne]) ?_
  unfold crecord_holds_S1
  have g1 := bc_gd hd n.toNat h1
  have g2 : n < (hd.length : Int) := by omega
  have g3 := bcl_len hd
  (repeat' (first | apply aw_seq | ((first | apply aw_skip | apply aw_exit); try simp only [thenQ, blockQ, if_true, if_false, Nat.reduceEqDiff, reduceCtorEq]) | apply aw_ret | apply aw_block | apply aw_condT rfl | apply aw_condF rfl | ((first | refine aw_region ?_ | refine ago_if (by omega) ?_ | skip); simp (disch := first | exact okY | omega) only [ZU, dB, Nat.mul_one, Nat.reduceAdd, dI, AOpRun, aexec, Nat.reduceBEq, Nat.reduceMul, run1, ↓eget_h, Nat.add_zero, h0, g2, ↓reduceIte, ↓hget_h, g1])))
  all_goals (refine end_q [] [(16, 16), (24, 24)] ?_ ?_ <;> repeat' (first | exact trivial | exact vr_val _ | exact vr_vec _ _ _ _ rfl | refine And.intro ⟨_, rfl, _, rfl, by decide, ?_⟩ ?_ | apply And.intro))
  all_goals exact vrl_flat _ (bcl_in _)
set_option maxRecDepth 100000 in
set_option maxHeartbeats 2000000 in
theorem pick1_ac (hd : List Bool) (hne : (bcl hd).isEmpty = false) (l : List Int) (hl : l.length ≤ 1000000) (hn : ∀ k, k < l.length → 0 ≤ l[k]?.getD 0 ∧ (l[k]?.getD 0).toNat < hd.length) : AC Tryd.prog 44 [.list (ints l), .fn 45 [] [.ptr 16 0]] [(16, [.vec 24 hd.length 1]), (24, bcl hd)] [(16, some [.vec 24 hd.length 1]), (24, some (bcl hd)), (96, some (bcl (l.map fun n => hd[n.toNat]?.getD false)))] (.vec 96 l.length 1) := by
  refine krecord_pick.ac (n0 := 400) (by simp) ⟨.list _, .fn _ _ _ (by simp) (by intro d hd; simp at hd; subst hd; exact .ptr _ _ (by omega)), trivial⟩ ⟨⟨by omega, by intro d hd; simp at hd; subst hd; exact .vec _ _ _ (by omega)⟩, ⟨by omega, fun d h => (bcl_in hd d h).mono fun _ h => h.elim⟩, trivial⟩ (by simp [okUp, hne]) ?_
  unfold crecord_pick
  refine aw_seq (aw_region ?_)
  simp (disch := first | exact okY | omega) only [ZU, Nat.reduceMul, Nat.reduceAdd, AOpRun, aexec, Nat.reduceBEq]
  refine aw_seq (aw_seq (aw_region ?_))
  simp (disch := first | exact okY | omega) only [ZU, Nat.reduceAdd, Nat.reduceMul, AOpRun, aexec, ↓eget_h, Nat.reduceBEq, ints_len]
  refine aw_block ?_
  refine aw_loop (fun k : Nat => ⟨[(1, .fn 45 [] [.ptr 16 0]), (4, .vec 500 k 1), (7, .list (ints l)), (8, dI l.length), (9, dI k)], [(16, [.vec 24 hd.length 1]), (24, bcl hd), (500, bcl ((l.map (fun n => hd[n.toNat]?.getD false)).take k))], 600⟩) (fun k => k ≤ l.length) (fun k => l.length - k) ⟨0, by omega, ?_⟩ ?_
  · simp only [List.take_zero]
    show Wk _ _ ⟨_, [(16, [.vec 24 hd.length 1]), (24, bcl hd), (500, [])], _⟩
    refine wk_q [] [(16, 16), (24, 24), (500, 900)] ?_ ?_ <;> repeat' (first | exact trivial | exact vr_val _ | exact vr_list _ | exact vr_vec _ _ _ _ rfl | exact vr_ptr _ _ _ rfl | exact vr_nilv _ _ _ rfl | apply vr_fn | refine And.intro ⟨_, rfl, .inl ⟨_, rfl, by decide, ?_⟩⟩ ?_ | refine And.intro ⟨_, rfl, .inr ⟨rfl, rfl, of_decide_eq_true (by kernel_rfl)⟩⟩ ?_ | apply And.intro)
    all_goals exact vrl_flat _ (bcl_in _)
  intro k hk
  have hml : (l.map (fun n => hd[n.toNat]?.getD false)).length = l.length := List.length_map ..
  by_cases hk2 : k < l.length
  case neg =>
    obtain rfl : k = l.length := by omega
    have e : (l.map (fun n => hd[n.toNat]?.getD false)).take l.length = l.map (fun n => hd[n.toNat]?.getD false) := List.take_of_length_le (by omega)
    rw [e]
    (have hg : (987654321 : Nat) - 987654321 = 0 := rfl; have hr := hg; repeat' (first | apply aw_seq | ((first | apply aw_skip | apply aw_exit); try simp only [thenQ, blockQ, if_true, if_false, Nat.reduceEqDiff, reduceCtorEq]) | apply aw_ret | apply aw_block | apply aw_condT rfl | apply aw_condF rfl | (refine aw_cond rfl (fun hg => ?_) (fun hg => ?_) <;> (try (have hq := hg; simp only [Bool.not_eq_true', Bool.not_eq_false', Bool.and_eq_true, Bool.and_eq_false_iff, Bool.or_eq_true, Bool.or_eq_false_iff, decide_eq_true_eq, decide_eq_false_iff_not, bne_iff_ne, beq_iff_eq, beq_eq_false_iff_ne, bne_eq_false_iff_eq, ne_eq, Int.not_lt, Int.not_le, Decidable.not_not] at hq)) <;> (try (have hr := hg; simp only [decide_eq_true_eq, decide_eq_false_iff_not] at hr)) <;> (try (exfalso; omega))) | ((first | refine aw_region ?_ | refine ago_if (by omega) ?_ | skip); simp (disch := first | exact okY | omega) only [ZU, dI, Nat.reduceMul, Nat.reduceAdd, AOpRun, aexec, Nat.reduceBEq, ↓eget_h, isSh, ↓reduceIte, abin, hr, decide_false])))
    refine end_q [] [(16, 16), (24, 24), (96, 500)] ?_ ?_ <;> repeat' (first | exact trivial | exact vr_vec _ _ _ _ rfl | refine And.intro ⟨_, rfl, _, rfl, by decide, ?_⟩ ?_ | apply And.intro)
    all_goals exact vrl_flat _ (bcl_in _)
  have g1 := ints_gd l k hk2
  have e : (l.map (fun n => hd[n.toNat]?.getD false)).take (k + 1) = (l.map (fun n => hd[n.toNat]?.getD false)).take k ++ [(fun n => hd[n.toNat]?.getD false) (l[k]?.getD 0)] := by
    rw [List.take_add_one]
    simp [hk2]
  have hca := holds1_ac hd hne (l[k]?.getD 0) (hn k hk2).1 (hn k hk2).2
  have hic : (bcl ((l.map (fun n => hd[n.toNat]?.getD false)).take k)).length = k := by rw [bcl_len, List.length_take]; omega
  have hit : (bcl ((l.map (fun n => hd[n.toNat]?.getD false)).take k)).take k = bcl ((l.map (fun n => hd[n.toNat]?.getD false)).take k) := List.take_of_length_le (by omega)
  have hlf := bcl_leaf ((l.map (fun n => hd[n.toNat]?.getD false)).take k)
  have e2 : bcl ((l.map (fun n => hd[n.toNat]?.getD false)).take (k + 1)) = bcl ((l.map (fun n => hd[n.toNat]?.getD false)).take k) ++ [.val (.bool ((fun n => hd[n.toNat]?.getD false) (l[k]?.getD 0)))] := by rw [e, bc_app]
  have hcin : ∀ y ∈ bcl ((l.map (fun n => hd[n.toNat]?.getD false)).take k) ++ [.val (.bool ((fun n => hd[n.toNat]?.getD false) (l[k]?.getD 0)))], In (fun _ => False) y := by rw [bc_app]; exact bcl_in _
  generalize bcl ((l.map (fun n => hd[n.toNat]?.getD false)).take k) = L at *
  simp only at e2 hcin
  (have hg : (987654321 : Nat) - 987654321 = 0 := rfl; have hr := hg; repeat' (first | apply aw_seq | ((first | apply aw_skip | apply aw_exit); try simp only [thenQ, blockQ, if_true, if_false, Nat.reduceEqDiff, reduceCtorEq]) | apply aw_ret | apply aw_block | apply aw_condT rfl | apply aw_condF rfl | (refine aw_cond rfl (fun hg => ?_) (fun hg => ?_) <;> (try (have hq := hg; simp only [Bool.not_eq_true', Bool.not_eq_false', Bool.and_eq_true, Bool.and_eq_false_iff, Bool.or_eq_true, Bool.or_eq_false_iff, decide_eq_true_eq, decide_eq_false_iff_not, bne_iff_ne, beq_iff_eq, beq_eq_false_iff_ne, bne_eq_false_iff_eq, ne_eq, Int.not_lt, Int.not_le, Decidable.not_not] at hq)) <;> (try (have hr := hg; simp only [decide_eq_true_eq, decide_eq_false_iff_not] at hr)) <;> (try (exfalso; omega))) | ((first | refine aw_region ?_ | refine acallB (hca) (by repeat' (first | exact trivial | exact rfl | refine And.intro ?_ ?_)) (by kernel_rfl) (by kernel_rfl) (by kernel_rfl) ?_ | refine ago_if (by omega) ?_ | skip); simp (disch := first | exact okY | omega) only [ZU, dI, Nat.mul_one, Nat.reduceAdd, AOpRun, aexec, Nat.reduceBEq, ↓eget_h, isSh, ↓reduceIte, abin, Nat.reduceMul, hr, ints_all, opt1, g1, run1, blockQ, dB, fillD, D.isBot, D.cells, ne_eq, not_true_eq_false, Nat.reduceGT, or_self, splice, List.take, List.drop, base, ↓hget_h, hic, Nat.le_refl, hit, elems, List.all, D.leaf, and_true, ups, hdel_c, hdel_n, fits])))
  refine ⟨k + 1, by omega, by omega, ?_⟩
  rw [e2]
  refine wk_q [] [(16, 16), (24, 24), (500, 672)] ?_ ?_ <;> repeat' (first | exact trivial | exact vr_val _ | exact vr_list _ | exact vr_vec _ _ _ _ rfl | exact vr_ptr _ _ _ rfl | apply vr_fn | refine And.intro ⟨_, rfl, .inl ⟨_, rfl, by decide, ?_⟩⟩ ?_ | apply And.intro | exact vrl_flat _ (by first | exact icells_in _ | exact rcells_in _ | exact scells_in _ | exact bcells_in _ | assumption) | fail)
  all_goals first | exact vrl_flat _ (bcl_in _) | assumption
set_option maxRecDepth 100000 in
set_option maxHeartbeats 2000000 in
theorem pick2_ac (p : Nat) (hp : p < 4096) (l : List Int) (hl : l.length ≤ 1000000) (hn : ∀ k, k < l.length → 0 ≤ l[k]?.getD 0 ∧ (l[k]?.getD 0) < 12) : AC Tryd.prog 44 [.list (ints l), .fn 46 [dI p] []] [] [(136, some (bcl (l.map fun n => p.testBit n.toNat)))] (.vec 136 l.length 1) := by
  refine krecord_pick.ac (n0 := 400) (by simp) ⟨.list _, .fn _ _ _ (by intro d hd; simp at hd; subst hd; exact .val _) (by simp), trivial⟩ trivial rfl ?_
  unfold crecord_pick
  refine aw_seq (aw_region ?_)
  simp (disch := first | exact okY | omega) only [ZU, Nat.reduceMul, Nat.reduceAdd, dI, AOpRun, aexec, Nat.reduceBEq]
  refine aw_seq (aw_seq (aw_region ?_))
  simp (disch := first | exact okY | omega) only [ZU, Nat.reduceAdd, Nat.reduceMul, AOpRun, aexec, ↓eget_h, Nat.reduceBEq, ints_len]
  refine aw_block ?_
  refine aw_loop (fun k : Nat => ⟨[(1, .fn 46 [dI p] []), (4, .vec 500 k 1), (7, .list (ints l)), (8, dI l.length), (9, dI k)], [(500, bcl ((l.map (fun n => p.testBit n.toNat)).take k))], 600⟩) (fun k => k ≤ l.length) (fun k => l.length - k) ⟨0, by omega, ?_⟩ ?_
  · simp only [List.take_zero]
    show Wk _ _ ⟨_, [(500, [])], _⟩
    refine wk_q [] [(500, 900)] ?_ ?_ <;> repeat' (first | exact trivial | exact vr_val _ | exact vr_list _ | exact vr_nilv _ _ _ rfl | apply vr_fn | refine And.intro ⟨_, rfl, .inr ⟨rfl, rfl, of_decide_eq_true (by kernel_rfl)⟩⟩ ?_ | apply And.intro)
    all_goals exact vrl_flat _ (bcl_in _)
  intro k hk
  have hml : (l.map (fun n => p.testBit n.toNat)).length = l.length := List.length_map ..
  by_cases hk2 : k < l.length
  case neg =>
    obtain rfl : k = l.length := by omega
    have e : (l.map (fun n => p.testBit n.toNat)).take l.length = l.map (fun n => p.testBit n.toNat) := List.take_of_length_le (by omega)
    rw [e]
    (have hg : (987654321 : Nat) - 987654321 = 0 := rfl; have hr := hg; repeat' (first | apply aw_seq | ((first | apply aw_skip | apply aw_exit); try simp only [thenQ, blockQ, if_true, if_false, Nat.reduceEqDiff, reduceCtorEq]) | apply aw_ret | apply aw_block | apply aw_condT rfl | apply aw_condF rfl | (refine aw_cond rfl (fun hg => ?_) (fun hg => ?_) <;> (try (have hq := hg; simp only [Bool.not_eq_true', Bool.not_eq_false', Bool.and_eq_true, Bool.and_eq_false_iff, Bool.or_eq_true, Bool.or_eq_false_iff, decide_eq_true_eq, decide_eq_false_iff_not, bne_iff_ne, beq_iff_eq, beq_eq_false_iff_ne, bne_eq_false_iff_eq, ne_eq, Int.not_lt, Int.not_le, Decidable.not_not] at hq)) <;> (try (have hr := hg; simp only [decide_eq_true_eq, decide_eq_false_iff_not] at hr)) <;> (try (exfalso; omega))) | ((first | refine aw_region ?_ | refine ago_if (by omega) ?_ | skip); simp (disch := first | exact okY | omega) only [ZU, dI, Nat.reduceMul, Nat.reduceAdd, AOpRun, aexec, Nat.reduceBEq, ↓eget_h, isSh, ↓reduceIte, abin, hr, decide_false])))
    refine end_q [] [(136, 500)] ?_ ?_ <;> repeat' (first | exact trivial | exact vr_vec _ _ _ _ rfl | refine And.intro ⟨_, rfl, _, rfl, by decide, ?_⟩ ?_)
    all_goals exact vrl_flat _ (bcl_in _)
  have g1 := ints_gd l k hk2
  have e : (l.map (fun n => p.testBit n.toNat)).take (k + 1) = (l.map (fun n => p.testBit n.toNat)).take k ++ [(fun n => p.testBit n.toNat) (l[k]?.getD 0)] := by
    rw [List.take_add_one]
    simp [hk2]
  have hca := phas_ac p (l[k]?.getD 0).toNat hp (by have := hn k hk2; omega)
  rw [Int.toNat_of_nonneg (hn k hk2).1] at hca
  have hic : (bcl ((l.map (fun n => p.testBit n.toNat)).take k)).length = k := by rw [bcl_len, List.length_take]; omega
  have hit : (bcl ((l.map (fun n => p.testBit n.toNat)).take k)).take k = bcl ((l.map (fun n => p.testBit n.toNat)).take k) := List.take_of_length_le (by omega)
  have hlf := bcl_leaf ((l.map (fun n => p.testBit n.toNat)).take k)
  have e2 : bcl ((l.map (fun n => p.testBit n.toNat)).take (k + 1)) = bcl ((l.map (fun n => p.testBit n.toNat)).take k) ++ [.val (.bool ((fun n => p.testBit n.toNat) (l[k]?.getD 0)))] := by rw [e, bc_app]
  have hcin : ∀ y ∈ bcl ((l.map (fun n => p.testBit n.toNat)).take k) ++ [.val (.bool ((fun n => p.testBit n.toNat) (l[k]?.getD 0)))], In (fun _ => False) y := by rw [bc_app]; exact bcl_in _
  generalize bcl ((l.map (fun n => p.testBit n.toNat)).take k) = L at *
  simp only at e2 hcin
  (have hg : (987654321 : Nat) - 987654321 = 0 := rfl; have hr := hg; repeat' (first | apply aw_seq | ((first | apply aw_skip | apply aw_exit); try simp only [thenQ, blockQ, if_true, if_false, Nat.reduceEqDiff, reduceCtorEq]) | apply aw_ret | apply aw_block | apply aw_condT rfl | apply aw_condF rfl | (refine aw_cond rfl (fun hg => ?_) (fun hg => ?_) <;> (try (have hq := hg; simp only [Bool.not_eq_true', Bool.not_eq_false', Bool.and_eq_true, Bool.and_eq_false_iff, Bool.or_eq_true, Bool.or_eq_false_iff, decide_eq_true_eq, decide_eq_false_iff_not, bne_iff_ne, beq_iff_eq, beq_eq_false_iff_ne, bne_eq_false_iff_eq, ne_eq, Int.not_lt, Int.not_le, Decidable.not_not] at hq)) <;> (try (have hr := hg; simp only [decide_eq_true_eq, decide_eq_false_iff_not] at hr)) <;> (try (exfalso; omega))) | ((first | refine aw_region ?_ | refine acall0 (hca) ?_ | refine ago_if (by omega) ?_ | skip); simp (disch := first | exact okY | omega) only [ZU, dI, Nat.mul_one, Nat.reduceAdd, AOpRun, aexec, Nat.reduceBEq, ↓eget_h, isSh, ↓reduceIte, abin, Nat.reduceMul, hr, ints_all, opt1, g1, run1, blockQ, dB, fillD, D.isBot, D.cells, ne_eq, not_true_eq_false, Nat.reduceGT, or_self, splice, List.take, List.drop, base, hic, Nat.le_refl, hit, elems, ↓hget_h, List.all, D.leaf, and_true, ups, hdel_c, hdel_n, fits])))
  refine ⟨k + 1, by omega, by omega, ?_⟩
  rw [e2]
  refine wk_q [] [(500, 672)] ?_ ?_ <;> repeat' (first | exact trivial | exact vr_val _ | exact vr_list _ | exact vr_vec _ _ _ _ rfl | apply vr_fn | refine And.intro ⟨_, rfl, .inl ⟨_, rfl, by decide, ?_⟩⟩ ?_ | apply And.intro | exact vrl_flat _ (by first | exact icells_in _ | exact rcells_in _ | exact scells_in _ | exact bcells_in _ | assumption) | fail)
  all_goals assumption
end Go.Proofs.YtdcodicoclecnaaDoor
