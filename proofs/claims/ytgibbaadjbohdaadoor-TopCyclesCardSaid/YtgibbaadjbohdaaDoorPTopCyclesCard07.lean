/- Texts of the law TopCyclesCard, part 7. No conditions. -/
import Derived.Test.YtgibbaadjbohdaaDoorPTopCyclesCard06
import Derived.Test.YtgibbaadjbohdaaDoorRows
import Derived.WalkKit
import Derived.WalkSpells
import Derived.WalkLawsBesides
import Derived.Deep.QuietTactic
import Derived.BigQuiet
import Derived.Lib.Hide
import Derived.Deep.RegionHeld3
import Derived.Laws.EntriesVeiled
set_option linter.unusedSimpArgs false
set_option linter.unusedVariables false
/- The functions' bodies, translated. Written by a program; no conditions. -/
namespace Go.Proofs.YtgibbaadjbohdaaDoor
open Go.RowKit Lift

def csling_CheckHoist : ACode :=
 (.seq
 (.region false [oo 1 (.box (.tmp 0)),
 oo 2 (.mv (kI 0))] [])
 (.seq
 (.region false [oo 4 (.fad 1 (.tmp 1)),
 oo 5 (.fad 0 (.tmp 4)),
 oo 6 (.load1 (.tmp 5)),
 oo 3 (.mv (.tmp 6))] [4,5,6])
 (.seq
 (.seq
 (.region true [oo 7 (.fad 0 (.tmp 1)),
 oa 8 (.load1 (.tmp 7)) [0],
 oa 9 (.call (.func 25) [(.tmp 8), (kI 1), (kI 100)]) [1,0],
 oa 10 (.un .not (.tmp 9)) [2,1,0],
 oa 11 (.mv (.tmp 10)) [3,2,1,0],
 og 12 11 false (.fad 1 (.tmp 1)) [4,3,2,1,0],
 og 13 11 false (.loadN 3 (.tmp 12)) [5,4,3,2,1,0],
 og 14 11 false (.call (.func 33) [(.tmp 13)]) [6,5,4,3,2,1,0],
 og 15 11 false (.bin .neq (.tmp 14) (kI 0)) [7,6,5,4,3,2,1,0],
 oa 16 (.pick (.tmp 11) (.const (.bool true)) (.tmp 15)) [4,3,2,1,0,8,7,6,5],
 oa 17 (.mv (.tmp 16)) [9,4,3,2,1,0,8,7,6,5],
 og 18 17 false (.mv (.tmp 3)) [10,9,4,3,2,1,0,8,7,6,5],
 og 19 17 false (.iadS 1 (.tmp 18) (kI 0)) [11,10,9,4,3,2,1,0,8,7,6,5],
 og 20 17 false (.load1 (.tmp 19)) [12,11,10,9,4,3,2,1,0,8,7,6,5],
 og 21 17 false (.bin .gtr (.tmp 20) (kI 0)) [13,12,11,10,9,4,3,2,1,0,8,7,6,5],
 oa 22 (.pick (.tmp 17) (.const (.bool true)) (.tmp 21)) [10,9,4,3,2,1,0,8,7,6,5,14,13,12,11],
 oa 23 (.mv (.tmp 22)) [15,10,9,4,3,2,1,0,8,7,6,5,14,13,12,11],
 og 24 23 false (.mv (.tmp 3)) [16,15,10,9,4,3,2,1,0,8,7,6,5,14,13,12,11],
 og 25 23 false (.mv (.tmp 3)) [16,15,10,9,4,3,2,1,0,8,7,6,5,14,13,12,11],
 og 26 23 false (.len_ (.tmp 25)) [18,16,15,10,9,4,3,2,1,0,8,7,6,5,14,13,12,11],
 og 27 23 false (.bin .sub (.tmp 26) (kI 1)) [19,18,16,15,10,9,4,3,2,1,0,8,7,6,5,14,13,12,11],
 og 28 23 false (.iadS 1 (.tmp 24) (.tmp 27)) [17,16,15,10,9,4,3,2,1,0,8,7,6,5,14,13,12,11,20,19,18],
 og 29 23 false (.load1 (.tmp 28)) [21,17,16,15,10,9,4,3,2,1,0,8,7,6,5,14,13,12,11,20,19,18],
 og 30 23 false (.fad 0 (.tmp 1)) [16,15,10,9,4,3,2,1,0,8,7,6,5,14,13,12,11],
 og 31 23 false (.load1 (.tmp 30)) [23,16,15,10,9,4,3,2,1,0,8,7,6,5,14,13,12,11],
 og 32 23 false (.bin .lss (.tmp 29) (.tmp 31)) [22,21,17,16,15,10,9,4,3,2,1,0,8,7,6,5,14,13,12,11,20,19,18,24,23],
 oa 33 (.pick (.tmp 23) (.const (.bool true)) (.tmp 32)) [16,15,10,9,4,3,2,1,0,8,7,6,5,14,13,12,11,25,22,21,17,20,19,18,24,23],
 oa 34 (.mv (.tmp 33)) [26,16,15,10,9,4,3,2,1,0,8,7,6,5,14,13,12,11,25,22,21,17,20,19,18,24,23],
 og 35 34 false (.fad 4 (.tmp 1)) [27,26,16,15,10,9,4,3,2,1,0,8,7,6,5,14,13,12,11,25,22,21,17,20,19,18,24,23],
 og 36 34 false (.load1 (.tmp 35)) [28,27,26,16,15,10,9,4,3,2,1,0,8,7,6,5,14,13,12,11,25,22,21,17,20,19,18,24,23],
 og 37 34 false (.call (.func 25) [(.tmp 36), (kI 0), (kI 100)]) [29,28,27,26,16,15,10,9,4,3,2,1,0,8,7,6,5,14,13,12,11,25,22,21,17,20,19,18,24,23],
 og 38 34 false (.un .not (.tmp 37)) [30,29,28,27,26,16,15,10,9,4,3,2,1,0,8,7,6,5,14,13,12,11,25,22,21,17,20,19,18,24,23],
 oa 39 (.pick (.tmp 34) (.const (.bool true)) (.tmp 38)) [27,26,16,15,10,9,4,3,2,1,0,8,7,6,5,14,13,12,11,25,22,21,17,20,19,18,24,23,31,30,29,28]] [7,8,9,10,11,12,13,14,15,16,17,18,19,20,21,22,23,24,25,26,27,28,29,30,31,32,33,34,35,36,37,38])
 (.cond (.tmp 39)
 (.seq
 (.region false [oo 2 (.mv (kI 71))] [])
 .ret)
 .skip))
 (.seq
 (.region false [oo 2 (.mv (kI 0))] [])
 .ret))))
set_option maxRecDepth 100000 in
theorem ksling_CheckHoist : IsCode Tryd.prog 23 40 csling_CheckHoist [.tmp 2] :=
 ⟨Tryd.f23, _, [39,0,1,3,2], Tryd.func23, rfl, by decide, rfl, by kernel_rfl, by kernel_rfl⟩
def csling_newWinch : ACode :=
 (.seq
 (.region false [oo 2 (.box (.tmp 0)),
 oo 3 (.box (.tmp 1)),
 oo 4 (.mv (.const (.pointer none))),
 oo 5 (.mv (.const (.bool false))),
 oo 6 (.mv (kI 0))] [])
 (.seq
 (.seq
 (.region false [oo 10 (.loadN 5 (.tmp 2)),
 oo 11 (.call (.func 23) [(.tmp 10)]),
 oo 7 (.mv (.tmp 11))] [10,11])
 (.seq
 (.region false [oo 12 (.mv (.tmp 7)),
 oo 13 (.bin .neq (.tmp 12) (kI 0))] [12])
 (.cond (.tmp 13)
 (.seq
 (.region false [oo 14 (.mv (.tmp 7)),
 oo 4 (.mv (.const (.pointer none))),
 oo 5 (.mv (.const (.bool false))),
 oo 6 (.mv (.tmp 14))] [14])
 .ret)
 .skip)))
 (.seq
 (.seq
 (.region false [oo 15 (.loadN 2 (.tmp 3)),
 oo 16 (.buildSl 2 1 [(.val (.int .i64 0)), (.val (.int .i64 0))] [(0,2, (.tmp 15))]),
 oo 17 (.call (.func 24) [(.tmp 16)]),
 oo 8 (.mv (.tmp 17))] [15,16,17])
 (.seq
 (.region false [oo 18 (.mv (.tmp 8)),
 oo 19 (.bin .neq (.tmp 18) (kI 0))] [18])
 (.cond (.tmp 19)
 (.seq
 (.region false [oo 20 (.mv (.tmp 8)),
 oo 4 (.mv (.const (.pointer none))),
 oo 5 (.mv (.const (.bool false))),
 oo 6 (.mv (.tmp 20))] [20])
 .ret)
 .skip)))
 (.seq
 (.region false [oo 21 (.fad 1 (.tmp 2)),
 oo 22 (.fad 1 (.tmp 21)),
 oo 23 (.load1 (.tmp 22)),
 oo 9 (.mv (.tmp 23))] [21,22,23])
 (.seq
 (.region true [oo 24 (.loadN 5 (.tmp 2)),
 oo 25 (.loadN 2 (.tmp 3)),
 oa 26 (.build [(.val (.int .i64 0)), (.val (.slice none 0 0)), (.val (.slice none 0 0)), (.val (.slice none 0 0)), (.val (.int .i64 0)), (.val (.int .i64 0)), (.val (.int .i64 0)), (.val (.int .i64 0)), (.val (.int .i64 0)), (.val (.int .i64 0)), (.val (.int .i64 0)), (.val (.bool false)), (.val (.bool false))] [(0,5, (.tmp 24)), (5,2, (.tmp 25))]) [0,1],
 oa 27 (.box (.tmp 26)) [2,0,1],
 oo 28 (.fad 0 (.tmp 3)),
 oa 29 (.load1 (.tmp 28)) [4],
 oo 30 (.mv (.tmp 9)),
 oa 31 (.iadS 1 (.tmp 30) (kI 0)) [6],
 oa 32 (.load1 (.tmp 31)) [7,6],
 oa 33 (.bin .geq (.tmp 29) (.tmp 32)) [5,4,8,7,6],
 oa 34 (.mv (.tmp 33)) [9,5,4,8,7,6],
 og 35 34 true (.fad 1 (.tmp 3)) [10,9,5,4,8,7,6],
 og 36 34 true (.load1 (.tmp 35)) [11,10,9,5,4,8,7,6],
 og 37 34 true (.mv (.tmp 9)) [10,9,5,4,8,7,6],
 og 38 34 true (.mv (.tmp 9)) [10,9,5,4,8,7,6],
 og 39 34 true (.len_ (.tmp 38)) [14,10,9,5,4,8,7,6],
 og 40 34 true (.bin .sub (.tmp 39) (kI 1)) [15,14,10,9,5,4,8,7,6],
 og 41 34 true (.iadS 1 (.tmp 37) (.tmp 40)) [13,10,9,5,4,8,7,6,16,15,14],
 og 42 34 true (.load1 (.tmp 41)) [17,13,10,9,5,4,8,7,6,16,15,14],
 og 43 34 true (.bin .leq (.tmp 36) (.tmp 42)) [12,11,10,9,5,4,8,7,6,18,17,13,16,15,14],
 oa 44 (.pick (.tmp 34) (.tmp 43) (.const (.bool false))) [10,9,5,4,8,7,6,19,12,11,18,17,13,16,15,14],
 oa 4 (.mv (.tmp 27)) [3,2,0,1,10,9,5,4,8,7,6],
 oa 5 (.mv (.tmp 44)) [20,10,9,5,4,8,7,6,19,12,11,18,17,13,16,15,14,21,3,2,0,1],
 oa 6 (.mv (kI 0)) [22,20,10,9,5,4,8,7,6,19,12,11,18,17,13,16,15,14,21,3,2,0,1]] [24,25,26,27,28,29,30,31,32,33,34,35,36,37,38,39,40,41,42,43,44])
 .ret)))))
set_option maxRecDepth 100000 in
theorem ksling_newWinch : IsCode Tryd.prog 11 45 csling_newWinch [.tmp 4, .tmp 5, .tmp 6] :=
 ⟨Tryd.f11, _, [19,13,0,1,2,7,3,8,9,4,5,6], Tryd.func11, rfl, by decide, rfl, by kernel_rfl, by kernel_rfl⟩
def cpsling_winch_carries : ACode :=
 (.seq
 (.region false [oo 4 (.box (.tmp 1)),
 oo 6 (.mv (.const (.bool false)))] [])
 (.seq
 (.seq
 (.region false [oo 9 (.mv (.tmp 2)),
 oo 10 (.bin .eql (.tmp 9) (kI 0))] [9])
 (.cond (.tmp 10)
 (.seq
 (.region false [oo 6 (.mv (.const (.bool true)))] [])
 .ret)
 .skip))
 (.seq
 (.region true [oo 12 (.mv (.tmp 0)),
 oa 13 (.nilc (.tmp 12)) [0],
 oa 14 (.fad 0 (.tmp 13)) [1,0],
 oa 15 (.fad 1 (.tmp 14)) [2,1,0],
 oa 16 (.loadN 3 (.tmp 15)) [3,2,1,0],
 oo 17 (.loadN 2 (.tmp 4)),
 oo 18 (.mv (.tmp 0)),
 oa 19 (.nilc (.tmp 18)) [6],
 oa 20 (.fad 5 (.tmp 19)) [7,6],
 oa 21 (.loadN 2 (.tmp 20)) [8,7,6],
 oa 22 (.call (.func 10) [(.tmp 16), (.tmp 17), (.tmp 21)]) [4,3,2,1,0,5,9,8,7,6],
 oa 11 (.mv (.tmp 22)) [10,4,3,2,1,0,5,9,8,7,6],
 oa 23 (.ext (.tmp 11) 0) [11,10,4,3,2,1,0,5,9,8,7,6],
 oa 24 (.ext (.tmp 11) 1) [11,10,4,3,2,1,0,5,9,8,7,6],
 oo 7 (.mem [(.val (.int .i64 0)), (.val (.int .i64 0))]),
 ⟨none, .store 2 (.tmp 7) (.tmp 23), none, [14,12,11,10,4,3,2,1,0,5,9,8,7,6]⟩,
 oa 8 (.mv (.tmp 24)) [13,11,10,4,3,2,1,0,5,9,8,7,6,15,14,12]] [12,13,14,15,16,17,18,19,20,21,22,11,23,24])
 (.seq
 (.region false [oo 25 (.mv (.tmp 8)),
 oo 26 (.bin .eql (.tmp 25) (kI 0)),
 oo 27 (.mv (.tmp 26)),
 og 28 27 true (.fad 0 (.tmp 7)) [],
 og 29 27 true (.load1 (.tmp 28)) [],
 og 30 27 true (.mv (.tmp 2)) [],
 og 31 27 true (.bin .geq (.tmp 29) (.tmp 30)) [],
 oo 32 (.pick (.tmp 27) (.tmp 31) (.const (.bool false))),
 oo 6 (.mv (.tmp 32))] [25,26,27,28,29,30,31,32])
 .ret))))
set_option maxRecDepth 100000 in
theorem kpsling_winch_carries : IsCode Tryd.prog 27 33 cpsling_winch_carries [.tmp 6] :=
 ⟨Tryd.f27, _, [10,1,2,0,4,8,7,6], Tryd.func27, rfl, by decide, rfl, by kernel_rfl, by kernel_rfl⟩
def cpsling_winch_out : ACode :=
 (.seq
 (.region false [oo 4 (.mv (.const (.bool false)))] [])
 (.seq
 (.seq
 (.region true [oo 5 (.mv (.tmp 0)),
 oa 6 (.nilc (.tmp 5)) [0],
 oa 7 (.fad 7 (.tmp 6)) [1,0],
 oa 8 (.fad 0 (.tmp 7)) [2,1,0],
 oa 9 (.load1 (.tmp 8)) [3,2,1,0],
 oo 10 (.mv (.tmp 1)),
 oa 11 (.bin .add (.tmp 9) (.tmp 10)) [4,3,2,1,0,5],
 oo 12 (.mv (.tmp 0)),
 oa 13 (.nilc (.tmp 12)) [7],
 oa 14 (.fad 0 (.tmp 13)) [8,7],
 oa 15 (.fad 0 (.tmp 14)) [9,8,7],
 oa 16 (.load1 (.tmp 15)) [10,9,8,7],
 oa 17 (.call (.func 25) [(.tmp 11), (kI 0), (.tmp 16)]) [6,4,3,2,1,0,5,11,10,9,8,7],
 oa 18 (.un .not (.tmp 17)) [12,6,4,3,2,1,0,5,11,10,9,8,7],
 oa 19 (.mv (.tmp 18)) [13,12,6,4,3,2,1,0,5,11,10,9,8,7],
 og 20 19 false (.mv (.tmp 0)) [14,13,12,6,4,3,2,1,0,5,11,10,9,8,7],
 og 21 19 false (.mv (.tmp 0)) [14,13,12,6,4,3,2,1,0,5,11,10,9,8,7],
 og 22 19 false (.nilc (.tmp 21)) [16,14,13,12,6,4,3,2,1,0,5,11,10,9,8,7],
 og 23 19 false (.fad 7 (.tmp 22)) [17,16,14,13,12,6,4,3,2,1,0,5,11,10,9,8,7],
 og 24 19 false (.fad 0 (.tmp 23)) [18,17,16,14,13,12,6,4,3,2,1,0,5,11,10,9,8,7],
 og 25 19 false (.load1 (.tmp 24)) [19,18,17,16,14,13,12,6,4,3,2,1,0,5,11,10,9,8,7],
 og 26 19 false (.mv (.tmp 1)) [14,13,12,6,4,3,2,1,0,5,11,10,9,8,7],
 og 27 19 false (.bin .add (.tmp 25) (.tmp 26)) [20,19,18,17,16,14,13,12,6,4,3,2,1,0,5,11,10,9,8,7,21],
 og 28 19 false (.call (.func 28) [(.tmp 27)]) [22,20,19,18,17,16,14,13,12,6,4,3,2,1,0,5,11,10,9,8,7,21],
 og 29 19 false (.mv (.tmp 0)) [14,13,12,6,4,3,2,1,0,5,11,10,9,8,7],
 og 30 19 false (.nilc (.tmp 29)) [24,14,13,12,6,4,3,2,1,0,5,11,10,9,8,7],
 og 31 19 false (.fad 7 (.tmp 30)) [25,24,14,13,12,6,4,3,2,1,0,5,11,10,9,8,7],
 og 32 19 false (.fad 1 (.tmp 31)) [26,25,24,14,13,12,6,4,3,2,1,0,5,11,10,9,8,7],
 og 33 19 false (.load1 (.tmp 32)) [27,26,25,24,14,13,12,6,4,3,2,1,0,5,11,10,9,8,7],
 og 34 19 false (.call (.func 27) [(.tmp 20), (.tmp 28), (.tmp 33)]) [15,14,13,12,6,4,3,2,1,0,5,11,10,9,8,7,23,22,20,19,18,17,16,21,28,27,26,25,24],
 og 35 19 false (.un .not (.tmp 34)) [29,15,14,13,12,6,4,3,2,1,0,5,11,10,9,8,7,23,22,20,19,18,17,16,21,28,27,26,25,24],
 oa 36 (.pick (.tmp 19) (.const (.bool true)) (.tmp 35)) [14,13,12,6,4,3,2,1,0,5,11,10,9,8,7,30,29,15,23,22,20,19,18,17,16,21,28,27,26,25,24]] [5,6,7,8,9,10,11,12,13,14,15,16,17,18,19,20,21,22,23,24,25,26,27,28,29,30,31,32,33,34,35])
 (.cond (.tmp 36)
 (.seq
 (.region false [oo 4 (.mv (.const (.bool false)))] [])
 .ret)
 .skip))
 (.seq
 (.region false [oo 37 (.mv (.tmp 0)),
 oo 38 (.nilc (.tmp 37)),
 oo 39 (.fad 7 (.tmp 38)),
 oo 40 (.fad 0 (.tmp 39)),
 oo 41 (.load1 (.tmp 40)),
 oo 42 (.mv (.tmp 1)),
 oo 43 (.bin .add (.tmp 41) (.tmp 42)),
 oo 44 (.nilc (.tmp 37)),
 oo 45 (.fad 7 (.tmp 44)),
 oo 46 (.fad 0 (.tmp 45)),
 on (.store 1 (.tmp 46) (.tmp 43))] [37,38,39,40,41,42,43,44,45,46])
 (.seq
 (.region false [oo 4 (.mv (.const (.bool true)))] [])
 .ret))))
set_option maxRecDepth 100000 in
theorem kpsling_winch_out : IsCode Tryd.prog 26 47 cpsling_winch_out [.tmp 4] :=
 ⟨Tryd.f26, _, [36,0,1,4], Tryd.func26, rfl, by decide, rfl, by kernel_rfl, by kernel_rfl⟩
def cpsling_winch_do : ACode :=
 (.seq
 (.region false [oo 3 (.box (.tmp 1)),
 oo 4 (.mv (.const (.bool false)))] [])
 (.seq
 (.region false [oo 5 (.mv (.tmp 0)),
 oo 6 (.nilc (.tmp 5)),
 oo 7 (.fad 7 (.tmp 6)),
 oo 8 (.fad 2 (.tmp 7)),
 oo 9 (.load1 (.tmp 8)),
 oo 10 (.bin .add (.tmp 9) (kI 1)),
 oo 11 (.nilc (.tmp 5)),
 oo 12 (.fad 7 (.tmp 11)),
 oo 13 (.fad 2 (.tmp 12)),
 on (.store 1 (.tmp 13) (.tmp 10))] [5,6,7,8,9,10,11,12,13])
 (.seq
 (.block 0
 (.seq
 (.region false [oo 15 (.mv (.tmp 0)),
 oo 16 (.nilc (.tmp 15)),
 oo 17 (.fad 7 (.tmp 16)),
 oo 18 (.fad 4 (.tmp 17)),
 oo 19 (.load1 (.tmp 18)),
 oo 14 (.mv (.tmp 19))] [15,16,17,18,19])
 (.cond (.tmp 14)
 (.seq
 (.region false [oo 4 (.mv (.const (.bool false)))] [])
 .ret)
 (.seq
 (.region false [oo 21 (.fad 0 (.tmp 3)),
 oo 22 (.load1 (.tmp 21)),
 oo 23 (.bin .eql (.tmp 22) (kI 1)),
 oo 20 (.mv (.tmp 23))] [21,22,23])
 (.cond (.tmp 20)
 (.seq
 (.region true [oo 24 (.fad 1 (.tmp 3)),
 oa 25 (.load1 (.tmp 24)) [0],
 oo 26 (.mv (.tmp 0)),
 oa 27 (.nilc (.tmp 26)) [2],
 oa 28 (.fad 0 (.tmp 27)) [3,2],
 oa 29 (.fad 0 (.tmp 28)) [4,3,2],
 oa 30 (.load1 (.tmp 29)) [5,4,3,2],
 oa 31 (.call (.func 25) [(.tmp 25), (kI 1), (.tmp 30)]) [1,0,6,5,4,3,2],
 oa 32 (.mv (.tmp 31)) [7,1,0,6,5,4,3,2],
 og 33 32 true (.mv (.tmp 0)) [8,7,1,0,6,5,4,3,2],
 og 34 32 true (.fad 1 (.tmp 3)) [8,7,1,0,6,5,4,3,2],
 og 35 32 true (.load1 (.tmp 34)) [10,8,7,1,0,6,5,4,3,2],
 og 36 32 true (.call (.func 26) [(.tmp 33), (.tmp 35)]) [9,8,7,1,0,6,5,4,3,2,11,10],
 oa 37 (.pick (.tmp 32) (.tmp 36) (.const (.bool false))) [8,7,1,0,6,5,4,3,2,12,9,11,10],
 oa 4 (.mv (.tmp 37)) [13,8,7,1,0,6,5,4,3,2,12,9,11,10]] [24,25,26,27,28,29,30,31,32,33,34,35,36,37])
 .ret)
 (.seq
 (.region false [oo 39 (.fad 0 (.tmp 3)),
 oo 40 (.load1 (.tmp 39)),
 oo 41 (.bin .eql (.tmp 40) (kI 2)),
 oo 38 (.mv (.tmp 41))] [39,40,41])
 (.cond (.tmp 38)
 (.seq
 (.region true [oo 42 (.fad 1 (.tmp 3)),
 oa 43 (.load1 (.tmp 42)) [0],
 oo 44 (.mv (.tmp 0)),
 oa 45 (.nilc (.tmp 44)) [2],
 oa 46 (.fad 0 (.tmp 45)) [3,2],
 oa 47 (.fad 0 (.tmp 46)) [4,3,2],
 oa 48 (.load1 (.tmp 47)) [5,4,3,2],
 oa 49 (.call (.func 25) [(.tmp 43), (kI 1), (.tmp 48)]) [1,0,6,5,4,3,2],
 oa 50 (.mv (.tmp 49)) [7,1,0,6,5,4,3,2],
 og 51 50 true (.mv (.tmp 0)) [8,7,1,0,6,5,4,3,2],
 og 52 50 true (.fad 1 (.tmp 3)) [8,7,1,0,6,5,4,3,2],
 og 53 50 true (.load1 (.tmp 52)) [10,8,7,1,0,6,5,4,3,2],
 og 54 50 true (.un .neg (.tmp 53)) [11,10,8,7,1,0,6,5,4,3,2],
 og 55 50 true (.call (.func 26) [(.tmp 51), (.tmp 54)]) [9,8,7,1,0,6,5,4,3,2,12,11,10],
 oa 56 (.pick (.tmp 50) (.tmp 55) (.const (.bool false))) [8,7,1,0,6,5,4,3,2,13,9,12,11,10],
 oa 4 (.mv (.tmp 56)) [14,8,7,1,0,6,5,4,3,2,13,9,12,11,10]] [42,43,44,45,46,47,48,49,50,51,52,53,54,55,56])
 .ret)
 (.seq
 (.region false [oo 58 (.fad 0 (.tmp 3)),
 oo 59 (.load1 (.tmp 58)),
 oo 60 (.bin .eql (.tmp 59) (kI 4)),
 oo 57 (.mv (.tmp 60))] [58,59,60])
 (.cond (.tmp 57)
 (.seq
 (.seq
 (.region true [oo 61 (.mv (.tmp 0)),
 oa 62 (.nilc (.tmp 61)) [0],
 oa 63 (.fad 7 (.tmp 62)) [1,0],
 oa 64 (.fad 1 (.tmp 63)) [2,1,0],
 oa 65 (.load1 (.tmp 64)) [3,2,1,0],
 oa 66 (.bin .gtr (.tmp 65) (kI 0)) [4,3,2,1,0],
 oa 67 (.mv (.tmp 66)) [5,4,3,2,1,0],
 og 68 67 false (.mv (.tmp 0)) [6,5,4,3,2,1,0],
 og 69 67 false (.nilc (.tmp 68)) [7,6,5,4,3,2,1,0],
 og 70 67 false (.fad 7 (.tmp 69)) [8,7,6,5,4,3,2,1,0],
 og 71 67 false (.fad 0 (.tmp 70)) [9,8,7,6,5,4,3,2,1,0],
 og 72 67 false (.load1 (.tmp 71)) [10,9,8,7,6,5,4,3,2,1,0],
 og 73 67 false (.bin .eql (.tmp 72) (kI 0)) [11,10,9,8,7,6,5,4,3,2,1,0],
 oa 74 (.pick (.tmp 67) (.const (.bool true)) (.tmp 73)) [6,5,4,3,2,1,0,12,11,10,9,8,7],
 oa 75 (.mv (.tmp 74)) [13,6,5,4,3,2,1,0,12,11,10,9,8,7],
 og 76 75 false (.mv (.tmp 0)) [14,13,6,5,4,3,2,1,0,12,11,10,9,8,7],
 og 77 75 false (.nilc (.tmp 76)) [15,14,13,6,5,4,3,2,1,0,12,11,10,9,8,7],
 og 78 75 false (.fad 12 (.tmp 77)) [16,15,14,13,6,5,4,3,2,1,0,12,11,10,9,8,7],
 og 79 75 false (.load1 (.tmp 78)) [17,16,15,14,13,6,5,4,3,2,1,0,12,11,10,9,8,7],
 og 80 75 false (.un .not (.tmp 79)) [18,17,16,15,14,13,6,5,4,3,2,1,0,12,11,10,9,8,7],
 oa 81 (.pick (.tmp 75) (.const (.bool true)) (.tmp 80)) [14,13,6,5,4,3,2,1,0,12,11,10,9,8,7,19,18,17,16,15],
 oa 82 (.mv (.tmp 81)) [20,14,13,6,5,4,3,2,1,0,12,11,10,9,8,7,19,18,17,16,15],
 og 83 82 false (.mv (.tmp 0)) [21,20,14,13,6,5,4,3,2,1,0,12,11,10,9,8,7,19,18,17,16,15],
 og 84 82 false (.nilc (.tmp 83)) [22,21,20,14,13,6,5,4,3,2,1,0,12,11,10,9,8,7,19,18,17,16,15],
 og 85 82 false (.fad 7 (.tmp 84)) [23,22,21,20,14,13,6,5,4,3,2,1,0,12,11,10,9,8,7,19,18,17,16,15],
 og 86 82 false (.fad 2 (.tmp 85)) [24,23,22,21,20,14,13,6,5,4,3,2,1,0,12,11,10,9,8,7,19,18,17,16,15],
 og 87 82 false (.load1 (.tmp 86)) [25,24,23,22,21,20,14,13,6,5,4,3,2,1,0,12,11,10,9,8,7,19,18,17,16,15],
 og 88 82 false (.mv (.tmp 0)) [21,20,14,13,6,5,4,3,2,1,0,12,11,10,9,8,7,19,18,17,16,15],
 og 89 82 false (.nilc (.tmp 88)) [27,21,20,14,13,6,5,4,3,2,1,0,12,11,10,9,8,7,19,18,17,16,15],
 og 90 82 false (.fad 0 (.tmp 89)) [28,27,21,20,14,13,6,5,4,3,2,1,0,12,11,10,9,8,7,19,18,17,16,15],
 og 91 82 false (.fad 4 (.tmp 90)) [29,28,27,21,20,14,13,6,5,4,3,2,1,0,12,11,10,9,8,7,19,18,17,16,15],
 og 92 82 false (.load1 (.tmp 91)) [30,29,28,27,21,20,14,13,6,5,4,3,2,1,0,12,11,10,9,8,7,19,18,17,16,15],
 og 93 82 false (.bin .gtr (.tmp 87) (.tmp 92)) [26,25,24,23,22,21,20,14,13,6,5,4,3,2,1,0,12,11,10,9,8,7,19,18,17,16,15,31,30,29,28,27],
 oa 94 (.pick (.tmp 82) (.const (.bool true)) (.tmp 93)) [21,20,14,13,6,5,4,3,2,1,0,12,11,10,9,8,7,19,18,17,16,15,32,26,25,24,23,22,31,30,29,28,27],
 oa 95 (.mv (.tmp 94)) [33,21,20,14,13,6,5,4,3,2,1,0,12,11,10,9,8,7,19,18,17,16,15,32,26,25,24,23,22,31,30,29,28,27],
 og 96 95 false (.fad 1 (.tmp 3)) [34,33,21,20,14,13,6,5,4,3,2,1,0,12,11,10,9,8,7,19,18,17,16,15,32,26,25,24,23,22,31,30,29,28,27],
 og 97 95 false (.load1 (.tmp 96)) [35,34,33,21,20,14,13,6,5,4,3,2,1,0,12,11,10,9,8,7,19,18,17,16,15,32,26,25,24,23,22,31,30,29,28,27],
 og 98 95 false (.call (.func 25) [(.tmp 97), (kI 1), (kI 100000)]) [36,35,34,33,21,20,14,13,6,5,4,3,2,1,0,12,11,10,9,8,7,19,18,17,16,15,32,26,25,24,23,22,31,30,29,28,27],
 og 99 95 false (.un .not (.tmp 98)) [37,36,35,34,33,21,20,14,13,6,5,4,3,2,1,0,12,11,10,9,8,7,19,18,17,16,15,32,26,25,24,23,22,31,30,29,28,27],
 oa 100 (.pick (.tmp 95) (.const (.bool true)) (.tmp 99)) [34,33,21,20,14,13,6,5,4,3,2,1,0,12,11,10,9,8,7,19,18,17,16,15,32,26,25,24,23,22,31,30,29,28,27,38,37,36,35],
 oa 101 (.mv (.tmp 100)) [39,34,33,21,20,14,13,6,5,4,3,2,1,0,12,11,10,9,8,7,19,18,17,16,15,32,26,25,24,23,22,31,30,29,28,27,38,37,36,35],
 og 102 101 false (.mv (.tmp 0)) [40,39,34,33,21,20,14,13,6,5,4,3,2,1,0,12,11,10,9,8,7,19,18,17,16,15,32,26,25,24,23,22,31,30,29,28,27,38,37,36,35],
 og 103 101 false (.mv (.tmp 0)) [40,39,34,33,21,20,14,13,6,5,4,3,2,1,0,12,11,10,9,8,7,19,18,17,16,15,32,26,25,24,23,22,31,30,29,28,27,38,37,36,35],
 og 104 101 false (.nilc (.tmp 103)) [42,40,39,34,33,21,20,14,13,6,5,4,3,2,1,0,12,11,10,9,8,7,19,18,17,16,15,32,26,25,24,23,22,31,30,29,28,27,38,37,36,35],
 og 105 101 false (.fad 7 (.tmp 104)) [43,42,40,39,34,33,21,20,14,13,6,5,4,3,2,1,0,12,11,10,9,8,7,19,18,17,16,15,32,26,25,24,23,22,31,30,29,28,27,38,37,36,35],
 og 106 101 false (.fad 0 (.tmp 105)) [44,43,42,40,39,34,33,21,20,14,13,6,5,4,3,2,1,0,12,11,10,9,8,7,19,18,17,16,15,32,26,25,24,23,22,31,30,29,28,27,38,37,36,35],
 og 107 101 false (.load1 (.tmp 106)) [45,44,43,42,40,39,34,33,21,20,14,13,6,5,4,3,2,1,0,12,11,10,9,8,7,19,18,17,16,15,32,26,25,24,23,22,31,30,29,28,27,38,37,36,35],
 og 108 101 false (.call (.func 28) [(.tmp 107)]) [46,45,44,43,42,40,39,34,33,21,20,14,13,6,5,4,3,2,1,0,12,11,10,9,8,7,19,18,17,16,15,32,26,25,24,23,22,31,30,29,28,27,38,37,36,35],
 og 109 101 false (.fad 1 (.tmp 3)) [40,39,34,33,21,20,14,13,6,5,4,3,2,1,0,12,11,10,9,8,7,19,18,17,16,15,32,26,25,24,23,22,31,30,29,28,27,38,37,36,35],
 og 110 101 false (.load1 (.tmp 109)) [48,40,39,34,33,21,20,14,13,6,5,4,3,2,1,0,12,11,10,9,8,7,19,18,17,16,15,32,26,25,24,23,22,31,30,29,28,27,38,37,36,35],
 og 111 101 false (.call (.func 27) [(.tmp 102), (.tmp 108), (.tmp 110)]) [41,40,39,34,33,21,20,14,13,6,5,4,3,2,1,0,12,11,10,9,8,7,19,18,17,16,15,32,26,25,24,23,22,31,30,29,28,27,38,37,36,35,47,46,45,44,43,42,49,48],
 og 112 101 false (.un .not (.tmp 111)) [50,41,40,39,34,33,21,20,14,13,6,5,4,3,2,1,0,12,11,10,9,8,7,19,18,17,16,15,32,26,25,24,23,22,31,30,29,28,27,38,37,36,35,47,46,45,44,43,42,49,48],
 oa 113 (.pick (.tmp 101) (.const (.bool true)) (.tmp 112)) [40,39,34,33,21,20,14,13,6,5,4,3,2,1,0,12,11,10,9,8,7,19,18,17,16,15,32,26,25,24,23,22,31,30,29,28,27,38,37,36,35,51,50,41,47,46,45,44,43,42,49,48]] [61,62,63,64,65,66,67,68,69,70,71,72,73,74,75,76,77,78,79,80,81,82,83,84,85,86,87,88,89,90,91,92,93,94,95,96,97,98,99,100,101,102,103,104,105,106,107,108,109,110,111,112])
 (.cond (.tmp 113)
 (.seq
 (.region false [oo 4 (.mv (.const (.bool false)))] [])
 .ret)
 .skip))
 (.region false [oo 114 (.mv (.tmp 0)),
 oo 115 (.fad 1 (.tmp 3)),
 oo 116 (.load1 (.tmp 115)),
 oo 117 (.nilc (.tmp 114)),
 oo 118 (.fad 7 (.tmp 117)),
 oo 119 (.fad 1 (.tmp 118)),
 on (.store 1 (.tmp 119) (.tmp 116))] [114,115,116,117,118,119]))
 (.seq
 (.region false [oo 121 (.fad 1 (.tmp 3)),
 oo 122 (.load1 (.tmp 121)),
 oo 123 (.bin .neq (.tmp 122) (kI 0)),
 oo 120 (.mv (.tmp 123))] [121,122,123])
 (.cond (.tmp 120)
 (.seq
 (.region false [oo 4 (.mv (.const (.bool false)))] [])
 .ret)
 (.seq
 (.region false [oo 125 (.fad 0 (.tmp 3)),
 oo 126 (.load1 (.tmp 125)),
 oo 127 (.bin .eql (.tmp 126) (kI 3)),
 oo 128 (.mv (.tmp 127)),
 og 129 128 true (.mv (.tmp 0)) [],
 og 130 128 true (.nilc (.tmp 129)) [],
 og 131 128 true (.fad 7 (.tmp 130)) [],
 og 132 128 true (.fad 0 (.tmp 131)) [],
 og 133 128 true (.load1 (.tmp 132)) [],
 og 134 128 true (.bin .gtr (.tmp 133) (kI 0)) [],
 oo 135 (.pick (.tmp 128) (.tmp 134) (.const (.bool false))),
 oo 124 (.mv (.tmp 135))] [125,126,127,128,129,130,131,132,133,134,135])
 (.cond (.tmp 124)
 (.region false [oo 136 (.mv (.tmp 0)),
 oo 137 (.mv (.tmp 0)),
 oo 138 (.nilc (.tmp 136)),
 oo 139 (.fad 7 (.tmp 138)),
 oo 140 (.fad 2 (.tmp 139)),
 on (.store 1 (.tmp 140) (kI 0)),
 oo 141 (.nilc (.tmp 137)),
 oo 142 (.fad 12 (.tmp 141)),
 on (.store 1 (.tmp 142) (.const (.bool true)))] [136,137,138,139,140,141,142])
 (.seq
 (.region false [oo 144 (.fad 0 (.tmp 3)),
 oo 145 (.load1 (.tmp 144)),
 oo 146 (.bin .eql (.tmp 145) (kI 5)),
 oo 147 (.mv (.tmp 146)),
 og 148 147 true (.mv (.tmp 0)) [],
 og 149 147 true (.nilc (.tmp 148)) [],
 og 150 147 true (.fad 7 (.tmp 149)) [],
 og 151 147 true (.fad 1 (.tmp 150)) [],
 og 152 147 true (.load1 (.tmp 151)) [],
 og 153 147 true (.bin .gtr (.tmp 152) (kI 0)) [],
 oo 154 (.pick (.tmp 147) (.tmp 153) (.const (.bool false))),
 oo 143 (.mv (.tmp 154))] [144,145,146,147,148,149,150,151,152,153,154])
 (.cond (.tmp 143)
 (.seq
 (.region false [oo 155 (.mv (.tmp 0)),
 oo 156 (.nilc (.tmp 155)),
 oo 157 (.fad 7 (.tmp 156)),
 oo 158 (.fad 1 (.tmp 157)),
 on (.store 1 (.tmp 158) (kI 0))] [155,156,157,158])
 (.region false [oo 159 (.mv (.tmp 0)),
 oo 160 (.nilc (.tmp 159)),
 oo 161 (.fad 7 (.tmp 160)),
 oo 162 (.fad 3 (.tmp 161)),
 oo 163 (.load1 (.tmp 162)),
 oo 164 (.bin .add (.tmp 163) (kI 1)),
 oo 165 (.nilc (.tmp 159)),
 oo 166 (.fad 7 (.tmp 165)),
 oo 167 (.fad 3 (.tmp 166)),
 on (.store 1 (.tmp 167) (.tmp 164))] [159,160,161,162,163,164,165,166,167]))
 (.seq
 (.region false [oo 169 (.fad 0 (.tmp 3)),
 oo 170 (.load1 (.tmp 169)),
 oo 171 (.bin .eql (.tmp 170) (kI 6)),
 oo 168 (.mv (.tmp 171))] [169,170,171])
 (.cond (.tmp 168)
 (.region false [oo 172 (.mv (.tmp 0)),
 oo 173 (.mv (.tmp 0)),
 oo 174 (.mv (.tmp 0)),
 oo 175 (.nilc (.tmp 172)),
 oo 176 (.fad 7 (.tmp 175)),
 oo 177 (.fad 0 (.tmp 176)),
 on (.store 1 (.tmp 177) (kI 0)),
 oo 178 (.nilc (.tmp 173)),
 oo 179 (.fad 7 (.tmp 178)),
 oo 180 (.fad 1 (.tmp 179)),
 on (.store 1 (.tmp 180) (kI 0)),
 oo 181 (.nilc (.tmp 174)),
 oo 182 (.fad 7 (.tmp 181)),
 oo 183 (.fad 4 (.tmp 182)),
 on (.store 1 (.tmp 183) (.const (.bool true)))] [172,173,174,175,176,177,178,179,180,181,182,183])
 (.seq
 (.region false [oo 4 (.mv (.const (.bool false)))] [])
 .ret))))))))))))))))))
 (.seq
 (.region false [oo 4 (.mv (.const (.bool true)))] [])
 .ret))))
set_option maxRecDepth 100000 in
theorem kpsling_winch_do : IsCode Tryd.prog 12 184 cpsling_winch_do [.tmp 4] :=
 ⟨Tryd.f12, _, [168,143,124,120,113,57,38,20,14,1,0,3,4], Tryd.func12, rfl, by decide, rfl, by kernel_rfl, by kernel_rfl⟩
def csling_at : ACode :=
 (.seq
 (.region false [oo 2 (.mem [(.val (.int .i64 0)), (.val (.int .i64 0))])] [])
 (.seq
 (.region false [oo 3 (.mv (.tmp 0)),
 oo 4 (.mv (.tmp 0)),
 oo 5 (.build [(.val (.int .i64 0)), (.val (.int .i64 0))] [(0,1, (.tmp 3)), (1,1, (.tmp 4))]),
 on (.store 2 (.tmp 2) (.tmp 5))] [3,4,5])
 .ret))
set_option maxRecDepth 100000 in
theorem ksling_at : IsCode Tryd.prog 28 6 csling_at [.cellN 2 2] :=
 ⟨Tryd.f28, _, [0,2], Tryd.func28, rfl, by decide, rfl, by kernel_rfl, by kernel_rfl⟩
def csling_Haul : ACode :=
 (.seq
 (.region false [oo 3 (.box (.tmp 0)),
 oo 4 (.box (.tmp 1)),
 oo 6 (.mem [(.val (.int .i64 0)), (.val (.int .i64 0)), (.val (.int .i64 0)), (.val (.int .i64 0)), (.val (.bool false))]),
 oo 7 (.mv (kI 0)),
 oo 8 (.mv (kI 0))] [])
 (.seq
 (.region false [oo 14 (.loadN 5 (.tmp 3)),
 oo 15 (.loadN 2 (.tmp 4)),
 oo 16 (.call (.func 11) [(.tmp 14), (.tmp 15)]),
 oo 13 (.mv (.tmp 16)),
 oo 17 (.ext (.tmp 13) 0),
 oo 18 (.ext (.tmp 13) 1),
 oo 19 (.ext (.tmp 13) 2),
 oo 9 (.mv (.tmp 17)),
 oo 10 (.mv (.tmp 18)),
 oo 8 (.mv (.tmp 19))] [14,15,16,13,17,18,19])
 (.seq
 (.block 0
 (.seq
 (.region false [oo 21 (.mv (.tmp 8)),
 oo 22 (.bin .neq (.tmp 21) (kI 0)),
 oo 20 (.mv (.tmp 22))] [21,22])
 (.cond (.tmp 20)
 (.seq
 (.region false [oo 23 (.build [(.val (.int .i64 0)), (.val (.int .i64 0)), (.val (.int .i64 0)), (.val (.int .i64 0)), (.val (.bool false))] []),
 oo 24 (.mv (.tmp 8)),
 on (.store 5 (.tmp 6) (.tmp 23)),
 oo 7 (.mv (kI 0)),
 oo 8 (.mv (.tmp 24))] [23,24])
 .ret)
 (.seq
 (.region false [oo 26 (.mv (.tmp 2)),
 oo 27 (.len_ (.tmp 26)),
 oo 28 (.bin .gtr (.tmp 27) (kI 100)),
 oo 25 (.mv (.tmp 28))] [26,27,28])
 (.cond (.tmp 25)
 (.seq
 (.region false [oo 29 (.build [(.val (.int .i64 0)), (.val (.int .i64 0)), (.val (.int .i64 0)), (.val (.int .i64 0)), (.val (.bool false))] []),
 on (.store 5 (.tmp 6) (.tmp 29)),
 oo 7 (.mv (kI 0)),
 oo 8 (.mv (kI 2))] [29])
 .ret)
 (.seq
 (.region false [oo 31 (.mv (.tmp 10)),
 oo 32 (.un .not (.tmp 31)),
 oo 30 (.mv (.tmp 32))] [31,32])
 (.cond (.tmp 30)
 (.seq
 (.region false [oo 33 (.build [(.val (.int .i64 0)), (.val (.int .i64 0)), (.val (.int .i64 0)), (.val (.int .i64 0)), (.val (.bool false))] []),
 on (.store 5 (.tmp 6) (.tmp 33)),
 oo 7 (.mv (kI 0)),
 oo 8 (.mv (kI 1))] [33])
 .ret)
 .skip)))))))
 (.seq
 (.seq
 (.region false [oo 34 (.mv (.tmp 2)),
 oo 35 (.len_ (.tmp 34)),
 oo 36 (.mv (kI 0))] [])
 (.block 1
 (.loop
 (.seq
 (.region false [oo 37 (.bin .lss (.tmp 36) (.tmp 35))] [])
 (.seq
 (.cond (.tmp 37)
 .skip
 (.exit 1))
 (.seq
 (.block 2
 (.seq
 (.region false [oo 38 (.mv (.tmp 36)),
 oo 39 (.iadS 2 (.tmp 34) (.tmp 36)),
 oo 40 (.loadN 2 (.tmp 39)),
 oo 12 (.mem [(.val (.int .i64 0)), (.val (.int .i64 0))]),
 oo 11 (.mv (.tmp 38)),
 on (.store 2 (.tmp 12) (.tmp 40))] [38,39,40])
 (.seq
 (.region false [oo 41 (.mv (.tmp 9)),
 oo 42 (.loadN 2 (.tmp 12)),
 oo 43 (.call (.func 12) [(.tmp 41), (.tmp 42)]),
 oo 44 (.un .not (.tmp 43))] [41,42,43])
 (.cond (.tmp 44)
 (.seq
 (.region false [oo 45 (.build [(.val (.int .i64 0)), (.val (.int .i64 0)), (.val (.int .i64 0)), (.val (.int .i64 0)), (.val (.bool false))] []),
 oo 46 (.mv (.tmp 11)),
 on (.store 5 (.tmp 6) (.tmp 45)),
 oo 7 (.mv (.tmp 46)),
 oo 8 (.mv (kI 72))] [45,46])
 .ret)
 .skip))))
 (.region false [oo 47 (.bin .add (.tmp 36) (kI 1)),
 oo 36 (.mv (.tmp 47))] [47])))))))
 (.seq
 (.region false [oo 48 (.mv (.tmp 9)),
 oo 49 (.nilc (.tmp 48)),
 oo 50 (.fad 7 (.tmp 49)),
 oo 51 (.loadN 5 (.tmp 50)),
 on (.store 5 (.tmp 6) (.tmp 51)),
 oo 7 (.mv (kI 0)),
 oo 8 (.mv (kI 0))] [48,49,50,51])
 .ret)))))
set_option maxRecDepth 100000 in
theorem ksling_Haul : IsCode Tryd.prog 5 52 csling_Haul [.cellN 6 5, .tmp 7, .tmp 8] :=
 ⟨Tryd.f5, _, [44,37,30,25,20,0,1,3,4,8,6,2,10,36,35,34,9,12,11,7], Tryd.func5, rfl, by decide, rfl, by kernel_rfl, by kernel_rfl⟩
end Go.Proofs.YtgibbaadjbohdaaDoor
/- The functions' bodies, translated. Written by a program; no conditions. -/
namespace Go.Proofs.YtgibbaadjbohdaaDoor
open Go.RowKit Lift

def cspans_within : ACode :=
 (.seq
 (.region false [oo 6 (.mv (.const (.bool false)))] [])
 (.seq
 (.region false [oo 7 (.mv (.tmp 0)),
 oo 8 (.mv (.tmp 1)),
 oo 9 (.bin .geq (.tmp 7) (.tmp 8)),
 oo 10 (.mv (.tmp 9)),
 og 11 10 true (.mv (.tmp 0)) [],
 og 12 10 true (.mv (.tmp 2)) [],
 og 13 10 true (.bin .leq (.tmp 11) (.tmp 12)) [],
 oo 14 (.pick (.tmp 10) (.tmp 13) (.const (.bool false))),
 oo 6 (.mv (.tmp 14))] [7,8,9,10,11,12,13,14])
 .ret))
set_option maxRecDepth 100000 in
theorem kspans_within : IsCode Tryd.prog 39 15 cspans_within [.tmp 6] :=
 ⟨Tryd.f39, _, [0,1,2,6], Tryd.func39, rfl, by decide, rfl, by kernel_rfl, by kernel_rfl⟩
def cspans_valid : ACode :=
 (.seq
 (.region false [oo 1 (.box (.tmp 0)),
 oo 2 (.mv (.const (.bool false)))] [])
 (.seq
 (.region false [oo 3 (.fad 0 (.tmp 1)),
 oo 4 (.load1 (.tmp 3)),
 oo 5 (.fad 1 (.tmp 1)),
 oo 6 (.load1 (.tmp 5)),
 oo 7 (.call (.func 39) [(.tmp 4), (kI (-1000000)), (.tmp 6)]),
 oo 8 (.mv (.tmp 7)),
 og 9 8 true (.fad 1 (.tmp 1)) [],
 og 10 8 true (.load1 (.tmp 9)) [],
 og 11 8 true (.bin .leq (.tmp 10) (kI 1000000)) [],
 oo 12 (.pick (.tmp 8) (.tmp 11) (.const (.bool false))),
 oo 2 (.mv (.tmp 12))] [3,4,5,6,7,8,9,10,11,12])
 .ret))
set_option maxRecDepth 100000 in
theorem kspans_valid : IsCode Tryd.prog 59 13 cspans_valid [.tmp 2] :=
 ⟨Tryd.f59, _, [0,1,2], Tryd.func59, rfl, by decide, rfl, by kernel_rfl, by kernel_rfl⟩
def cspans_spanned_S1 : ACode :=
 (.seq
 (.region false [oo 1 (.box (.tmp 0)),
 oo 2 (.mv (.const (.bool false)))] [])
 (.seq
 (.region false [oo 3 (.loadN 2 (.tmp 1)),
 oo 4 (.call (.func 59) [(.tmp 3)]),
 oo 5 (.un .not (.tmp 4)),
 oo 2 (.mv (.tmp 5))] [3,4,5])
 .ret))
set_option maxRecDepth 100000 in
theorem kspans_spanned_S1 : IsCode Tryd.prog 58 6 cspans_spanned_S1 [.tmp 2] :=
 ⟨Tryd.f58, _, [0,1,2], Tryd.func58, rfl, by decide, rfl, by kernel_rfl, by kernel_rfl⟩
def cslices_IndexFunc_L_L_Japi_Span_Kapi_Span_J : ACode :=
 (.seq
 (.region false [oo 4 (.mv (kI 0))] [])
 (.seq
 (.seq
 (.region false [oo 6 (.mv (.tmp 0)),
 oo 7 (.len_ (.tmp 6)),
 oo 8 (.mv (kI 0))] [6])
 (.block 0
 (.loop
 (.seq
 (.region false [oo 9 (.bin .lss (.tmp 8) (.tmp 7))] [])
 (.seq
 (.cond (.tmp 9)
 .skip
 (.exit 0))
 (.seq
 (.block 1
 (.seq
 (.region false [oo 10 (.mv (.tmp 8)),
 oo 5 (.mv (.tmp 10))] [10])
 (.seq
 (.region false [oo 11 (.mv (.tmp 1)),
 oo 12 (.mv (.tmp 0)),
 oo 13 (.mv (.tmp 5)),
 oo 14 (.iadS 2 (.tmp 12) (.tmp 13)),
 oo 15 (.loadN 2 (.tmp 14)),
 oo 16 (.call (.tmp 11) [(.tmp 15)])] [11,12,13,14,15])
 (.cond (.tmp 16)
 (.seq
 (.region false [oo 17 (.mv (.tmp 5)),
 oo 4 (.mv (.tmp 17))] [17])
 .ret)
 .skip))))
 (.region false [oo 18 (.bin .add (.tmp 8) (kI 1)),
 oo 8 (.mv (.tmp 18))] [18])))))))
 (.seq
 (.region false [oo 4 (.mv (kI (-1)))] [])
 .ret)))
set_option maxRecDepth 100000 in
theorem kslices_IndexFunc_L_L_Japi_Span_Kapi_Span_J : IsCode Tryd.prog 72 19 cslices_IndexFunc_L_L_Japi_Span_Kapi_Span_J [.tmp 4] :=
 ⟨Tryd.f72, _, [16,9,0,8,7,1,5,4], Tryd.func72, rfl, by decide, rfl, by kernel_rfl, by kernel_rfl⟩
def cslices_ContainsFunc_L_L_Japi_Span_Kapi_Span_J : ACode :=
 (.seq
 (.region false [oo 4 (.mv (.const (.bool false)))] [])
 (.seq
 (.region false [oo 5 (.mv (.tmp 0)),
 oo 6 (.mv (.tmp 1)),
 oo 7 (.call (.func 72) [(.tmp 5), (.tmp 6)]),
 oo 8 (.bin .geq (.tmp 7) (kI 0)),
 oo 4 (.mv (.tmp 8))] [5,6,7,8])
 .ret))
set_option maxRecDepth 100000 in
theorem kslices_ContainsFunc_L_L_Japi_Span_Kapi_Span_J : IsCode Tryd.prog 57 9 cslices_ContainsFunc_L_L_Japi_Span_Kapi_Span_J [.tmp 4] :=
 ⟨Tryd.f57, _, [0,1,4], Tryd.func57, rfl, by decide, rfl, by kernel_rfl, by kernel_rfl⟩
def cspans_spanned : ACode :=
 (.seq
 (.region false [oo 2 (.mv (kI 0))] [])
 (.seq
 (.seq
 (.region false [oo 3 (.mv (.tmp 0)),
 oo 4 (.call (.func 57) [(.tmp 3), (.func 58)])] [3])
 (.cond (.tmp 4)
 (.seq
 (.region false [oo 2 (.mv (kI 10))] [])
 .ret)
 .skip))
 (.seq
 (.region false [oo 2 (.mv (kI 0))] [])
 .ret)))
set_option maxRecDepth 100000 in
theorem kspans_spanned : IsCode Tryd.prog 34 5 cspans_spanned [.tmp 2] :=
 ⟨Tryd.f34, _, [4,0,2], Tryd.func34, rfl, by decide, rfl, by kernel_rfl, by kernel_rfl⟩
def cspans_Check : ACode :=
 (.seq
 (.region false [oo 2 (.mv (kI 0))] [])
 (.seq
 (.seq
 (.region false [oo 3 (.mv (.tmp 0)),
 oo 4 (.len_ (.tmp 3)),
 oo 5 (.call (.func 39) [(.tmp 4), (kI 1), (kI 3)]),
 oo 6 (.un .not (.tmp 5))] [3,4,5])
 (.cond (.tmp 6)
 (.seq
 (.region false [oo 2 (.mv (kI 10))] [])
 .ret)
 .skip))
 (.seq
 (.region false [oo 7 (.mv (.tmp 0)),
 oo 8 (.call (.func 34) [(.tmp 7)]),
 oo 2 (.mv (.tmp 8))] [7,8])
 .ret)))
set_option maxRecDepth 100000 in
theorem kspans_Check : IsCode Tryd.prog 24 9 cspans_Check [.tmp 2] :=
 ⟨Tryd.f24, _, [6,0,2], Tryd.func24, rfl, by decide, rfl, by kernel_rfl, by kernel_rfl⟩
def cslices_IndexFunc_L_L_Jint_Kint_J : ACode :=
 (.seq
 (.region false [oo 4 (.mv (kI 0))] [])
 (.seq
 (.seq
 (.region false [oo 6 (.mv (.tmp 0)),
 oo 7 (.len_ (.tmp 6)),
 oo 8 (.mv (kI 0))] [6])
 (.block 0
 (.loop
 (.seq
 (.region false [oo 9 (.bin .lss (.tmp 8) (.tmp 7))] [])
 (.seq
 (.cond (.tmp 9)
 .skip
 (.exit 0))
 (.seq
 (.block 1
 (.seq
 (.region false [oo 10 (.mv (.tmp 8)),
 oo 5 (.mv (.tmp 10))] [10])
 (.seq
 (.region false [oo 11 (.mv (.tmp 1)),
 oo 12 (.mv (.tmp 0)),
 oo 13 (.mv (.tmp 5)),
 oo 14 (.iadS 1 (.tmp 12) (.tmp 13)),
 oo 15 (.load1 (.tmp 14)),
 oo 16 (.call (.tmp 11) [(.tmp 15)])] [11,12,13,14,15])
 (.cond (.tmp 16)
 (.seq
 (.region false [oo 17 (.mv (.tmp 5)),
 oo 4 (.mv (.tmp 17))] [17])
 .ret)
 .skip))))
 (.region false [oo 18 (.bin .add (.tmp 8) (kI 1)),
 oo 8 (.mv (.tmp 18))] [18])))))))
 (.seq
 (.region false [oo 4 (.mv (kI (-1)))] [])
 .ret)))
set_option maxRecDepth 100000 in
theorem kslices_IndexFunc_L_L_Jint_Kint_J : IsCode Tryd.prog 70 19 cslices_IndexFunc_L_L_Jint_Kint_J [.tmp 4] :=
 ⟨Tryd.f70, _, [16,9,0,8,7,1,5,4], Tryd.func70, rfl, by decide, rfl, by kernel_rfl, by kernel_rfl⟩
def cslices_ContainsFunc_L_L_Jint_Kint_J : ACode :=
 (.seq
 (.region false [oo 4 (.mv (.const (.bool false)))] [])
 (.seq
 (.region false [oo 5 (.mv (.tmp 0)),
 oo 6 (.mv (.tmp 1)),
 oo 7 (.call (.func 70) [(.tmp 5), (.tmp 6)]),
 oo 8 (.bin .geq (.tmp 7) (kI 0)),
 oo 4 (.mv (.tmp 8))] [5,6,7,8])
 .ret))
set_option maxRecDepth 100000 in
theorem kslices_ContainsFunc_L_L_Jint_Kint_J : IsCode Tryd.prog 54 9 cslices_ContainsFunc_L_L_Jint_Kint_J [.tmp 4] :=
 ⟨Tryd.f54, _, [0,1,4], Tryd.func54, rfl, by decide, rfl, by kernel_rfl, by kernel_rfl⟩
def cslices_IndexFunc_L_L_J_L_Jint_K_L_Jint_J : ACode :=
 (.seq
 (.region false [oo 4 (.mv (kI 0))] [])
 (.seq
 (.seq
 (.region false [oo 6 (.mv (.tmp 0)),
 oo 7 (.len_ (.tmp 6)),
 oo 8 (.mv (kI 0))] [6])
 (.block 0
 (.loop
 (.seq
 (.region false [oo 9 (.bin .lss (.tmp 8) (.tmp 7))] [])
 (.seq
 (.cond (.tmp 9)
 .skip
 (.exit 0))
 (.seq
 (.block 1
 (.seq
 (.region false [oo 10 (.mv (.tmp 8)),
 oo 5 (.mv (.tmp 10))] [10])
 (.seq
 (.region false [oo 11 (.mv (.tmp 1)),
 oo 12 (.mv (.tmp 0)),
 oo 13 (.mv (.tmp 5)),
 oo 14 (.iadS 1 (.tmp 12) (.tmp 13)),
 oo 15 (.load1 (.tmp 14)),
 oo 16 (.call (.tmp 11) [(.tmp 15)])] [11,12,13,14,15])
 (.cond (.tmp 16)
 (.seq
 (.region false [oo 17 (.mv (.tmp 5)),
 oo 4 (.mv (.tmp 17))] [17])
 .ret)
 .skip))))
 (.region false [oo 18 (.bin .add (.tmp 8) (kI 1)),
 oo 8 (.mv (.tmp 18))] [18])))))))
 (.seq
 (.region false [oo 4 (.mv (kI (-1)))] [])
 .ret)))
set_option maxRecDepth 100000 in
theorem kslices_IndexFunc_L_L_J_L_Jint_K_L_Jint_J : IsCode Tryd.prog 71 19 cslices_IndexFunc_L_L_J_L_Jint_K_L_Jint_J [.tmp 4] :=
 ⟨Tryd.f71, _, [16,9,0,8,7,1,5,4], Tryd.func71, rfl, by decide, rfl, by kernel_rfl, by kernel_rfl⟩
def cslices_ContainsFunc_L_L_J_L_Jint_K_L_Jint_J : ACode :=
 (.seq
 (.region false [oo 4 (.mv (.const (.bool false)))] [])
 (.seq
 (.region false [oo 5 (.mv (.tmp 0)),
 oo 6 (.mv (.tmp 1)),
 oo 7 (.call (.func 71) [(.tmp 5), (.tmp 6)]),
 oo 8 (.bin .geq (.tmp 7) (kI 0)),
 oo 4 (.mv (.tmp 8))] [5,6,7,8])
 .ret))
set_option maxRecDepth 100000 in
theorem kslices_ContainsFunc_L_L_J_L_Jint_K_L_Jint_J : IsCode Tryd.prog 56 9 cslices_ContainsFunc_L_L_J_L_Jint_K_L_Jint_J [.tmp 4] :=
 ⟨Tryd.f56, _, [0,1,4], Tryd.func56, rfl, by decide, rfl, by kernel_rfl, by kernel_rfl⟩
end Go.Proofs.YtgibbaadjbohdaaDoor
/- The functions' bodies, translated. Written by a program; no conditions. -/
namespace Go.Proofs.YtgibbaadjbohdaaDoor
open Go.RowKit Lift

def csling_within : ACode :=
 (.seq
 (.region false [oo 6 (.mv (.const (.bool false)))] [])
 (.seq
 (.region false [oo 7 (.mv (.tmp 0)),
 oo 8 (.mv (.tmp 1)),
 oo 9 (.bin .geq (.tmp 7) (.tmp 8)),
 oo 10 (.mv (.tmp 9)),
 og 11 10 true (.mv (.tmp 0)) [],
 og 12 10 true (.mv (.tmp 2)) [],
 og 13 10 true (.bin .leq (.tmp 11) (.tmp 12)) [],
 oo 14 (.pick (.tmp 10) (.tmp 13) (.const (.bool false))),
 oo 6 (.mv (.tmp 14))] [7,8,9,10,11,12,13,14])
 .ret))
set_option maxRecDepth 100000 in
theorem ksling_within : IsCode Tryd.prog 25 15 csling_within [.tmp 6] :=
 ⟨Tryd.f25, _, [0,1,2,6], Tryd.func25, rfl, by decide, rfl, by kernel_rfl, by kernel_rfl⟩
end Go.Proofs.YtgibbaadjbohdaaDoor
/- Loads that swing, in numbers: bounds, sums, lowest terms. No conditions. -/
namespace Go.Proofs.YtgibbaadjbohdaaDoor

structure Slg where
  num : Int
  damp : Int
  den : Int
structure OkS (s : Slg) : Prop where
  d1 : 1 ≤ s.den
  d2 : s.den ≤ 4
  n1 : 0 ≤ s.num
  n2 : s.num ≤ 2 * s.den
  p1 : 0 ≤ s.damp
  p2 : s.damp ≤ s.den
def tk (s : Slg) (x : Int × Int × Int) (g : Int) : Int × Int × Int :=
  (s.den * x.1 + (s.den * x.2.1 - s.num * x.1 - s.damp * x.2.1 + g * (x.2.2 * s.den)), s.den * x.2.1 - s.num * x.1 - s.damp * x.2.1 + g * (x.2.2 * s.den), x.2.2 * s.den)
def run (s : Slg) (x : Int × Int × Int) (gs : List Int) : Int × Int × Int := gs.foldl (tk s) x
def ab (x : Int) : Int := if x < 0 then -x else x
def capN : Int := 1000000000000000
/-! ### sums of swings -/
/-! ### lowest terms -/
def gc (num den : Int) : Int := (Int.gcd num den : Int)
/-! ### which fraction is less -/
/-! ### the parts of a displacement -/
def unitI (i : Nat) : Int × Int × Int := (if i = 0 then 1 else 0, if i = 1 then 1 else 0, 1)
def gustI (i t : Nat) : Int := if i = t + 2 then 1 else 0
def rowI (n i : Nat) : List Int := (List.range n).map (gustI i)
def part (s : Slg) (n i : Nat) : Int := (run s (unitI i) (rowI n i)).1
/-! ### sets -/
structure SetS where
  s : Slg
  b0 : Int × Int
  b1 : Int × Int
  g : Int × Int
structure OkX (x : SetS) : Prop where
  s : OkS x.s
  a1 : -1000 ≤ x.b0.1
  a2 : x.b0.1 ≤ x.b0.2
  a3 : x.b0.2 ≤ 1000
  v1 : -1000 ≤ x.b1.1
  v2 : x.b1.1 ≤ x.b1.2
  v3 : x.b1.2 ≤ 1000
  g1 : -100 ≤ x.g.1
  g2 : x.g.1 ≤ x.g.2
  g3 : x.g.2 ≤ 100
end Go.Proofs.YtgibbaadjbohdaaDoor
/- sling: the small functions. No conditions. -/
namespace Go.Proofs.YtgibbaadjbohdaaDoor
open Go.RowKit Lift

theorem in_agg2 (S : Nat → Prop) (a b : Value) : In S (.agg [.val a, .val b]) := .agg _ (by intro d hd; simp at hd; rcases hd with rfl | rfl <;> exact .val _)
set_option maxRecDepth 100000 in
set_option maxHeartbeats 1000000 in
theorem slwithin_ac (n a b : Int) : AC Tryd.prog 25 [dI n, dI a, dI b] [] [] (dB (wI n a b)) := by
  refine ksling_within.ac (n0 := 0) (by simp) ⟨.val _, .val _, .val _, trivial⟩ trivial rfl ?_
  unfold csling_within dI dB wI
  (have hg : (987654321 : Nat) - 987654321 = 0 := rfl; have hr := hg; repeat' (first | apply aw_seq | ((first | apply aw_skip | apply aw_exit); try simp only [thenQ, blockQ, if_true, if_false, Nat.reduceEqDiff, reduceCtorEq]) | apply aw_ret | apply aw_block | apply aw_condT rfl | apply aw_condF rfl | (refine aw_cond rfl (fun hg => ?_) (fun hg => ?_) <;> (try (have hq := hg; simp only [Bool.not_eq_true', Bool.not_eq_false', Bool.and_eq_true, Bool.and_eq_false_iff, Bool.or_eq_true, Bool.or_eq_false_iff, decide_eq_true_eq, decide_eq_false_iff_not, bne_iff_ne, beq_iff_eq, beq_eq_false_iff_ne, bne_eq_false_iff_eq, ne_eq, Int.not_lt, Int.not_le, Decidable.not_not] at hq)) <;> (try (have hr := hg; simp only [decide_eq_true_eq, decide_eq_false_iff_not] at hr)) <;> (try (exfalso; omega))) | (refine ag_bool (fun hg => ?_) (fun hg => ?_) <;> (try (have hq := hg; simp only [Bool.not_eq_true', Bool.not_eq_false', Bool.and_eq_true, Bool.and_eq_false_iff, Bool.or_eq_true, Bool.or_eq_false_iff, decide_eq_true_eq, decide_eq_false_iff_not, bne_iff_ne, beq_iff_eq, beq_eq_false_iff_ne, bne_eq_false_iff_eq, ne_eq, Int.not_lt, Int.not_le, Decidable.not_not] at hq)) <;> (try (have hr := hg; simp only [decide_eq_true_eq, decide_eq_false_iff_not] at hr)) <;> (try (exfalso; omega)) <;> simp (disch := first | exact okY | omega) only [ARun_nil, ARun_none, ARun_some, ARun_skip, AOpRun, AGo_f, AGo_ok, AG_tt, AG_ff, AG_tf, AG_ft, AG_un, aexec, run1, asI, elems, base, opt1, fillD, splice, abin, ash, isSh, foldI, mn2, mx2, ↓eget_h, eget_c, eget_n, eput_c, eput_n, putO, ↓hget_h, hget_c, hget_n, hput_c, hput_n, hdel_c, hdel_n, hups, cond_true, cond_false,  ups, St.F, St.app, FSt.ev, dropE_c, dropE_n, inL_c, inL_n, envOf, thenQ, blockQ, D.isBot, D.isAgg, D.cells, D.leaf, scalarEq, eqCells, isB, Option.map, List.map, List.length, List.all, List.append, List.take, List.drop, List.cons_append, List.nil_append, List.append_nil, Option.isSome, List.getElem?_cons_zero, List.getElem?_cons_succ, if_true, if_false, true_and, and_true, Bool.not_true, Bool.not_false, Bool.true_or, Bool.false_or, Bool.or_true, Bool.or_false, Bool.false_eq_true, ↓reduceIte, Nat.reduceAdd, Nat.reduceMul, Nat.reduceEqDiff, Nat.reduceBEq, Nat.reduceSub, Nat.zero_add, Nat.reduceLeDiff, Nat.reduceGT, Nat.reduceLT, Nat.reduceBNe, okLog_f, reduceCtorEq, or_self, or_false, false_or, or_true, true_or, and_self, and_false, false_and, not_true_eq_false, not_false_eq_true, ne_eq, Bool.and_true, Bool.true_and, Bool.and_false, Bool.false_and, decide_eq_true_eq, decide_true, decide_false, Int.reduceBEq, Int.reduceBNe, Int.reduceLT, Int.reduceLE, Int.reduceAdd, Int.reduceSub, Int.reduceMul, Int.reduceNeg, Int.reduceEq, Int.toNat_zero, Int.reduceToNat, Int.zero_lt_one, Nat.zero_le, Int.le_refl, beq_self_eq_true, bne_self_eq_false, cast_lit, fits, wrap_in, Int.toNat_natCast, Int.natCast_nonneg, ge_iff_le, hg, hr]) | ((first | refine aw_region ?_ | refine ago_if (by omega) ?_ | skip); simp (disch := first | exact okY | omega) only [ARun_nil, ARun_none, ARun_some, ARun_skip, AOpRun, AGo_f, AGo_ok, AG_tt, AG_ff, AG_tf, AG_ft, AG_un, aexec, run1, asI, elems, base, opt1, fillD, splice, abin, ash, isSh, foldI, mn2, mx2, ↓eget_h, eget_c, eget_n, eput_c, eput_n, putO, ↓hget_h, hget_c, hget_n, hput_c, hput_n, hdel_c, hdel_n, hups, cond_true, cond_false,  ups, St.F, St.app, FSt.ev, dropE_c, dropE_n, inL_c, inL_n, envOf, thenQ, blockQ, D.isBot, D.isAgg, D.cells, D.leaf, scalarEq, eqCells, isB, Option.map, List.map, List.length, List.all, List.append, List.take, List.drop, List.cons_append, List.nil_append, List.append_nil, Option.isSome, List.getElem?_cons_zero, List.getElem?_cons_succ, if_true, if_false, true_and, and_true, Bool.not_true, Bool.not_false, Bool.true_or, Bool.false_or, Bool.or_true, Bool.or_false, Bool.false_eq_true, ↓reduceIte, Nat.reduceAdd, Nat.reduceMul, Nat.reduceEqDiff, Nat.reduceBEq, Nat.reduceSub, Nat.zero_add, Nat.reduceLeDiff, Nat.reduceGT, Nat.reduceLT, Nat.reduceBNe, okLog_f, reduceCtorEq, or_self, or_false, false_or, or_true, true_or, and_self, and_false, false_and, not_true_eq_false, not_false_eq_true, ne_eq, Bool.and_true, Bool.true_and, Bool.and_false, Bool.false_and, decide_eq_true_eq, decide_true, decide_false, Int.reduceBEq, Int.reduceBNe, Int.reduceLT, Int.reduceLE, Int.reduceAdd, Int.reduceSub, Int.reduceMul, Int.reduceNeg, Int.reduceEq, Int.toNat_zero, Int.reduceToNat, Int.zero_lt_one, Nat.zero_le, Int.le_refl, beq_self_eq_true, bne_self_eq_false, cast_lit, fits, wrap_in, Int.toNat_natCast, Int.natCast_nonneg, ge_iff_le, hg, hr])))
  all_goals (refine end_q [] [] ?_ ?_ <;> repeat' (first | exact trivial | exact vr_val _ | exact vr_list _ | exact vr_at _ | exact vr_nil | exact vr_cap0 | exact vr_vec _ _ _ _ rfl | exact vr_own _ _ _ _ _ rfl | exact vr_ptr _ _ _ rfl | exact vr_nilv _ _ _ rfl | exact vr_bot _ | exact vr_cap0v _ _ _ rfl | exact vr_cap0l | apply vr_agg | apply vr_tup | apply vr_fn | refine vr_yld _ _ _ rfl ?_ | exact Ren.bot _ | exact Ren.val _ | exact Ren.list _ | exact Ren.at_ _ | exact Ren.ptr _ _ _ rfl | refine Ren.yld _ _ _ _ _ rfl rfl (RenL.get ?_).2 (fun _ _ _ h => h) | refine vr_fl _ _ _ _ _ (by decide) rfl ?_ ?_ ?_ ?_ | refine And.intro ⟨_, rfl, .inl ⟨_, rfl, by decide, ?_⟩⟩ ?_ | refine And.intro ⟨_, rfl, _, rfl, by decide, ?_⟩ ?_ | refine And.intro ⟨_, rfl, .inr ⟨rfl, rfl, of_decide_eq_true (by kernel_rfl)⟩⟩ ?_ | apply And.intro | refine vr_valq ?_ | refine vr_listq ?_ | exact vrl_flat _ (by first | exact icells_in _ | exact rcells_in _ | exact scells_in _ | exact bcells_in _ | assumption) | fail))
structure Small (x : Int × Int × Int) : Prop where
  a1 : -capN ≤ x.1
  a2 : x.1 ≤ capN
  v1 : -capN ≤ x.2.1
  v2 : x.2.1 ≤ capN
  d1 : 1 ≤ x.2.2
  d2 : x.2.2 ≤ 4294967296
end Go.Proofs.YtgibbaadjbohdaaDoor
/- sling: fractions and lists. No conditions. -/
namespace Go.Proofs.YtgibbaadjbohdaaDoor
open Go.RowKit Lift

structure Fra (x : Int × Int) : Prop where
  d1 : 1 ≤ x.2
  d2 : x.2 ≤ 4294967296
  n1 : -4000000000000000 ≤ x.1
  n2 : x.1 ≤ 4000000000000000
end Go.Proofs.YtgibbaadjbohdaaDoor
/- The checks of boxes, on abstract values: both sides. No conditions. -/
namespace Go.Proofs.YtgibbaadjbohdaaDoor
open Go.RowKit Lift

theorem bwithin_ac (n a b : Int) : AC Tryd.prog 39 [dI n, dI a, dI b] [] [] (dB (decide (a ≤ n) && decide (n ≤ b))) := by
  refine kspans_within.ac (n0 := 0) (by simp) ⟨.val _, .val _, .val _, trivial⟩ trivial rfl ?_
  unfold cspans_within
  refine aw_seq (aw_region ?_)
  simp (disch := first | exact okY | omega) only [ZU, dB, Nat.reduceMul, dI, Nat.reduceAdd, AOpRun, aexec, Nat.reduceBEq]
  refine aw_seq (aw_region ?_)
  by_cases h1 : a ≤ n
  · have h1' : n ≥ a := h1
    simp (disch := first | exact okY | omega) only [ZU, h1', Bool.true_and, Nat.reduceAdd, Nat.reduceMul, AOpRun, aexec, ↓eget_h, Nat.reduceBEq, isSh, ↓reduceIte, abin, ARun_some, AG_tt]
    refine aw_ret ?_
    refine end_q [] [] ?_ ?_ <;> repeat' (first | exact trivial | exact vr_val _)
  · have h1' : ¬ n ≥ a := h1
    simp (disch := first | exact okY | omega) only [ZU, h1', decide_false, Bool.false_and, Nat.reduceAdd, Nat.reduceMul, AOpRun, aexec, ↓eget_h, Nat.reduceBEq, isSh, ↓reduceIte, abin, ARun_some, AG_ft]
    refine aw_ret ?_
    refine end_q [] [] ?_ ?_ <;> repeat' (first | exact trivial | exact vr_val _)
theorem valid_ac (x : Int × Int) : AC Tryd.prog 59 [spD x] [] [] (dB (okS x)) := by
  refine kspans_valid.ac (n0 := 0) (by simp) ⟨.agg _ (by intro d hd; simp at hd; rcases hd with rfl | rfl <;> exact .val _), trivial⟩ trivial rfl ?_
  unfold cspans_valid
  refine aw_seq (aw_region ?_)
  simp (disch := first | exact okY | omega) only [ZU, Int.reduceNeg, Nat.reduceAdd, Nat.reduceMul, spD, AOpRun, aexec, D.isBot, ↓eget_h, or_self, ↓reduceIte, D.cells, Nat.reduceBEq]
  refine aw_seq (aw_region ?_)
  simp (disch := first | exact okY | omega) only [ZU, Nat.reduceAdd, Nat.reduceMul, Int.reduceNeg, AOpRun, aexec, Nat.reduceBEq, ↓eget_h, run1]
  refine acall0 (bwithin_ac x.1 (-1000000) x.2) ?_
  by_cases h1 : (decide (-1000000 ≤ x.1) && decide (x.1 ≤ x.2)) = true
  · simp (disch := first | exact okY | omega) only [ZU, dB, Nat.reduceAdd, Int.reduceNeg, h1, Nat.reduceBEq, AOpRun, aexec, ↓eget_h, ARun_some, AG_tt, run1, isSh, ↓reduceIte, abin]
    refine aw_ret ?_
    have e : okS x = decide (x.2 ≤ 1000000) := by unfold okS; rw [h1]; rfl
    rw [e]
    refine end_q [] [] ?_ ?_ <;> repeat' (first | exact trivial | exact vr_val _)
  · have h1' : (decide (-1000000 ≤ x.1) && decide (x.1 ≤ x.2)) = false := by simpa using h1
    simp (disch := first | exact okY | omega) only [ZU, dB, Nat.reduceAdd, Int.reduceNeg, h1', Nat.reduceBEq, AOpRun, aexec, ↓eget_h, ARun_some, AG_ft, ↓reduceIte]
    refine aw_ret ?_
    have e : okS x = false := by unfold okS; rw [h1']; rfl
    rw [e]
    refine end_q [] [] ?_ ?_ <;> repeat' (first | exact trivial | exact vr_val _)
theorem spanned1_ac (x : Int × Int) : AC Tryd.prog 58 [spD x] [] [] (dB (!okS x)) := by
  refine kspans_spanned_S1.ac (n0 := 0) (by simp) ⟨.agg _ (by intro d hd; simp at hd; rcases hd with rfl | rfl <;> exact .val _), trivial⟩ trivial rfl ?_
  unfold cspans_spanned_S1
  refine aw_seq (aw_region ?_)
  simp (disch := first | exact okY | omega) only [ZU, Nat.reduceAdd, Nat.reduceMul, spD, AOpRun, aexec, D.isBot, ↓eget_h, or_self, ↓reduceIte, D.cells, Nat.reduceBEq]
  refine aw_seq (aw_region ?_)
  simp (disch := first | exact okY | omega) only [ZU, Nat.reduceAdd, Nat.reduceMul, AOpRun, aexec, Nat.reduceBEq, ↓eget_h, Nat.reduceLeDiff, ↓reduceIte, List.drop, List.take]
  refine acall0 (valid_ac x) ?_
  simp (disch := first | exact okY | omega) only [ZU, dB, Nat.reduceAdd, Nat.reduceBEq, AOpRun, aexec, ↓eget_h]
  refine aw_ret ?_
  refine end_q [] [] ?_ ?_ <;> repeat' (first | exact trivial | exact vr_val _)
def badAt : Bx → Nat → Option Nat
  | [], _ => none
  | x :: b, k => if okS x = true then badAt b (k + 1) else some k
theorem badAt_none : ∀ (b : Bx) (k : Nat), badAt b k = none ↔ b.all okS = true
  | [], k => by simp [badAt]
  | x :: b, k => by
    unfold badAt
    have := badAt_none b (k + 1)
    by_cases h : okS x = true
    · rw [if_pos h, this]; simp [h]
    · rw [if_neg h]; simp [h]
theorem badAt_drop (b : Bx) (k : Nat) (h : k < b.length) : badAt (b.drop k) k = if okS (lo b k, hi b k) = true then badAt (b.drop (k + 1)) (k + 1) else some k := by
  have : b[k] = (lo b k, hi b k) := by simp [lo, hi, h]
  rw [List.drop_eq_getElem_cons h, this]
  rfl
def idxD : Option Nat → D
  | none => .val (.int .i64 (-1))
  | some k => .val (.int .i64 k)
set_option maxHeartbeats 1000000 in
theorem bindex_ac (b : Bx) (hl : b.length ≤ 1000) : AC Tryd.prog 72 [.list (sps b), .fn 58 [] []] [] [] (idxD (badAt b 0)) := by
  refine kslices_IndexFunc_L_L_Japi_Span_Kapi_Span_J.ac (n0 := 0) (by simp) ⟨.list _, .fn _ _ _ (by simp) (by simp), trivial⟩ trivial rfl ?_
  unfold cslices_IndexFunc_L_L_Japi_Span_Kapi_Span_J
  refine aw_seq (aw_region ?_)
  simp (disch := first | exact okY | omega) only [ZU, Int.reduceNeg, Nat.reduceMul, AOpRun, aexec, Nat.reduceBEq]
  refine aw_seq (aw_seq (aw_region ?_))
  simp (disch := first | exact okY | omega) only [ZU, Int.reduceNeg, Nat.reduceAdd, Nat.reduceMul, AOpRun, aexec, ↓eget_h, Nat.reduceBEq, sps_len]
  refine aw_block (aw_loop (fun k : Nat => ⟨[(0, .list (sps b)), (1, .fn 58 [] []), (7, .val (.int .i64 b.length)), (8, .val (.int .i64 k))], [], 64⟩) (fun k => k ≤ b.length ∧ badAt b 0 = badAt (b.drop k) k) (fun k => b.length - k) ⟨0, ⟨by omega, rfl⟩, ?_⟩ ?_)
  · refine wk_q [] [] ?_ ?_ <;> repeat' (first | exact trivial | exact vr_val _ | exact vr_list _ | apply vr_fn | apply And.intro)
  · rintro k ⟨hk, hb⟩
    refine aw_seq (aw_region ?_)
    simp (disch := first | exact okY | omega) only [ZU, Int.reduceNeg, Nat.reduceMul, Nat.reduceAdd, AOpRun, aexec, Nat.reduceBEq, ↓eget_h, isSh, ↓reduceIte, abin]
    refine aw_seq (aw_cond rfl (fun hc => ?_) (fun hc => ?_))
    · have hk' : k < b.length := by have := of_decide_eq_true hc; omega
      refine aw_skip (aw_seq (aw_block (aw_seq (aw_region ?_))))
      simp (disch := first | exact okY | omega) only [ZU, Int.reduceNeg, Nat.reduceAdd, Nat.reduceMul, AOpRun, aexec, Nat.reduceBEq, ↓eget_h]
      refine aw_seq (aw_region ?_)
      simp (disch := first | exact okY | omega) only [ZU, Int.reduceNeg, Nat.reduceAdd, Nat.reduceMul, AOpRun, aexec, Nat.reduceBEq, ↓eget_h, sps_all, ↓reduceIte, opt1, sps_gd b k hk', Nat.reduceLeDiff, List.take]
      refine acall0 (spanned1_ac (lo b k, hi b k)) ?_
      simp (disch := first | exact okY | omega) only [ZU, Int.reduceNeg, Nat.reduceAdd, dB, Nat.reduceBEq]
      rw [badAt_drop b k hk'] at hb
      refine aw_cond rfl (fun hc => ?_) (fun hc => ?_)
      · have hn : okS (lo b k, hi b k) = false := by simpa using hc
        rw [hn] at hb
        refine aw_seq (aw_region ?_)
        simp (disch := first | exact okY | omega) only [ZU, Int.reduceNeg, Nat.reduceAdd, Nat.reduceMul, AOpRun, aexec, Nat.reduceBEq, ↓eget_h]
        refine aw_ret ?_
        rw [hb]
        simp only [Bool.false_eq_true, if_false, idxD]
        refine end_q [] [] ?_ ?_ <;> repeat' (first | exact trivial | exact vr_val _)
      · have hn : okS (lo b k, hi b k) = true := by simpa using hc
        rw [hn, if_pos rfl] at hb
        refine aw_skip (aw_region ?_)
        simp (disch := first | exact okY | omega) only [ZU, Nat.reduceAdd, Nat.reduceMul, AOpRun, aexec, Nat.reduceBEq, ↓eget_h, isSh, ↓reduceIte, abin, fits]
        refine ⟨k + 1, ⟨hk', hb⟩, by omega, ?_⟩
        refine wk_q [] [] ?_ ?_ <;> repeat' (first | exact trivial | exact vr_val _ | exact vr_list _ | apply vr_fn | apply And.intro)
    · have hk' : k = b.length := by have := of_decide_eq_false hc; omega
      subst hk'
      refine aw_exit (aw_seq (aw_region ?_))
      simp (disch := first | exact okY | omega) only [ZU, Nat.reduceMul, Nat.reduceAdd, Int.reduceNeg, AOpRun, aexec, Nat.reduceBEq]
      refine aw_ret ?_
      rw [hb, List.drop_length]
      refine end_q [] [] ?_ ?_ <;> repeat' (first | exact trivial | exact vr_val _)
theorem bcontains_ac (b : Bx) (hl : b.length ≤ 1000) : AC Tryd.prog 57 [.list (sps b), .fn 58 [] []] [] [] (dB (!b.all okS)) := by
  refine kslices_ContainsFunc_L_L_Japi_Span_Kapi_Span_J.ac (n0 := 0) (by simp) ⟨.list _, .fn _ _ _ (by simp) (by simp), trivial⟩ trivial rfl ?_
  unfold cslices_ContainsFunc_L_L_Japi_Span_Kapi_Span_J
  refine aw_seq (aw_region ?_)
  simp (disch := first | exact okY | omega) only [ZU, Nat.reduceMul, AOpRun, aexec, Nat.reduceBEq]
  refine aw_seq (aw_region ?_)
  simp (disch := first | exact okY | omega) only [ZU, Nat.reduceAdd, Nat.reduceMul, AOpRun, aexec, ↓eget_h, Nat.reduceBEq]
  refine acall0 (bindex_ac b hl) ?_
  have hb := badAt_none b 0
  cases hi : badAt b 0 with
  | none =>
    have h1 : b.all okS = true := hb.1 hi
    simp (disch := first | exact okY | omega) only [ZU, Nat.reduceAdd, idxD, Int.reduceNeg, Nat.reduceBEq, AOpRun, aexec, ↓eget_h, isSh, ↓reduceIte, abin]
    refine aw_ret ?_
    rw [h1]
    refine end_q [] [] ?_ ?_ <;> repeat' (first | exact trivial | exact vr_val _)
  | some k =>
    have h1 : b.all okS = false := by
      rw [hi] at hb
      cases h : b.all okS with
      | false => rfl
      | true => rw [h] at hb; simp at hb
    have h2 : ((k : Int) ≥ 0) := by omega
    simp (disch := first | exact okY | omega) only [ZU, Nat.reduceAdd, idxD, Nat.reduceBEq, AOpRun, aexec, ↓eget_h, isSh, ↓reduceIte, abin, h2]
    refine aw_ret ?_
    rw [h1]
    refine end_q [] [] ?_ ?_ <;> repeat' (first | exact trivial | exact vr_val _)
theorem spanned_ac (b : Bx) (hl : b.length ≤ 1000) : AC Tryd.prog 34 [.list (sps b)] [] [] (dI (if b.all okS = true then 0 else 10)) := by
  refine kspans_spanned.ac (n0 := 0) (by simp) ⟨.list _, trivial⟩ trivial rfl ?_
  unfold cspans_spanned
  refine aw_seq (aw_region ?_)
  simp (disch := first | exact okY | omega) only [ZU, Nat.reduceMul, AOpRun, aexec, Nat.reduceBEq]
  refine aw_seq (aw_seq (aw_region ?_))
  simp (disch := first | exact okY | omega) only [ZU, Nat.reduceAdd, Nat.reduceMul, AOpRun, aexec, ↓eget_h, Nat.reduceBEq]
  refine acall0 (bcontains_ac b hl) ?_
  simp (disch := first | exact okY | omega) only [ZU, Nat.reduceAdd, dB, Nat.reduceBEq]
  refine aw_cond rfl (fun hc => ?_) (fun hc => ?_)
  · have h1 : ¬ b.all okS = true := by simpa using hc
    refine aw_seq (aw_region ?_)
    simp (disch := first | exact okY | omega) only [ZU, Nat.reduceMul, Nat.reduceAdd, AOpRun, aexec, Nat.reduceBEq]
    refine aw_ret ?_
    rw [if_neg h1]
    refine end_q [] [] ?_ ?_ <;> repeat' (first | exact trivial | exact vr_val _)
  · have h1 : b.all okS = true := by simpa using hc
    refine aw_skip (aw_seq (aw_region ?_))
    simp (disch := first | exact okY | omega) only [ZU, Nat.reduceMul, Nat.reduceAdd, AOpRun, aexec, Nat.reduceBEq]
    refine aw_ret ?_
    rw [if_pos h1]
    refine end_q [] [] ?_ ?_ <;> repeat' (first | exact trivial | exact vr_val _)
theorem check_ac (b : Bx) : AC Tryd.prog 24 [.list (sps b)] [] [] (dI (boxE b)) := by
  refine kspans_Check.ac (n0 := 0) (by simp) ⟨.list _, trivial⟩ trivial rfl ?_
  unfold cspans_Check
  refine aw_seq (aw_region ?_)
  simp (disch := first | exact okY | omega) only [ZU, Nat.reduceMul, AOpRun, aexec, Nat.reduceBEq]
  refine aw_seq (aw_seq (aw_region ?_))
  simp (disch := first | exact okY | omega) only [ZU, Nat.reduceAdd, Nat.reduceMul, AOpRun, aexec, ↓eget_h, Nat.reduceBEq, sps_len]
  refine acall0 (bwithin_ac b.length 1 3) ?_
  simp (disch := first | exact okY | omega) only [ZU, Nat.reduceAdd, dB, Nat.reduceBEq, AOpRun, aexec, ↓eget_h]
  refine aw_cond rfl (fun hc => ?_) (fun hc => ?_)
  · have h1 : ¬ (1 ≤ b.length ∧ b.length ≤ 3 ∧ b.all okS = true) := fun h => by
      simp only [Bool.not_eq_true', Bool.and_eq_false_iff, decide_eq_false_iff_not] at hc
      omega
    refine aw_seq (aw_region ?_)
    simp (disch := first | exact okY | omega) only [ZU, Nat.reduceMul, Nat.reduceAdd, AOpRun, aexec, Nat.reduceBEq]
    refine aw_ret ?_
    unfold boxE
    rw [if_neg h1]
    refine end_q [] [] ?_ ?_ <;> repeat' (first | exact trivial | exact vr_val _)
  · simp only [Bool.not_eq_false', Bool.and_eq_true, decide_eq_true_eq] at hc
    refine aw_skip (aw_seq (aw_region ?_))
    simp (disch := first | exact okY | omega) only [ZU, Nat.reduceAdd, Nat.reduceMul, AOpRun, aexec, ↓eget_h, Nat.reduceBEq]
    refine acall0 (spanned_ac b (by omega)) ?_
    simp (disch := first | exact okY | omega) only [ZU, dI, Nat.reduceAdd, Nat.reduceBEq, AOpRun, aexec, ↓eget_h]
    refine aw_ret ?_
    have e : boxE b = (if b.all okS = true then 0 else 10) := by
      unfold boxE
      by_cases h : b.all okS = true
      · rw [if_pos ⟨by omega, by omega, h⟩, if_pos h]
      · rw [if_neg (fun hh => h hh.2.2), if_neg h]
    rw [e]
    refine end_q [] [] ?_ ?_ <;> repeat' (first | exact trivial | exact vr_val _)
end Go.Proofs.YtgibbaadjbohdaaDoor
/- The first of a list of which something is so. No conditions. -/
namespace Go.Proofs.YtgibbaadjbohdaaDoor

def ixOf {α : Type} (p : α → Bool) (l : List α) : Int := if l.any p = true then (l.findIdx p : Int) else -1
theorem ixOf_some {α : Type} {p : α → Bool} {l : List α} {d : α} {k : Nat} (hk : k < l.length) (h : ∀ j, j < k → p (l[j]?.getD d) = false) (hp : p (l[k]?.getD d) = true) : ixOf p l = k := by
  have e : p l[k] = true := by simpa [hk] using hp
  unfold ixOf
  rw [if_pos (List.any_eq_true.2 ⟨l[k], List.getElem_mem hk, e⟩)]
  have : l.findIdx p = k := (List.findIdx_eq hk).2 ⟨e, fun j hj => by
    have := h j hj
    simpa [show j < l.length by omega] using this⟩
  rw [this]
theorem ixOf_none {α : Type} {p : α → Bool} {l : List α} {d : α} (h : ∀ j, j < l.length → p (l[j]?.getD d) = false) : ixOf p l = -1 := by
  unfold ixOf
  rw [if_neg]
  intro hc
  obtain ⟨x, hx, hp⟩ := List.any_eq_true.1 hc
  obtain ⟨j, hj, rfl⟩ := List.getElem_of_mem hx
  have := h j hj
  simp [hj, hp] at this
theorem ixOf_ge {α : Type} (p : α → Bool) (l : List α) : decide (ixOf p l ≥ 0) = l.any p := by
  unfold ixOf
  cases h : l.any p <;> simp
theorem prev_next {α : Type} {p : α → Bool} {l : List α} {d : α} {k : Nat} (h : ∀ j, j < k → p (l[j]?.getD d) = false) (hp : p (l[k]?.getD d) = false) : ∀ j, j < k + 1 → p (l[j]?.getD d) = false := fun j hj => by
  rcases (by omega : j < k ∨ j = k) with h1 | rfl
  · exact h j h1
  · exact hp
def ixR (p : Nat → Bool) (n : Nat) : Int := ixOf p (List.range n)
theorem ixR_some {p : Nat → Bool} {n k : Nat} (hk : k < n) (h : ∀ j, j < k → p j = false) (hp : p k = true) : ixR p n = k :=
  ixOf_some (d := 0) (by simpa using hk) (fun j hj => by simpa [show j < n by omega] using h j hj) (by simpa [hk] using hp)
theorem ixR_none {p : Nat → Bool} {n : Nat} (h : ∀ j, j < n → p j = false) : ixR p n = -1 :=
  ixOf_none (d := 0) fun j hj => by
    have hj' : j < n := by simpa using hj
    simpa [hj'] using h j hj'
theorem ixR_cases (p : Nat → Bool) : ∀ n : Nat, (ixR p n = -1 ∧ ∀ j, j < n → p j = false) ∨ ∃ k, k < n ∧ ixR p n = k ∧ p k = true ∧ ∀ j, j < k → p j = false := by
  intro n
  by_cases h : ∃ k, k < n ∧ p k = true
  · right
    have key : ∀ m : Nat, (∃ k, k < m ∧ p k = true) → ∃ k, k < m ∧ p k = true ∧ ∀ j, j < k → p j = false := by
      intro m
      induction m with
      | zero => rintro ⟨k, hk, _⟩; omega
      | succ m ih =>
        rintro ⟨k, hk, hp⟩
        by_cases h2 : ∃ k, k < m ∧ p k = true
        · obtain ⟨k', h3, h4, h5⟩ := ih h2
          exact ⟨k', by omega, h4, h5⟩
        · refine ⟨k, hk, hp, fun j hj => ?_⟩
          cases hpj : p j with
          | false => rfl
          | true => exact absurd ⟨j, by omega, hpj⟩ h2
    obtain ⟨k, h1, h2, h3⟩ := key n h
    exact ⟨k, h1, ixR_some h1 h3 h2, h2, h3⟩
  · left
    have h2 : ∀ j, j < n → p j = false := fun j hj => by
      cases hpj : p j with
      | false => rfl
      | true => exact absurd ⟨j, hj, hpj⟩ h
    exact ⟨ixR_none h2, h2⟩
end Go.Proofs.YtgibbaadjbohdaaDoor
/- Sets of starts and gusts: what is right; how one is made. No conditions. -/
namespace Go.Proofs.YtgibbaadjbohdaaDoor
open Go.RowKit Lift

theorem box1 (x : Int × Int) : boxE [x] = if okS x = true then 0 else 10 := by
  unfold boxE; by_cases h : okS x = true <;> simp [h]
theorem okS_t {x : Int × Int} (h : okS x = true) : -1000000 ≤ x.1 ∧ x.1 ≤ x.2 ∧ x.2 ≤ 1000000 := by
  simp only [okS, Bool.and_eq_true, decide_eq_true_eq] at h; omega
end Go.Proofs.YtgibbaadjbohdaaDoor
/- Plain arithmetic: floor division by Go's '/' and '%'. -/
namespace Go.Proofs.YtgibbaadjbohdaaDoor

theorem floor_eq (a b : Int) (hb : 1 ≤ b) : a / b = if a.tmod b < 0 then a.tdiv b - 1 else a.tdiv b := by
  have e1 := Int.mul_tdiv_add_tmod a b
  have e5 := Int.tmod_lt_of_pos a (show 0 < b by omega)
  have e6 := Int.lt_tmod_of_pos a (show 0 < b by omega)
  split
  · rename_i h
    exact ((Int.ediv_emod_unique (a := a) (b := b) (r := a.tmod b + b) (q := a.tdiv b - 1) (by omega)).2 ⟨by rw [Int.mul_sub]; omega, by omega, by omega⟩).1
  · rename_i h
    exact ((Int.ediv_emod_unique (a := a) (b := b) (r := a.tmod b) (q := a.tdiv b) (by omega)).2 ⟨by omega, by omega, by omega⟩).1
theorem tdiv_bd (a b M : Int) (h1 : -M ≤ a) (h2 : a ≤ M) : -M ≤ a.tdiv b ∧ a.tdiv b ≤ M := by
  have := Int.natAbs_tdiv_le_natAbs a b
  omega
theorem ediv_bd (a b M : Int) (hM : 0 ≤ M) (hb : 1 ≤ b) (h1 : -M ≤ a) (h2 : a ≤ M) : -M ≤ a / b ∧ a / b ≤ M := by
  have e2 := Int.mul_ediv_add_emod a b
  have e3 := Int.emod_nonneg a (show b ≠ 0 by omega)
  constructor
  · refine (Int.le_ediv_iff_mul_le (by omega)).2 ?_
    have : -M * b ≤ -M * 1 := Int.mul_le_mul_of_nonpos_left (by omega) hb
    omega
  · refine Int.le_trans (Int.ediv_le_ediv (by omega) h2) ?_
    exact Int.ediv_le_self _ hM
end Go.Proofs.YtgibbaadjbohdaaDoor
/- What slices hold, said of lists: plain predicates on a world, kept by whatever leaves old blocks alone. -/
namespace Go.Proofs.YtgibbaadjbohdaaDoor
open Go.RowKit

def Ints (w : World) (A : Option Addr) (l : List Int) : Prop :=
  0 < l.length → ∃ b off, A = some ⟨b, off, none⟩ ∧ b < w.heap.size ∧ ∀ k, k < l.length → w.cell? ⟨b, off + k, none⟩ = some (.int .i64 (l[k]?.getD 0))
def Sps (w : World) (A : Option Addr) (l : List (Int × Int)) : Prop :=
  0 < l.length → ∃ b off, A = some ⟨b, off, none⟩ ∧ b < w.heap.size ∧ ∀ k, k < l.length →
    w.cell? ⟨b, off + k * 2, none⟩ = some (.int .i64 (l[k]?.getD (0, 0)).1) ∧ w.cell? ⟨b, off + k * 2 + 1, none⟩ = some (.int .i64 (l[k]?.getD (0, 0)).2)
def Mat (w : World) (A : Option Addr) (l : List (List Int)) : Prop :=
  0 < l.length → ∃ b off, A = some ⟨b, off, none⟩ ∧ b < w.heap.size ∧ ∀ k, k < l.length → ∃ B c, w.cell? ⟨b, off + k, none⟩ = some (.slice B (l[k]?.getD []).length c) ∧ Ints w B (l[k]?.getD [])
def Bxs (w : World) (A : Option Addr) (l : List (List (Int × Int))) : Prop :=
  0 < l.length → ∃ b off, A = some ⟨b, off, none⟩ ∧ b < w.heap.size ∧ ∀ k, k < l.length → ∃ B c, w.cell? ⟨b, off + k, none⟩ = some (.slice B (l[k]?.getD []).length c) ∧ Sps w B (l[k]?.getD [])

section
variable {w w' : World} {A : Option Addr}
theorem Ints.below {l : List Int} (h : Ints w A l) (hb : Below w.heap.size w w') : Ints w' A l := fun hl => by
  obtain ⟨b, off, e, hlt, hc⟩ := h hl
  exact ⟨b, off, e, Nat.lt_of_lt_of_le hlt hb.size, fun k hk => (hb.cell (p := ⟨b, off + k, none⟩) hlt).trans (hc k hk)⟩
theorem Sps.below {l : List (Int × Int)} (h : Sps w A l) (hb : Below w.heap.size w w') : Sps w' A l := fun hl => by
  obtain ⟨b, off, e, hlt, hc⟩ := h hl
  exact ⟨b, off, e, Nat.lt_of_lt_of_le hlt hb.size, fun k hk => ⟨(hb.cell (p := ⟨b, off + k * 2, none⟩) hlt).trans (hc k hk).1, (hb.cell (p := ⟨b, off + k * 2 + 1, none⟩) hlt).trans (hc k hk).2⟩⟩
theorem Mat.below {l : List (List Int)} (h : Mat w A l) (hb : Below w.heap.size w w') : Mat w' A l := fun hl => by
  obtain ⟨b, off, e, hlt, hc⟩ := h hl
  refine ⟨b, off, e, Nat.lt_of_lt_of_le hlt hb.size, fun k hk => ?_⟩
  obtain ⟨B, c, h1, h2⟩ := hc k hk
  exact ⟨B, c, (hb.cell (p := ⟨b, off + k, none⟩) hlt).trans h1, h2.below hb⟩
theorem Bxs.below {l : List (List (Int × Int))} (h : Bxs w A l) (hb : Below w.heap.size w w') : Bxs w' A l := fun hl => by
  obtain ⟨b, off, e, hlt, hc⟩ := h hl
  refine ⟨b, off, e, Nat.lt_of_lt_of_le hlt hb.size, fun k hk => ?_⟩
  obtain ⟨B, c, h1, h2⟩ := hc k hk
  exact ⟨B, c, (hb.cell (p := ⟨b, off + k, none⟩) hlt).trans h1, h2.below hb⟩
end
theorem Below.drewN' {B : Nat} {a w : World} (h : Below B a w) (n : Nat) : Below B a (w.drewN n) := ⟨h.os, h.tape, h.output, h.size, h.block⟩
end Go.Proofs.YtgibbaadjbohdaaDoor
/- The contracts of the small functions of package spans (floor, within, valid, spanned, Check ..): what each returns; old memory stays. -/
namespace Go.Proofs.YtgibbaadjbohdaaDoor
open Go.RowKit

def wB (a b c : Int) : Bool := decide (b ≤ a) && decide (a ≤ c)
theorem within_any (a b c : Int) (w : World) :
    Calls Tryd.prog 39 #[.int .i64 a, .int .i64 b, .int .i64 c] w fun e w' => e = .returned (.bool (wB a b c)) ∧ w' = w := by
  by_cases h1 : b ≤ a <;> by_cases h2 : a ≤ c
  all_goals
    go_enter Tryd.func39, Tryd.ntmps39
    go_wp2
    go_ret
    simp [wB, h1, h2]
def vB (x : Int × Int) : Bool := wB x.1 (-1000000) x.2 && decide (x.2 ≤ 1000000)
set_option maxHeartbeats 400000 in
theorem valid_any (x : Int × Int) (w : World) :
    Calls Tryd.prog 59 #[.agg #[.int .i64 x.1, .int .i64 x.2]] w fun e w' => e = .returned (.bool (vB x)) ∧ Below w.heap.size w w' := by
  obtain ⟨lo, hi⟩ := x
  show Calls Tryd.prog 59 #[.agg #[.int .i64 lo, .int .i64 hi]] w _
  have key : ∀ b : Bool, wB lo (-1000000) hi = b → Calls Tryd.prog 59 #[.agg #[.int .i64 lo, .int .i64 hi]] w fun e w' => e = .returned (.bool (b && decide (hi ≤ 1000000))) ∧ Below w.heap.size w w' := by
    intro b hb
    have H := Lib.hid hb
    clear hb
    cases b
    all_goals
      go_enter Tryd.func59, Tryd.ntmps59
      go_wp2_with (go_at_call 39; refine (within_any _ _ _ _).mono ?_; rintro e w' ⟨rfl, rfl⟩; rw [H.out])
      go_ret
      exact ⟨by simp, (Below.refl _ _).alloc (Nat.le_refl _) _⟩
  exact key _ rfl
set_option maxHeartbeats 400000 in
theorem spanned1_any (x : Int × Int) (w : World) :
    Calls Tryd.prog 58 #[.agg #[.int .i64 x.1, .int .i64 x.2]] w fun e w' => e = .returned (.bool (!vB x)) ∧ Below w.heap.size w w' := by
  obtain ⟨lo, hi⟩ := x
  show Calls Tryd.prog 58 #[.agg #[.int .i64 lo, .int .i64 hi]] w _
  go_enter Tryd.func58, Tryd.ntmps58
  go_wp2_with (go_at_call 59; refine (valid_any (_, _) _).mono ?_; rintro e w' ⟨rfl, hb⟩)
  go_ret
  exact ⟨rfl, ((Below.refl _ _).alloc (Nat.le_refl _) _).trans (hb.mono (by simp))⟩

def Enters (P : Program) (g : Nat) : Prop := ∀ (args : Array Value) (w : World), (callFunc g args).run P w = .ok (.enter g args) w
def idxP {α : Type} (p : α → Bool) : List α → Nat → Int
  | [], _ => -1
  | x :: xs, k => if p x then (k : Int) else idxP p xs (k + 1)
theorem idxP_ge {α : Type} (p : α → Bool) (l : List α) (k : Nat) : decide (0 ≤ idxP p l k) = l.any p := by
  induction l generalizing k with
  | nil => simp [idxP]
  | cons x xs ih => unfold idxP; by_cases h : p x = true <;> simp [h, ih]
theorem idxP_drop {α : Type} (p : α → Bool) (l : List α) (d : α) (k : Nat) (h : k < l.length) : idxP p (l.drop k) k = if p (l[k]?.getD d) then (k : Int) else idxP p (l.drop (k + 1)) (k + 1) := by
  rw [List.drop_eq_getElem_cons h]
  simp [idxP, h]
set_option maxHeartbeats 400000 in
theorem indexFuncSpan (g : Nat) (p : Int × Int → Bool) (A : Option Addr) (l : List (Int × Int)) (c : Nat) (w : World) (hl : l.length ≤ 4611686018427387904) (hA : Sps w A l) (he : Enters Tryd.prog g)
   (hg : ∀ (x : Int × Int) (w' : World), Calls Tryd.prog g #[.agg #[.int .i64 x.1, .int .i64 x.2]] w' fun e w'' => e = .returned (.bool (p x)) ∧ Below w'.heap.size w' w'') :
   Calls Tryd.prog 72 #[.slice A l.length c, .func (.func g) #[] #[]] w fun e w' => e = .returned (.int .i64 (idxP p l 0)) ∧ Below w.heap.size w w' := by
  have HG := Lib.hid hg
  have HA := Lib.hid hA
  clear hg hA
  unfold Enters at he
  go_enter Tryd.func72, Tryd.ntmps72
  go_wp2
  go_loopw [5, 8] (fun _ i wr => ∃ k : Nat, k ≤ l.length ∧ i = .int .i64 k ∧ idxP p (l.drop k) k = idxP p l 0 ∧ Below w.heap.size w wr) (fun _ i _ => l.length - (intOf i).toNat)
  case atStart => exact ⟨0, by omega, rfl, by simp, Below.refl _ _⟩
  case round =>
    obtain ⟨k, hk, rfl, hp, hb⟩ := hrel
    have HP := Lib.hid hp
    clear hp
    by_cases hlt : k < l.length
    · obtain ⟨b, off, rfl, hbl, hc⟩ := HA.out (by omega)
      have h1 := (hb.cell (p := ⟨b, off + k * 2, none⟩) hbl).trans (hc k hlt).1
      have h2 := (hb.cell (p := ⟨b, off + k * 2 + 1, none⟩) hbl).trans (hc k hlt).2
      have hd := Lib.hid (idxP_drop p l (0, 0) k hlt)
      clear hc
      generalize hx : l[k]?.getD (0, 0) = x at h1 h2
      have HX := Lib.hid hx
      clear hx
      go_wp2_with fail
      refine (HG.out x _).mono ?_
      rintro e w1 ⟨rfl, hb1⟩
      have hb2 := hb.trans (hb1.mono hb.size)
      clear hb1
      by_cases hpx : p x = true
      · rw [hpx]
        go_wp2
        go_ret
        refine ⟨?_, hb2⟩
        rw [← HP.out, hd.out, HX.out, if_pos hpx]; rfl
      · have hpx' : p x = false := by simpa using hpx
        rw [hpx']
        go_wp2
        go_roundw
        case rel => exact ⟨k + 1, by omega, by go_num, by rw [← HP.out, hd.out, HX.out, if_neg hpx], hb2⟩
        case measure => simp [intOf]; omega
    · go_wp2
      go_ret
      refine ⟨?_, hb⟩
      rw [← HP.out, List.drop_eq_nil_of_le (by omega)]; rfl
set_option maxHeartbeats 400000 in
theorem containsFuncSpan (g : Nat) (p : Int × Int → Bool) (A : Option Addr) (l : List (Int × Int)) (c : Nat) (w : World) (hl : l.length ≤ 4611686018427387904) (hA : Sps w A l) (he : Enters Tryd.prog g)
   (hg : ∀ (x : Int × Int) (w' : World), Calls Tryd.prog g #[.agg #[.int .i64 x.1, .int .i64 x.2]] w' fun e w'' => e = .returned (.bool (p x)) ∧ Below w'.heap.size w' w'') :
   Calls Tryd.prog 57 #[.slice A l.length c, .func (.func g) #[] #[]] w fun e w' => e = .returned (.bool (l.any p)) ∧ Below w.heap.size w w' := by
  have H := Lib.hid (indexFuncSpan g p A l c w hl hA he hg)
  clear hg hA he
  go_enter Tryd.func57, Tryd.ntmps57
  go_wp2_with fail
  refine H.out.mono ?_
  rintro e w1 ⟨rfl, hb1⟩
  go_wp2
  go_ret
  exact ⟨by rw [← idxP_ge p l 0]; rfl, hb1⟩

theorem enters_spanned1 : Enters Tryd.prog 58 := fun _ _ => by kernel_rfl
def spErr (l : List (Int × Int)) : Int := if l.any (fun x => !vB x) then 10 else 0
set_option maxHeartbeats 400000 in
theorem spanned_any (A : Option Addr) (l : List (Int × Int)) (c : Nat) (w : World) (hl : l.length ≤ 4611686018427387904) (hA : Sps w A l) :
   Calls Tryd.prog 34 #[.slice A l.length c] w fun e w' => e = .returned (.int .i64 (spErr l)) ∧ Below w.heap.size w w' := by
  have H := Lib.hid (containsFuncSpan 58 (fun x => !vB x) A l c w hl hA enters_spanned1 (fun x w' => spanned1_any x w'))
  clear hA
  by_cases h : l.any (fun x => !vB x) = true
  · have E := Lib.hid h
    have R : Hid (spErr l = 10) := by unfold Hid spErr; rw [if_pos h]
    clear h
    go_enter Tryd.func34, Tryd.ntmps34
    go_wp2_with fail
    refine H.out.mono ?_
    rintro e w1 ⟨rfl, hb1⟩
    rw [E.out]
    go_wp2
    go_ret
    exact ⟨by rw [R.out]; rfl, hb1⟩
  · have R : Hid (spErr l = 0) := by unfold Hid spErr; rw [if_neg h]
    have h' : l.any (fun x => !vB x) = false := by simpa using h
    have E := Lib.hid h'
    clear h h'
    go_enter Tryd.func34, Tryd.ntmps34
    go_wp2_with fail
    refine H.out.mono ?_
    rintro e w1 ⟨rfl, hb1⟩
    rw [E.out]
    go_wp2
    go_ret
    exact ⟨by rw [R.out]; rfl, hb1⟩
end Go.Proofs.YtgibbaadjbohdaaDoor
/- The contracts of axis, CheckTable and what it hands to slices.ContainsFunc, floor, ceil: what each returns; old memory stays. -/
namespace Go.Proofs.YtgibbaadjbohdaaDoor
open Go.RowKit

set_option maxHeartbeats 400000 in
theorem floor_any (a b : Int) (w : World) (hb : 1 ≤ b) (hb' : b ≤ 4000000000000000000) (ha : -4000000000000000000 ≤ a) (ha' : a ≤ 4000000000000000000):
    Calls Tryd.prog 21 #[.int .i64 a, .int .i64 b] w fun e w' => e = .returned (.int .i64 (a / b)) ∧ w' = w := by
  have F := Lib.hid (floor_eq a b hb)
  obtain ⟨hq1, hq2⟩ := tdiv_bd a b _ ha ha'
  go_enter Tryd.func21, Tryd.ntmps21
  go_wp2
  all_goals
    go_ret
    refine ⟨?_, rfl⟩
  · rw [F.out, if_pos (by assumption)]; rfl
  · rw [F.out, if_neg (by omega)]; rfl
set_option maxHeartbeats 400000 in
theorem ceil_any (a b : Int) (w : World) (hb : 1 ≤ b) (hb' : b ≤ 4000000000000000000) (ha : -4000000000000000000 ≤ a) (ha' : a ≤ 4000000000000000000):
    Calls Tryd.prog 38 #[.int .i64 a, .int .i64 b] w fun e w' => e = .returned (.int .i64 (-(-a / b))) ∧ w' = w := by
  obtain ⟨hq1, hq2⟩ := ediv_bd (-a) b 4000000000000000000 (by omega) hb (by omega) (by omega)
  go_enter Tryd.func38, Tryd.ntmps38
  go_wp2_with (go_at_call 21; refine (floor_any _ _ _ (by omega) (by omega) (by omega) (by omega)).mono ?_; rintro e w' ⟨rfl, rfl⟩)
  go_ret
  exact ⟨rfl, rfl⟩
set_option maxHeartbeats 400000 in
theorem up_any (a b : Int) (w : World) (hb : 1 ≤ b) (hb' : b ≤ 4000000000000000000) (ha : -4000000000000000000 ≤ a) (ha' : a ≤ 4000000000000000000):
    Calls Tryd.prog 22 #[.agg #[.int .i64 a, .int .i64 b]] w fun e w' => e = .returned (.int .i64 (-(-a / b))) ∧ Below w.heap.size w w' := by
  go_enter Tryd.func22, Tryd.ntmps22
  go_wp2_with (go_at_call 38; refine (ceil_any _ _ _ (by omega) (by omega) (by omega) (by omega)).mono ?_; rintro e w' ⟨rfl, rfl⟩)
  go_ret
  exact ⟨rfl, (Below.refl _ _).alloc (Nat.le_refl _) _⟩

def axFrom : Option Int → List Int → Bool
  | _, [] => true
  | p, x :: xs => wB x (-1000000) 1000000 && (match p with | none => true | some y => wB (x - y) 1 10000) && axFrom (some x) xs
def axB (l : List Int) : Bool := wB l.length 2 12 && axFrom none l
def prev (l : List Int) (k : Nat) : Option Int := if k = 0 then none else some (l[k - 1]?.getD 0)
theorem axFrom_drop (l : List Int) (k : Nat) (h : k < l.length) : axFrom (prev l k) (l.drop k) = (wB (l[k]?.getD 0) (-1000000) 1000000 && (if k = 0 then true else wB (l[k]?.getD 0 - l[k-1]?.getD 0) 1 10000) && axFrom (prev l (k + 1)) (l.drop (k + 1))) := by
  rw [List.drop_eq_getElem_cons h]
  have e : l[k]?.getD 0 = l[k] := by simp [h]
  by_cases hk : k = 0
  · subst hk; simp [prev, e, axFrom]
  · simp [prev, hk, e, axFrom]
theorem wB_iff {a b c : Int} : wB a b c = true ↔ b ≤ a ∧ a ≤ c := by simp [wB]
set_option maxHeartbeats 1000000 in
theorem axis_any (A : Option Addr) (l : List Int) (c : Nat) (w : World) (hl : l.length ≤ 4611686018427387904) (hA : Ints w A l) :
    Calls Tryd.prog 55 #[.slice A l.length c] w fun e w' => e = .returned (.bool (axB l)) ∧ w' = w := by
  by_cases hw : wB l.length 2 12 = true
  · have E := Lib.hid hw
    obtain ⟨h2, h12⟩ := wB_iff.1 hw
    have R : Hid (axB l = axFrom none l) := by unfold Hid axB; rw [hw]; rfl
    obtain ⟨b, off, rfl, hbl, hc⟩ := hA (by omega)
    have HC := Lib.hid hc
    clear hw hc hA
    go_enter Tryd.func55, Tryd.ntmps55
    go_wp2_with (go_at_call 39; refine (within_any _ _ _ _).mono ?_; rintro e w' ⟨rfl, rfl⟩; rw [E.out])
    go_loop [3, 4, 11] (fun _ _ i => ∃ k : Nat, k ≤ l.length ∧ i = .int .i64 k ∧ axFrom (prev l k) (l.drop k) = axFrom none l ∧ (0 < k → -1000000 ≤ l[k-1]?.getD 0 ∧ l[k-1]?.getD 0 ≤ 1000000)) (fun _ _ i => l.length - (intOf i).toNat)
    case atStart => exact ⟨0, by omega, rfl, by simp [prev], by omega⟩
    case round =>
      obtain ⟨k, hk, rfl, hp, hbd⟩ := hrel
      have HP := Lib.hid hp
      have HB := Lib.hid hbd
      clear hp hbd
      by_cases hlt : k < l.length
      · have hd := Lib.hid (axFrom_drop l k hlt)
        have h1 := HC.out k hlt
        generalize hx : l[k]?.getD 0 = x at h1
        have HX := Lib.hid hx
        clear hx
        by_cases hv : wB x (-1000000) 1000000 = true
        · have hvb := wB_iff.1 hv
          have HV := Lib.hid hv
          clear hv
          by_cases hk0 : k = 0
          · subst hk0
            simp only [Nat.add_zero] at h1
            go_wp2_with (go_at_call 39; refine (within_any _ _ _ _).mono ?_; rintro e w' ⟨rfl, rfl⟩; rw [HV.out])
            go_round
            case rel => exact ⟨1, by omega, by go_num, by rw [← HP.out, hd.out, HX.out, HV.out]; simp, fun _ => by simpa [HX.out] using hvb⟩
            case measure => simp [intOf]; omega
          · obtain ⟨j, rfl⟩ : ∃ j, k = j + 1 := ⟨k - 1, by omega⟩
            have h3 := HC.out j (by omega)
            have hyb := HB.out (by omega)
            simp only [Nat.add_sub_cancel] at hyb
            generalize hy : l[j]?.getD 0 = y at h3 hyb
            have HY := Lib.hid hy
            clear hy hk0
            have hj0 : (0 : Int) < (j : Int) + 1 := by omega
            by_cases hv2 : wB (x - y) 1 10000 = true
            · have HV2 := Lib.hid hv2
              clear hv2
              go_wp2_with (go_at_call 39; refine (within_any _ _ _ _).mono ?_; rintro e w' ⟨rfl, rfl⟩; first | rw [HV.out] | rw [HV2.out])
              go_round
              case rel => exact ⟨j + 1 + 1, by omega, by go_num, by rw [← HP.out, hd.out, HX.out, HV.out]; simp [HY.out, HV2.out], fun _ => by simpa [HX.out] using hvb⟩
              case measure => simp [intOf]; omega
            · have hv3 : wB (x - y) 1 10000 = false := by simpa using hv2
              have HV2 := Lib.hid hv3
              clear hv2 hv3
              go_wp2_with (go_at_call 39; refine (within_any _ _ _ _).mono ?_; rintro e w' ⟨rfl, rfl⟩; first | rw [HV.out] | rw [HV2.out])
              go_ret
              exact ⟨by rw [R.out, ← HP.out, hd.out, HX.out, HV.out]; simp [HY.out, HV2.out], rfl⟩
        · have hv3 : wB x (-1000000) 1000000 = false := by simpa using hv
          have HV := Lib.hid hv3
          clear hv hv3
          go_wp2_with (go_at_call 39; refine (within_any _ _ _ _).mono ?_; rintro e w' ⟨rfl, rfl⟩; rw [HV.out])
          go_ret
          exact ⟨by rw [R.out, ← HP.out, hd.out, HX.out, HV.out]; simp, rfl⟩
      · go_wp2
        go_ret
        exact ⟨by rw [R.out, ← HP.out, List.drop_eq_nil_of_le (by omega)]; simp [axFrom], rfl⟩
  · have hw' : wB l.length 2 12 = false := by simpa using hw
    have E := Lib.hid hw'
    have R : Hid (axB l = false) := by unfold Hid axB; rw [hw']; rfl
    clear hw hw' hA
    go_enter Tryd.func55, Tryd.ntmps55
    go_wp2_with (go_at_call 39; refine (within_any _ _ _ _).mono ?_; rintro e w' ⟨rfl, rfl⟩; rw [E.out])
    go_ret
    exact ⟨by rw [R.out]; rfl, rfl⟩
end Go.Proofs.YtgibbaadjbohdaaDoor
/- The contract of spans.CheckTable: 0 or ErrTable; old memory stays. -/
namespace Go.Proofs.YtgibbaadjbohdaaDoor
open Go.RowKit

theorem ct1_any (n : Int) (w : World) :
    Calls Tryd.prog 52 #[.int .i64 n] w fun e w' => e = .returned (.bool (!wB n (-1000000) 1000000)) ∧ w' = w := by
  go_enter Tryd.func52, Tryd.ntmps52
  go_wp2_with (go_at_call 39; refine (within_any _ _ _ _).mono ?_; rintro e w' ⟨rfl, rfl⟩)
  go_ret
  exact ⟨rfl, rfl⟩
set_option maxHeartbeats 400000 in
theorem indexFuncInt (g : Nat) (p : Int → Bool) (A : Option Addr) (l : List Int) (c : Nat) (w : World) (hl : l.length ≤ 4611686018427387904) (hA : Ints w A l) (he : Enters Tryd.prog g)
   (hg : ∀ (x : Int) (w' : World), Calls Tryd.prog g #[.int .i64 x] w' fun e w'' => e = .returned (.bool (p x)) ∧ Below w'.heap.size w' w'') :
   Calls Tryd.prog 70 #[.slice A l.length c, .func (.func g) #[] #[]] w fun e w' => e = .returned (.int .i64 (idxP p l 0)) ∧ Below w.heap.size w w' := by
  have HG := Lib.hid hg
  have HA := Lib.hid hA
  clear hg hA
  unfold Enters at he
  go_enter Tryd.func70, Tryd.ntmps70
  go_wp2
  go_loopw [5, 8] (fun _ i wr => ∃ k : Nat, k ≤ l.length ∧ i = .int .i64 k ∧ idxP p (l.drop k) k = idxP p l 0 ∧ Below w.heap.size w wr) (fun _ i _ => l.length - (intOf i).toNat)
  case atStart => exact ⟨0, by omega, rfl, by simp, Below.refl _ _⟩
  case round =>
    obtain ⟨k, hk, rfl, hp, hb⟩ := hrel
    have HP := Lib.hid hp
    clear hp
    by_cases hlt : k < l.length
    · obtain ⟨b, off, rfl, hbl, hc⟩ := HA.out (by omega)
      have h1 := (hb.cell (p := ⟨b, off + k, none⟩) hbl).trans (hc k hlt)
      have hd := Lib.hid (idxP_drop p l 0 k hlt)
      clear hc
      generalize hx : l[k]?.getD 0 = x at h1
      have HX := Lib.hid hx
      clear hx
      go_wp2_with fail
      refine (HG.out x _).mono ?_
      rintro e w1 ⟨rfl, hb1⟩
      have hb2 := hb.trans (hb1.mono hb.size)
      clear hb1
      by_cases hpx : p x = true
      · rw [hpx]
        go_wp2
        go_ret
        refine ⟨?_, hb2⟩
        rw [← HP.out, hd.out, HX.out, if_pos hpx]; rfl
      · have hpx' : p x = false := by simpa using hpx
        rw [hpx']
        go_wp2
        go_roundw
        case rel => exact ⟨k + 1, by omega, by go_num, by rw [← HP.out, hd.out, HX.out, if_neg hpx], hb2⟩
        case measure => simp [intOf]; omega
    · go_wp2
      go_ret
      refine ⟨?_, hb⟩
      rw [← HP.out, List.drop_eq_nil_of_le (by omega)]; rfl
set_option maxHeartbeats 400000 in
theorem containsFuncInt (g : Nat) (p : Int → Bool) (A : Option Addr) (l : List Int) (c : Nat) (w : World) (hl : l.length ≤ 4611686018427387904) (hA : Ints w A l) (he : Enters Tryd.prog g)
   (hg : ∀ (x : Int) (w' : World), Calls Tryd.prog g #[.int .i64 x] w' fun e w'' => e = .returned (.bool (p x)) ∧ Below w'.heap.size w' w'') :
   Calls Tryd.prog 54 #[.slice A l.length c, .func (.func g) #[] #[]] w fun e w' => e = .returned (.bool (l.any p)) ∧ Below w.heap.size w w' := by
  have H := Lib.hid (indexFuncInt g p A l c w hl hA he hg)
  clear hg hA he
  go_enter Tryd.func54, Tryd.ntmps54
  go_wp2_with fail
  refine H.out.mono ?_
  rintro e w1 ⟨rfl, hb1⟩
  go_wp2
  go_ret
  exact ⟨by rw [← idxP_ge p l 0]; rfl, hb1⟩
theorem enters_ct1 : Enters Tryd.prog 52 := fun _ _ => by kernel_rfl
theorem enters_ct2 : Enters Tryd.prog 53 := fun _ _ => by kernel_rfl

/- rows and a function value that has caught two variables -/
set_option maxHeartbeats 400000 in
theorem indexFuncRow (g : Nat) (p : List Int → Bool) (u v : Value) (A : Option Addr) (l : List (List Int)) (c : Nat) (w : World) (hl : l.length ≤ 4611686018427387904) (hA : Mat w A l) (he : Enters Tryd.prog g)
   (hg : ∀ (B : Option Addr) (x : List Int) (d : Nat) (w' : World), x ∈ l → Below w.heap.size w w' → Ints w' B x → Calls Tryd.prog g #[.slice B x.length d, u, v] w' fun e w'' => e = .returned (.bool (p x)) ∧ Below w'.heap.size w' w'') :
   Calls Tryd.prog 71 #[.slice A l.length c, .func (.func g) #[] #[u, v]] w fun e w' => e = .returned (.int .i64 (idxP p l 0)) ∧ Below w.heap.size w w' := by
  have HG := Lib.hid hg
  have HA := Lib.hid hA
  clear hg hA
  unfold Enters at he
  go_enter Tryd.func71, Tryd.ntmps71
  go_wp2
  go_loopw [5, 8] (fun _ i wr => ∃ k : Nat, k ≤ l.length ∧ i = .int .i64 k ∧ idxP p (l.drop k) k = idxP p l 0 ∧ Below w.heap.size w wr) (fun _ i _ => l.length - (intOf i).toNat)
  case atStart => exact ⟨0, by omega, rfl, by simp, Below.refl _ _⟩
  case round =>
    obtain ⟨k, hk, rfl, hp, hb⟩ := hrel
    have HP := Lib.hid hp
    clear hp
    by_cases hlt : k < l.length
    · obtain ⟨b, off, rfl, hbl, hc⟩ := HA.out (by omega)
      obtain ⟨B, d, hc1, hB⟩ := hc k hlt
      have h1 := (hb.cell (p := ⟨b, off + k, none⟩) hbl).trans hc1
      have hd := Lib.hid (idxP_drop p l [] k hlt)
      have hm : l[k]?.getD [] ∈ l := by simp [hlt]
      have HI := Lib.hid (hB.below hb)
      clear hc hc1 hB
      generalize hx : l[k]?.getD [] = x at h1 HI hm
      have HX := Lib.hid hx
      have HM := Lib.hid hm
      clear hx hm
      go_wp2_with fail
      refine (HG.out B x d _ HM.out hb HI.out).mono ?_
      rintro e w1 ⟨rfl, hb1⟩
      have hb2 := hb.trans (hb1.mono hb.size)
      clear hb1
      by_cases hpx : p x = true
      · rw [hpx]
        go_wp2
        go_ret
        refine ⟨?_, hb2⟩
        rw [← HP.out, hd.out, HX.out, if_pos hpx]; rfl
      · have hpx' : p x = false := by simpa using hpx
        rw [hpx']
        go_wp2
        go_roundw
        case rel => exact ⟨k + 1, by omega, by go_num, by rw [← HP.out, hd.out, HX.out, if_neg hpx], hb2⟩
        case measure => simp [intOf]; omega
    · go_wp2
      go_ret
      refine ⟨?_, hb⟩
      rw [← HP.out, List.drop_eq_nil_of_le (by omega)]; rfl
set_option maxHeartbeats 400000 in
theorem containsFuncRow (g : Nat) (p : List Int → Bool) (u v : Value) (A : Option Addr) (l : List (List Int)) (c : Nat) (w : World) (hl : l.length ≤ 4611686018427387904) (hA : Mat w A l) (he : Enters Tryd.prog g)
   (hg : ∀ (B : Option Addr) (x : List Int) (d : Nat) (w' : World), x ∈ l → Below w.heap.size w w' → Ints w' B x → Calls Tryd.prog g #[.slice B x.length d, u, v] w' fun e w'' => e = .returned (.bool (p x)) ∧ Below w'.heap.size w' w'') :
   Calls Tryd.prog 56 #[.slice A l.length c, .func (.func g) #[] #[u, v]] w fun e w' => e = .returned (.bool (l.any p)) ∧ Below w.heap.size w w' := by
  have H := Lib.hid (indexFuncRow g p u v A l c w hl hA he hg)
  clear hg hA he
  go_enter Tryd.func56, Tryd.ntmps56
  go_wp2_with fail
  refine H.out.mono ?_
  rintro e w1 ⟨rfl, hb1⟩
  go_wp2
  go_ret
  exact ⟨by rw [← idxP_ge p l 0]; rfl, hb1⟩

def rowBad (n : Nat) (r : List Int) : Bool := ((r.length : Int) != (n : Int)) || r.any (fun x => !wB x (-1000000) 1000000)
set_option maxHeartbeats 400000 in
theorem ct2_any (B Y : Option Addr) (x ys : List Int) (d cy bt bo : Nat) (w : World) (hx : x.length ≤ 4611686018427387904) (hB : Ints w B x)
    (h1 : w.cell? ⟨bt, 1, none⟩ = some (.slice Y ys.length cy)) (h2 : w.cell? ⟨bo, 0, none⟩ = some (.func (.func 52) #[] #[])) :
    Calls Tryd.prog 53 #[.slice B x.length d, .pointer (some ⟨bt, 0, none⟩), .pointer (some ⟨bo, 0, none⟩)] w fun e w' => e = .returned (.bool (rowBad ys.length x)) ∧ Below w.heap.size w w' := by
  have H := Lib.hid (containsFuncInt 52 (fun x => !wB x (-1000000) 1000000) B x d w hx hB enters_ct1 (fun x w' => (ct1_any x w').mono (fun e w'' ⟨h, h'⟩ => ⟨h, h' ▸ Below.refl _ _⟩)))
  clear hB
  by_cases hn : ((x.length : Int) != (ys.length : Int)) = true
  · have R : Hid (rowBad ys.length x = true) := by unfold Hid rowBad; rw [hn]; rfl
    go_enter Tryd.func53, Tryd.ntmps53
    go_wp2
    go_ret
    exact ⟨by rw [R.out]; rfl, Below.refl _ _⟩
  · have hn' : ((x.length : Int) != (ys.length : Int)) = false := by simpa using hn
    have R : Hid (rowBad ys.length x = x.any (fun x => !wB x (-1000000) 1000000)) := by unfold Hid rowBad; rw [hn']; rfl
    clear hn
    go_enter Tryd.func53, Tryd.ntmps53
    go_wp2_with fail
    refine H.out.mono ?_
    rintro e w1 ⟨rfl, hb1⟩
    go_wp2
    go_ret
    exact ⟨by rw [R.out]; rfl, hb1⟩
end Go.Proofs.YtgibbaadjbohdaaDoor
/- The contract of spans.CheckTable: 0 or ErrTable; old memory stays. -/
namespace Go.Proofs.YtgibbaadjbohdaaDoor
open Go.RowKit

def tabB (xs ys : List Int) (vs : List (List Int)) : Bool := axB xs && axB ys && !((vs.length : Int) != (xs.length : Int)) && !vs.any (rowBad ys.length)
def tabErr (xs ys : List Int) (vs : List (List Int)) : Int := if tabB xs ys vs then 0 else 11
def RowsLe (vs : List (List Int)) : Prop := ∀ r, r ∈ vs → r.length ≤ 4611686018427387904
set_option maxHeartbeats 1000000 in
theorem checkTable_any (xs ys : List Int) (vs : List (List Int)) (X Y V : Option Addr) (cx cy cv : Nat) (w : World)
   (hxl : xs.length ≤ 4611686018427387904) (hyl : ys.length ≤ 4611686018427387904) (hvl : vs.length ≤ 4611686018427387904) (hr : RowsLe vs)
   (hX : Ints w X xs) (hY : Ints w Y ys) (hV : Mat w V vs) :
   Calls Tryd.prog 33 #[.agg #[.slice X xs.length cx, .slice Y ys.length cy, .slice V vs.length cv]] w fun e w' => e = .returned (.int .i64 (tabErr xs ys vs)) ∧ Below w.heap.size w w' := by
  have hB2 : ∀ (o1 o2 : Obj), Below w.heap.size w ((w.alloc o1).alloc o2) := fun o1 o2 => ((Below.refl _ w).alloc (Nat.le_refl _) _).alloc (by simp) _
  have HB2 := Lib.hid hB2
  have HXx := Lib.hid hX
  have HYy := Lib.hid hY
  have HVv := Lib.hid hV
  have HR := Lib.hid hr
  clear hX hY hV hr hB2
  by_cases hx : axB xs = true
  · have EX := Lib.hid hx
    by_cases hy : axB ys = true
    · have EY := Lib.hid hy
      by_cases hn : ((vs.length : Int) != (xs.length : Int)) = true
      · have R : Hid (tabErr xs ys vs = 11) := by unfold Hid tabErr tabB; rw [hn]; simp
        clear hx hy
        go_enter Tryd.func33, Tryd.ntmps33
        go_wp2_with fail
        refine (axis_any X xs cx _ hxl (HXx.out.below (HB2.out _ _))).mono ?_
        rintro e w' ⟨rfl, rfl⟩
        rw [EX.out]
        go_wp2_with fail
        refine (axis_any Y ys cy _ hyl (HYy.out.below (HB2.out _ _))).mono ?_
        rintro e w' ⟨rfl, rfl⟩
        rw [EY.out]
        go_wp2_with fail
        go_ret
        exact ⟨by rw [R.out]; rfl, HB2.out _ _⟩
      · have hn' : ((vs.length : Int) != (xs.length : Int)) = false := by simpa using hn
        have R : Hid (tabErr xs ys vs = if vs.any (rowBad ys.length) then 11 else 0) := by unfold Hid tabErr tabB; rw [hn', hx, hy]; cases vs.any (rowBad ys.length) <;> rfl
        clear hx hy hn
        go_enter Tryd.func33, Tryd.ntmps33
        go_wp2_with fail
        refine (axis_any X xs cx _ hxl (HXx.out.below (HB2.out _ _))).mono ?_
        rintro e w' ⟨rfl, rfl⟩
        rw [EX.out]
        go_wp2_with fail
        refine (axis_any Y ys cy _ hyl (HYy.out.below (HB2.out _ _))).mono ?_
        rintro e w' ⟨rfl, rfl⟩
        rw [EY.out]
        go_wp2_with fail
        refine (containsFuncRow 53 (rowBad ys.length) _ _ V vs cv _ hvl (HVv.out.below (HB2.out _ _)) enters_ct2 ?_).mono ?_
        · intro B x d w' hm hb hI
          exact ct2_any B Y x ys d cy w.heap.size (w.heap.size + 1) w' (HR.out x hm) hI (by rw [hb.cell (by simp <;> omega)]; simp) (by rw [hb.cell (by simp <;> omega)]; simp)
        · rintro e w1 ⟨rfl, hb1⟩
          have hb2 := (HB2.out _ _).trans (hb1.mono (by simp; omega))
          clear hb1
          by_cases ha : vs.any (rowBad ys.length) = true
          · rw [ha]
            go_wp2_with fail
            go_ret
            exact ⟨by rw [R.out, if_pos ha]; rfl, hb2⟩
          · have ha' : vs.any (rowBad ys.length) = false := by simpa using ha
            rw [ha']
            go_wp2_with fail
            go_ret
            exact ⟨by rw [R.out, if_neg ha]; rfl, hb2⟩
    · have hy' : axB ys = false := by simpa using hy
      have EY := Lib.hid hy'
      have R : Hid (tabErr xs ys vs = 11) := by unfold Hid tabErr tabB; rw [hy']; simp
      clear hx hy hy'
      go_enter Tryd.func33, Tryd.ntmps33
      go_wp2_with fail
      refine (axis_any X xs cx _ hxl (HXx.out.below (HB2.out _ _))).mono ?_
      rintro e w' ⟨rfl, rfl⟩
      rw [EX.out]
      go_wp2_with fail
      refine (axis_any Y ys cy _ hyl (HYy.out.below (HB2.out _ _))).mono ?_
      rintro e w' ⟨rfl, rfl⟩
      rw [EY.out]
      go_wp2_with fail
      go_ret
      exact ⟨by rw [R.out]; rfl, HB2.out _ _⟩
  · have hx' : axB xs = false := by simpa using hx
    have EX := Lib.hid hx'
    have R : Hid (tabErr xs ys vs = 11) := by unfold Hid tabErr tabB; rw [hx']; simp
    clear hx hx'
    go_enter Tryd.func33, Tryd.ntmps33
    go_wp2_with fail
    refine (axis_any X xs cx _ hxl (HXx.out.below (HB2.out _ _))).mono ?_
    rintro e w' ⟨rfl, rfl⟩
    rw [EX.out]
    go_wp2_with fail
    go_ret
    exact ⟨by rw [R.out]; rfl, HB2.out _ _⟩
end Go.Proofs.YtgibbaadjbohdaaDoor
/- The contract of slices.BinarySearch at ints, and of spans.cell. -/
namespace Go.Proofs.YtgibbaadjbohdaaDoor
open Go.RowKit

theorem isNaN_any (n : Int) (w : World) : Calls Tryd.prog 79 #[.int .i64 n] w fun e w' => e = .returned (.bool false) ∧ w' = w := by
  have h : (n != n) = false := by simp
  go_enter Tryd.func79, Tryd.ntmps79
  go_wp2
  go_ret
  exact ⟨rfl, rfl⟩
theorem cisNaN_any (n : Int) (w : World) : Calls Tryd.prog 80 #[.int .i64 n] w fun e w' => e = .returned (.bool false) ∧ w' = w := by
  have h : (n != n) = false := by simp
  go_enter Tryd.func80, Tryd.ntmps80
  go_wp2
  go_ret
  exact ⟨rfl, rfl⟩
set_option maxHeartbeats 400000 in
theorem less_any (a b : Int) (w : World) : Calls Tryd.prog 78 #[.int .i64 a, .int .i64 b] w fun e w' => e = .returned (.bool (decide (a < b))) ∧ w' = w := by
  go_enter Tryd.func78, Tryd.ntmps78
  go_wp2_with (go_at_call 80; refine (cisNaN_any _ _).mono ?_; rintro e w' ⟨rfl, rfl⟩)
  go_ret
  exact ⟨rfl, rfl⟩
def BinAt (l : List Int) (x : Int) (i : Nat) : Prop := i ≤ l.length ∧ (0 < i → l[i-1]?.getD 0 < x) ∧ (i < l.length → x ≤ l[i]?.getD 0)
def BinPost (l : List Int) (x : Int) (w : World) (e : Ending) (w' : World) : Prop := ∃ (i : Nat) (b : Bool), BinAt l x i ∧ e = .returned (.tuple #[.int .i64 i, .bool b]) ∧ w' = w
set_option maxHeartbeats 400000 in
theorem binSearch_any (A : Option Addr) (l : List Int) (c : Nat) (x : Int) (w : World) (hl : l.length ≤ 1000000000) (hA : Ints w A l) :
    Calls Tryd.prog 77 #[.slice A l.length c, .int .i64 x] w (BinPost l x w) := by
  have HA := Lib.hid hA
  clear hA
  go_enter Tryd.func77, Tryd.ntmps77
  go_wp2
  go_loop [7, 8, 9] (fun i j _ => ∃ a b : Nat, a ≤ b ∧ b ≤ l.length ∧ i = .int .i64 a ∧ j = .int .i64 b ∧ (0 < a → l[a-1]?.getD 0 < x) ∧ (b < l.length → x ≤ l[b]?.getD 0)) (fun i j _ => (intOf j).toNat - (intOf i).toNat)
  case atStart => exact ⟨0, l.length, by omega, by omega, rfl, rfl, by omega, by omega⟩
  case round =>
    obtain ⟨a, b, hab, hbl, rfl, rfl, h1, h2⟩ := hrel
    have H1 := Lib.hid h1
    have H2 := Lib.hid h2
    clear h1 h2
    by_cases hlt : a < b
    · obtain ⟨bb, off, rfl, hbl2, hc⟩ := HA.out (by omega)
      have hc1 := hc ((a + b) / 2) (by omega)
      clear hc
      generalize hy : l[(a + b) / 2]?.getD 0 = y at hc1
      have HY := Lib.hid hy
      clear hy
      go_wp2_with fail
      refine (less_any _ _ _).mono ?_
      rintro e w' ⟨rfl, rfl⟩
      by_cases hyx : y < x
      · rw [decide_eq_true hyx]
        go_wp2_with fail
        go_round
        case rel => exact ⟨(a + b) / 2 + 1, b, by omega, by omega, by go_num, rfl, fun _ => by rw [Nat.add_sub_cancel, HY.out]; exact hyx, H2.out⟩
        case measure => simp [intOf]; omega
      · rw [decide_eq_false hyx]
        go_wp2_with fail
        go_round
        case rel => exact ⟨a, (a + b) / 2, by omega, by omega, rfl, by go_num, H1.out, fun _ => by rw [HY.out]; omega⟩
        case measure => simp [intOf]; omega
    · obtain rfl : a = b := by omega
      have HB : Hid (BinAt l x a) := ⟨hbl, H1.out, H2.out⟩
      clear H1 H2
      by_cases hal : a < l.length
      · obtain ⟨bb, off, rfl, hbl2, hc⟩ := HA.out (by omega)
        have hc1 := hc a hal
        clear hc
        generalize l[a]?.getD 0 = y at hc1
        by_cases hyx : (y == x) = true
        · go_wp2_with (go_at_call 79; refine (isNaN_any _ _).mono ?_; rintro e w' ⟨rfl, rfl⟩)
          go_ret2
          exact ⟨a, _, HB.out, rfl, rfl⟩
        · have hyx' : (y == x) = false := by simpa using hyx
          clear hyx
          go_wp2_with (go_at_call 79; refine (isNaN_any _ _).mono ?_; rintro e w' ⟨rfl, rfl⟩)
          go_ret2
          exact ⟨a, _, HB.out, rfl, rfl⟩
      · obtain rfl : a = l.length := by omega
        go_wp2_with (go_at_call 79; refine (isNaN_any _ _).mono ?_; rintro e w' ⟨rfl, rfl⟩)
        go_ret2
        exact ⟨_, _, HB.out, rfl, rfl⟩
end Go.Proofs.YtgibbaadjbohdaaDoor
/- The contract of spans.cell. -/
namespace Go.Proofs.YtgibbaadjbohdaaDoor
open Go.RowKit

def CellAt (l : List Int) (x : Int) (i : Nat) : Prop := i + 2 ≤ l.length ∧ (0 < i → l[i]?.getD 0 < x) ∧ (i + 2 < l.length → x ≤ l[i+1]?.getD 0)
theorem cellAt_of_bin (l : List Int) (x : Int) (i : Nat) (h2 : 2 ≤ l.length) (h : BinAt ((l.drop 1).take (l.length - 2)) x i) : CellAt l x i := by
  obtain ⟨h1, h3, h4⟩ := h
  have e : ((l.drop 1).take (l.length - 2)).length = l.length - 2 := by simp; omega
  rw [e] at h1 h4
  refine ⟨by omega, fun h0 => ?_, fun hi => ?_⟩
  · have := h3 h0
    rw [List.getElem?_take, if_pos (by omega), List.getElem?_drop, show 1 + (i - 1) = i by omega] at this
    exact this
  · have := h4 (by omega)
    rw [List.getElem?_take, if_pos (by omega), List.getElem?_drop, show 1 + i = i + 1 by omega] at this
    exact this
def CellPost (l : List Int) (x : Int) (w : World) (e : Ending) (w' : World) : Prop := ∃ i : Nat, CellAt l x i ∧ e = .returned (.int .i64 i) ∧ w' = w
set_option maxHeartbeats 400000 in
theorem cell_any (A : Option Addr) (l : List Int) (c : Nat) (x : Int) (w : World) (h2 : 2 ≤ l.length) (hl : l.length ≤ 1000000) (hlc : l.length ≤ c) (hA : Ints w A l) :
    Calls Tryd.prog 73 #[.slice A l.length c, .int .i64 x] w (CellPost l x w) := by
  obtain ⟨b, off, rfl, hb, hc⟩ := hA (by omega)
  have e : ((l.drop 1).take (l.length - 2)).length = l.length - 1 - 1 := by simp; omega
  have hsub : Ints w (some ⟨b, off + 1, none⟩) ((l.drop 1).take (l.length - 2)) := fun _ => ⟨b, off + 1, rfl, hb, fun k hk => by
    rw [e] at hk
    rw [List.getElem?_take, if_pos (by omega), List.getElem?_drop, show off + 1 + k = off + (1 + k) by omega]
    exact hc (1 + k) (by omega)⟩
  have h := binSearch_any (some ⟨b, off + 1, none⟩) ((l.drop 1).take (l.length - 2)) (c - 1) x w (by omega) hsub
  rw [e] at h
  have H := Lib.hid h
  have hi1 : (1 : Int) ≤ (l.length : Int) - 1 := by omega
  have hi2 : (l.length : Int) - 1 ≤ (c : Int) := by omega
  clear hc hA e hsub h
  go_enter Tryd.func73, Tryd.ntmps73
  go_wp2_with fail
  refine H.out.mono ?_
  rintro e w' ⟨i, bb, hbin, rfl, rfl⟩
  have HB := Lib.hid hbin
  clear hbin
  go_wp2_with fail
  go_ret
  exact ⟨i, cellAt_of_bin l x i h2 HB.out, rfl, rfl⟩
end Go.Proofs.YtgibbaadjbohdaaDoor
/- Plain facts of an axis that is valid, and of the part of it in which a number lies. -/
namespace Go.Proofs.YtgibbaadjbohdaaDoor
open Go.RowKit

theorem axFrom_all (p : Option Int) (l : List Int) (h : axFrom p l = true) : (∀ k, k < l.length → -1000000 ≤ l[k]?.getD 0 ∧ l[k]?.getD 0 ≤ 1000000) ∧
    (∀ k, k + 1 < l.length → 1 ≤ l[k+1]?.getD 0 - l[k]?.getD 0 ∧ l[k+1]?.getD 0 - l[k]?.getD 0 ≤ 10000) ∧ (∀ y, p = some y → 0 < l.length → 1 ≤ l[0]?.getD 0 - y ∧ l[0]?.getD 0 - y ≤ 10000) := by
  induction l generalizing p with
  | nil => simp
  | cons x xs ih =>
    simp only [axFrom, Bool.and_eq_true] at h
    obtain ⟨⟨h1, h2⟩, h3⟩ := h
    obtain ⟨i1, i2, i3⟩ := ih _ h3
    have hx := wB_iff.1 h1
    refine ⟨fun k hk => ?_, fun k hk => ?_, fun y hy _ => ?_⟩
    · cases k with
      | zero => simpa using hx
      | succ k => simpa using i1 k (by simpa using hk)
    · cases k with
      | zero => simpa using i3 x rfl (by simpa using hk)
      | succ k => simpa using i2 k (by simpa using hk)
    · subst hy
      simpa using wB_iff.1 h2
structure Axis (l : List Int) : Prop where
  two : 2 ≤ l.length
  twelve : l.length ≤ 12
  bd : ∀ k, k < l.length → -1000000 ≤ l[k]?.getD 0 ∧ l[k]?.getD 0 ≤ 1000000
  gap : ∀ k, k + 1 < l.length → 1 ≤ l[k+1]?.getD 0 - l[k]?.getD 0 ∧ l[k+1]?.getD 0 - l[k]?.getD 0 ≤ 10000
theorem axis_of {l : List Int} (h : axB l = true) : Axis l := by
  unfold axB at h
  simp only [Bool.and_eq_true] at h
  have h1 := wB_iff.1 h.1
  obtain ⟨a, b, _⟩ := axFrom_all none l h.2
  exact ⟨by omega, by omega, a, b⟩
theorem Axis.mono {l : List Int} (h : Axis l) (i j : Nat) (hij : i ≤ j) (hj : j < l.length) : l[i]?.getD 0 ≤ l[j]?.getD 0 := by
  induction j with
  | zero => obtain rfl : i = 0 := by omega
            exact Int.le_refl _
  | succ j ih =>
    by_cases e : i = j + 1
    · subst e; exact Int.le_refl _
    · have := ih (by omega) (by omega)
      have := h.gap j hj
      omega
theorem Axis.cell_unique {l : List Int} (h : Axis l) {x : Int} {i j : Nat} (hi : CellAt l x i) (hj : CellAt l x j) : i = j := by
  have key : ∀ {i j : Nat}, CellAt l x i → CellAt l x j → ¬ i < j := by
    intro i j hi hj hlt
    have h1 := hi.2.2 (by have := hj.1; omega)
    have h2 := hj.2.1 (by omega)
    have h3 := h.mono (i + 1) j (by omega) (by have := hj.1; omega)
    omega
  have h1 := key hi hj
  have h2 := key hj hi
  omega
instance (l : List Int) (x : Int) (i : Nat) : Decidable (CellAt l x i) := by unfold CellAt; exact inferInstance
def cellI (l : List Int) (x : Int) : Nat := ((List.range l.length).find? (fun i => decide (CellAt l x i))).getD 0
theorem Axis.cellI_eq {l : List Int} (h : Axis l) {x : Int} {i : Nat} (hi : CellAt l x i) : cellI l x = i := by
  unfold cellI
  cases e : (List.range l.length).find? (fun i => decide (CellAt l x i)) with
  | none =>
    have := List.find?_eq_none.1 e i (by have := hi.1; simp; omega)
    simp [hi] at this
  | some j =>
    have := List.find?_some e
    exact h.cell_unique (by simpa using this) hi
theorem cellI_any (A : Option Addr) (l : List Int) (c : Nat) (x : Int) (w : World) (h : Axis l) (hlc : l.length ≤ c) (hA : Ints w A l) :
    Calls Tryd.prog 73 #[.slice A l.length c, .int .i64 x] w fun e w' => e = .returned (.int .i64 (cellI l x)) ∧ w' = w :=
  (cell_any A l c x w h.two (by have := h.twelve; omega) hlc hA).mono fun _ _ ⟨i, hi, he, hw⟩ => ⟨by rw [h.cellI_eq hi]; exact he, hw⟩
def OnAx (l : List Int) (x : Int) : Prop := l[0]?.getD 0 ≤ x ∧ x ≤ l[l.length - 1]?.getD 0
theorem Axis.cell_exists {l : List Int} (h : Axis l) (x : Int) : ∃ i, CellAt l x i := by
  -- the first i from 0 on at which the number is at most the next knot, or the last part
  have key : ∀ n i, i + n + 2 = l.length → (0 < i → l[i]?.getD 0 < x) → ∃ j, CellAt l x j := by
    intro n
    induction n with
    | zero => intro i hi h0; exact ⟨i, by omega, h0, by omega⟩
    | succ n ih =>
      intro i hi h0
      by_cases hx : x ≤ l[i+1]?.getD 0
      · exact ⟨i, by omega, h0, fun _ => hx⟩
      · exact ih (i + 1) (by omega) (fun _ => by omega)
  exact key (l.length - 2) 0 (by have := h.two; omega) (by omega)
theorem Axis.cellI_at {l : List Int} (h : Axis l) (x : Int) : CellAt l x (cellI l x) := by
  obtain ⟨i, hi⟩ := h.cell_exists x
  rw [h.cellI_eq hi]; exact hi
theorem Axis.cell_on {l : List Int} (h : Axis l) {x : Int} (ho : OnAx l x) : cellI l x + 1 < l.length ∧ l[cellI l x]?.getD 0 ≤ x ∧ x ≤ l[cellI l x + 1]?.getD 0 ∧ l[cellI l x + 1]?.getD 0 - l[cellI l x]?.getD 0 ≤ 10000 ∧ 1 ≤ l[cellI l x + 1]?.getD 0 - l[cellI l x]?.getD 0 := by
  obtain ⟨h1, h2, h3⟩ := h.cellI_at x
  generalize cellI l x = i at *
  have g := h.gap i (by omega)
  refine ⟨by omega, ?_, ?_, g.2, g.1⟩
  · by_cases h0 : 0 < i
    · have := h2 h0; omega
    · obtain rfl : i = 0 := by omega
      exact ho.1
  · by_cases h0 : i + 2 < l.length
    · exact h3 h0
    · have : i + 1 = l.length - 1 := by omega
      rw [this]; exact ho.2
end Go.Proofs.YtgibbaadjbohdaaDoor
