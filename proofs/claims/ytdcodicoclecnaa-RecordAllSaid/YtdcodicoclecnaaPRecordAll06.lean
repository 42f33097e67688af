/- Texts of the law RecordAll, part 6. No conditions. -/
import Derived.Test.YtdcodicoclecnaaPRecordAll05
import Derived.Test.YtdcodicoclecnaaRows
set_option linter.unusedSimpArgs false
set_option linter.unusedVariables false
/- The functions' bodies, translated. Written by a program; no conditions. -/
namespace Go.Proofs.Ytdcodicoclecnaa
open Go.RowKit Lift

def crecord_All : ACode :=
 (.seq
 (.region false [⟨some 3, .box (.tmp 0), none, []⟩,
 ⟨some 6, .mv (.const (.slice none 0 0)), none, []⟩,
 ⟨some 7, .mv (.const (.int .i64 0)), none, []⟩] [])
 (.seq
 (.region false [⟨some 14, .loadN 6 (.tmp 3), none, []⟩,
 ⟨some 15, .mv (.tmp 1), none, []⟩,
 ⟨some 16, .call (.func 71) [(.tmp 14), (.tmp 15)], none, []⟩,
 ⟨some 13, .mv (.tmp 16), none, []⟩,
 ⟨some 17, .ext (.tmp 13) 0, none, []⟩,
 ⟨some 18, .ext (.tmp 13) 1, none, []⟩,
 ⟨some 8, .mem [(.val (.pointer none))], none, []⟩,
 ⟨none, .store 1 (.tmp 8) (.tmp 17), none, []⟩,
 ⟨some 7, .mv (.tmp 18), none, []⟩] [14, 15, 16, 13, 17, 18])
 (.seq
 (.seq
 (.region false [⟨some 19, .mv (.tmp 7), none, []⟩,
 ⟨some 20, .bin .neq (.tmp 19) (.const (.int .i64 0)), none, []⟩] [19])
 (.cond (.tmp 20)
 (.seq
 (.region false [⟨some 21, .mv (.tmp 7), none, []⟩,
 ⟨some 6, .mv (.const (.slice none 0 0)), none, []⟩,
 ⟨some 7, .mv (.tmp 21), none, []⟩] [21])
 .ret)
 .skip))
 (.seq
 (.seq
 (.region false [⟨some 22, .mv (.tmp 2), none, []⟩,
 ⟨some 23, .len_ (.tmp 22), none, []⟩,
 ⟨some 24, .bin .gtr (.tmp 23) (.const (.int .i64 8)), none, []⟩] [22, 23])
 (.cond (.tmp 24)
 (.seq
 (.region false [⟨some 6, .mv (.const (.slice none 0 0)), none, []⟩,
 ⟨some 7, .mv (.const (.int .i64 2)), none, []⟩] [])
 .ret)
 .skip))
 (.seq
 (.seq
 (.region false [⟨some 25, .mv (.tmp 2), none, []⟩,
 ⟨some 26, .mkfn 106 [] [(.tmp 8)], none, []⟩,
 ⟨some 27, .call (.func 105) [(.tmp 25), (.tmp 26)], none, []⟩] [25, 26])
 (.cond (.tmp 27)
 (.seq
 (.region false [⟨some 6, .mv (.const (.slice none 0 0)), none, []⟩,
 ⟨some 7, .mv (.const (.int .i64 121)), none, []⟩] [])
 .ret)
 .skip))
 (.seq
 (.seq
 (.region false [⟨some 28, .mv (.tmp 2), none, []⟩,
 ⟨some 29, .len_ (.tmp 28), none, []⟩,
 ⟨some 30, .mv (.const (.int .i64 0)), none, []⟩] [])
 (.block 0
 (.loop
 (.seq
 (.region false [⟨some 31, .bin .lss (.tmp 30) (.tmp 29), none, []⟩] [])
 (.seq
 (.cond (.tmp 31)
 .skip
 (.exit 0))
 (.seq
 (.block 1
 (.seq
 (.region false [⟨some 32, .mv (.tmp 30), none, []⟩,
 ⟨some 33, .iadS 2 (.tmp 28) (.tmp 30), none, []⟩,
 ⟨some 34, .loadN 2 (.tmp 33), none, []⟩,
 ⟨some 10, .mem [(.val (.slice none 0 0)), (.val (.int .i64 0))], none, []⟩,
 ⟨some 9, .mv (.tmp 32), none, []⟩,
 ⟨none, .store 2 (.tmp 10) (.tmp 34), none, []⟩] [32, 33, 34])
 (.seq
 (.region false [⟨some 35, .load1 (.tmp 8), none, []⟩,
 ⟨some 36, .loadN 2 (.tmp 10), none, []⟩,
 ⟨some 37, .call (.func 94) [(.tmp 35), (.tmp 36)], none, []⟩,
 ⟨some 38, .len_ (.tmp 37), none, []⟩,
 ⟨some 39, .mv (.const (.int .i64 0)), none, []⟩] [35, 36])
 (.block 2
 (.loop
 (.seq
 (.region false [⟨some 40, .bin .lss (.tmp 39) (.tmp 38), none, []⟩] [])
 (.seq
 (.cond (.tmp 40)
 .skip
 (.exit 2))
 (.seq
 (.block 3
 (.seq
 (.region false [⟨some 41, .iadS 2 (.tmp 37) (.tmp 39), none, []⟩,
 ⟨some 42, .loadN 2 (.tmp 41), none, []⟩,
 ⟨some 12, .mem [(.val (.int .i64 0)), (.val (.int .i64 0))], none, []⟩,
 ⟨none, .store 2 (.tmp 12) (.tmp 42), none, []⟩] [41, 42])
 (.region false [⟨some 43, .mv (.tmp 6), none, []⟩,
 ⟨some 44, .mv (.tmp 9), none, []⟩,
 ⟨some 45, .loadN 2 (.tmp 12), none, []⟩,
 ⟨some 46, .build [(.val (.int .i64 0)), (.val (.int .i64 0)), (.val (.int .i64 0))] [(0, 1, (.tmp 44)), (1, 2, (.tmp 45))], none, []⟩,
 ⟨some 47, .buildSl 3 1 [(.val (.int .i64 0)), (.val (.int .i64 0)), (.val (.int .i64 0))] [(0, 3, (.tmp 46))], none, []⟩,
 ⟨some 48, .app 3 24 (.tmp 43) (.tmp 47), none, []⟩,
 ⟨some 6, .mv (.tmp 48), none, []⟩] [43, 44, 45, 46, 47, 48])))
 (.region false [⟨some 49, .bin .add (.tmp 39) (.const (.int .i64 1)), none, []⟩,
 ⟨some 39, .mv (.tmp 49), none, []⟩] [49])))))))))
 (.region false [⟨some 50, .bin .add (.tmp 30) (.const (.int .i64 1)), none, []⟩,
 ⟨some 30, .mv (.tmp 50), none, []⟩] [50])))))))
 (.seq
 (.region false [⟨some 51, .mv (.tmp 6), none, []⟩,
 ⟨some 52, .call (.func 107) [(.tmp 51), (.func 108)], none, []⟩] [51, 52])
 (.seq
 (.region false [⟨some 53, .mv (.tmp 6), none, []⟩,
 ⟨some 6, .mv (.tmp 53), none, []⟩,
 ⟨some 7, .mv (.const (.int .i64 0)), none, []⟩] [53])
 .ret))))))))
set_option maxRecDepth 100000 in
theorem krecord_All : IsCode Try.prog 62 54 crecord_All [.tmp 6, .tmp 7] :=
 ⟨Try.f62, _, [40, 31, 27, 24, 20, 0, 3, 1, 7, 2, 8, 30, 29, 28, 10, 39, 38, 37, 6, 9, 12], Try.func62, rfl, by decide, rfl, by kernel_rfl, by kernel_rfl⟩
def crecord_All_S1 : ACode :=
 (.seq
 (.region false [⟨some 2, .box (.tmp 0), none, []⟩,
 ⟨some 3, .mv (.const (.bool false)), none, []⟩] [])
 (.seq
 (.region false [⟨some 4, .load1 (.tmp 1), none, []⟩,
 ⟨some 5, .loadN 2 (.tmp 2), none, []⟩,
 ⟨some 6, .call (.func 93) [(.tmp 4), (.tmp 5)], none, []⟩,
 ⟨some 7, .un .not (.tmp 6), none, []⟩,
 ⟨some 3, .mv (.tmp 7), none, []⟩] [4, 5, 6, 7])
 .ret))
set_option maxRecDepth 100000 in
theorem krecord_All_S1 : IsCode Try.prog 106 8 crecord_All_S1 [.tmp 3] :=
 ⟨Try.f106, _, [0, 1, 2, 3], Try.func106, rfl, by decide, rfl, by kernel_rfl, by kernel_rfl⟩
def cslices_IndexFunc_L_L_Japi_Event_Kapi_Event_J : ACode :=
 (.seq
 (.region false [⟨some 4, .mv (.const (.int .i64 0)), none, []⟩] [])
 (.seq
 (.seq
 (.region false [⟨some 6, .mv (.tmp 0), none, []⟩,
 ⟨some 7, .len_ (.tmp 6), none, []⟩,
 ⟨some 8, .mv (.const (.int .i64 0)), none, []⟩] [6])
 (.block 0
 (.loop
 (.seq
 (.region false [⟨some 9, .bin .lss (.tmp 8) (.tmp 7), none, []⟩] [])
 (.seq
 (.cond (.tmp 9)
 .skip
 (.exit 0))
 (.seq
 (.block 1
 (.seq
 (.region false [⟨some 10, .mv (.tmp 8), none, []⟩,
 ⟨some 5, .mv (.tmp 10), none, []⟩] [10])
 (.seq
 (.region false [⟨some 11, .mv (.tmp 1), none, []⟩,
 ⟨some 12, .mv (.tmp 0), none, []⟩,
 ⟨some 13, .mv (.tmp 5), none, []⟩,
 ⟨some 14, .iadS 2 (.tmp 12) (.tmp 13), none, []⟩,
 ⟨some 15, .loadN 2 (.tmp 14), none, []⟩,
 ⟨some 16, .call (.tmp 11) [(.tmp 15)], none, []⟩] [11, 12, 13, 14, 15])
 (.cond (.tmp 16)
 (.seq
 (.region false [⟨some 17, .mv (.tmp 5), none, []⟩,
 ⟨some 4, .mv (.tmp 17), none, []⟩] [17])
 .ret)
 .skip))))
 (.region false [⟨some 18, .bin .add (.tmp 8) (.const (.int .i64 1)), none, []⟩,
 ⟨some 8, .mv (.tmp 18), none, []⟩] [18])))))))
 (.seq
 (.region false [⟨some 4, .mv (.const (.int .i64 (-1))), none, []⟩] [])
 .ret)))
set_option maxRecDepth 100000 in
theorem kslices_IndexFunc_L_L_Japi_Event_Kapi_Event_J : IsCode Try.prog 141 19 cslices_IndexFunc_L_L_Japi_Event_Kapi_Event_J [.tmp 4] :=
 ⟨Try.f141, _, [16, 9, 0, 8, 7, 1, 5, 4], Try.func141, rfl, by decide, rfl, by kernel_rfl, by kernel_rfl⟩
def cslices_ContainsFunc_L_L_Japi_Event_Kapi_Event_J : ACode :=
 (.seq
 (.region false [⟨some 4, .mv (.const (.bool false)), none, []⟩] [])
 (.seq
 (.region false [⟨some 5, .mv (.tmp 0), none, []⟩,
 ⟨some 6, .mv (.tmp 1), none, []⟩,
 ⟨some 7, .call (.func 141) [(.tmp 5), (.tmp 6)], none, []⟩,
 ⟨some 8, .bin .geq (.tmp 7) (.const (.int .i64 0)), none, []⟩,
 ⟨some 4, .mv (.tmp 8), none, []⟩] [5, 6, 7, 8])
 .ret))
set_option maxRecDepth 100000 in
theorem kslices_ContainsFunc_L_L_Japi_Event_Kapi_Event_J : IsCode Try.prog 105 9 cslices_ContainsFunc_L_L_Japi_Event_Kapi_Event_J [.tmp 4] :=
 ⟨Try.f105, _, [0, 1, 4], Try.func105, rfl, by decide, rfl, by kernel_rfl, by kernel_rfl⟩
def cref12_All : ACode :=
 (.seq
 (.region false [⟨some 3, .box (.tmp 0), none, []⟩,
 ⟨some 6, .mv (.const (.slice none 0 0)), none, []⟩,
 ⟨some 7, .mv (.const (.int .i64 0)), none, []⟩] [])
 (.seq
 (.region false [⟨some 15, .loadN 6 (.tmp 3), none, []⟩,
 ⟨some 16, .mv (.tmp 1), none, []⟩,
 ⟨some 17, .call (.func 68) [(.tmp 15), (.tmp 16)], none, []⟩,
 ⟨some 8, .mv (.tmp 17), none, []⟩] [15, 16, 17])
 (.seq
 (.seq
 (.region false [⟨some 18, .mv (.tmp 8), none, []⟩,
 ⟨some 19, .bin .neq (.tmp 18) (.const (.int .i64 0)), none, []⟩] [18])
 (.cond (.tmp 19)
 (.seq
 (.region false [⟨some 20, .mv (.tmp 8), none, []⟩,
 ⟨some 6, .mv (.const (.slice none 0 0)), none, []⟩,
 ⟨some 7, .mv (.tmp 20), none, []⟩] [20])
 .ret)
 .skip))
 (.seq
 (.seq
 (.region false [⟨some 21, .mv (.tmp 2), none, []⟩,
 ⟨some 22, .len_ (.tmp 21), none, []⟩,
 ⟨some 23, .bin .gtr (.tmp 22) (.const (.int .i64 8)), none, []⟩] [21, 22])
 (.cond (.tmp 23)
 (.seq
 (.region false [⟨some 6, .mv (.const (.slice none 0 0)), none, []⟩,
 ⟨some 7, .mv (.const (.int .i64 2)), none, []⟩] [])
 .ret)
 .skip))
 (.seq
 (.seq
 (.region false [⟨some 9, .mv (.const (.int .i64 0)), none, []⟩] [])
 (.block 0
 (.loop
 (.seq
 (.seq
 (.region false [⟨some 24, .mv (.tmp 9), none, []⟩,
 ⟨some 25, .mv (.tmp 2), none, []⟩,
 ⟨some 26, .len_ (.tmp 25), none, []⟩,
 ⟨some 27, .bin .lss (.tmp 24) (.tmp 26), none, []⟩] [24, 25, 26])
 (.cond (.tmp 27)
 .skip
 (.exit 0)))
 (.seq
 (.block 1
 (.seq
 (.region true [⟨some 30, .loadN 6 (.tmp 3), none, []⟩,
 ⟨some 31, .mv (.tmp 2), none, []⟩,
 ⟨some 32, .mv (.tmp 9), none, []⟩,
 ⟨some 33, .iadS 2 (.tmp 31) (.tmp 32), none, [1, 2]⟩,
 ⟨some 34, .loadN 2 (.tmp 33), none, [3, 1, 2]⟩,
 ⟨some 35, .call (.func 49) [(.tmp 30), (.tmp 34)], none, [0, 4, 3, 1, 2]⟩,
 ⟨some 36, .un .not (.tmp 35), none, [5, 0, 4, 3, 1, 2]⟩] [30, 31, 32, 33, 34, 35])
 (.cond (.tmp 36)
 (.seq
 (.region false [⟨some 6, .mv (.const (.slice none 0 0)), none, []⟩,
 ⟨some 7, .mv (.const (.int .i64 121)), none, []⟩] [])
 .ret)
 .skip)))
 (.region false [⟨some 28, .mv (.tmp 9), none, []⟩,
 ⟨some 29, .bin .add (.tmp 28) (.const (.int .i64 1)), none, []⟩,
 ⟨some 9, .mv (.tmp 29), none, []⟩] [28, 29]))))))
 (.seq
 (.region false [⟨some 10, .mv (.const (.slice none 0 0)), none, []⟩] [])
 (.seq
 (.seq
 (.region false [⟨some 11, .mv (.const (.int .i64 0)), none, []⟩] [])
 (.block 2
 (.loop
 (.seq
 (.seq
 (.region false [⟨some 37, .mv (.tmp 11), none, []⟩,
 ⟨some 38, .mv (.tmp 2), none, []⟩,
 ⟨some 39, .len_ (.tmp 38), none, []⟩,
 ⟨some 40, .bin .lss (.tmp 37) (.tmp 39), none, []⟩] [37, 38, 39])
 (.cond (.tmp 40)
 .skip
 (.exit 2)))
 (.seq
 (.block 3
 (.seq
 (.region true [⟨some 43, .loadN 6 (.tmp 3), none, []⟩,
 ⟨some 44, .mv (.tmp 1), none, []⟩,
 ⟨some 45, .mv (.tmp 2), none, []⟩,
 ⟨some 46, .mv (.tmp 11), none, []⟩,
 ⟨some 47, .iadS 2 (.tmp 45) (.tmp 46), none, [2, 3]⟩,
 ⟨some 48, .loadN 2 (.tmp 47), none, [4, 2, 3]⟩,
 ⟨some 49, .call (.func 95) [(.tmp 43), (.tmp 44), (.tmp 48)], none, [0, 1, 5, 4, 2, 3]⟩,
 ⟨some 12, .mv (.tmp 49), none, [6, 0, 1, 5, 4, 2, 3]⟩] [43, 44, 45, 46, 47, 48, 49])
 (.seq
 (.region false [⟨some 13, .mv (.const (.int .i64 0)), none, []⟩] [])
 (.block 4
 (.loop
 (.seq
 (.seq
 (.region false [⟨some 50, .mv (.tmp 13), none, []⟩,
 ⟨some 51, .mv (.tmp 12), none, []⟩,
 ⟨some 52, .len_ (.tmp 51), none, []⟩,
 ⟨some 53, .bin .lss (.tmp 50) (.tmp 52), none, []⟩] [50, 51, 52])
 (.cond (.tmp 53)
 .skip
 (.exit 4)))
 (.seq
 (.block 5
 (.seq
 (.region false [⟨some 56, .mv (.tmp 10), none, []⟩,
 ⟨some 57, .mv (.tmp 11), none, []⟩,
 ⟨some 58, .mv (.tmp 12), none, []⟩,
 ⟨some 59, .mv (.tmp 13), none, []⟩,
 ⟨some 60, .iadS 2 (.tmp 58) (.tmp 59), none, []⟩,
 ⟨some 61, .loadN 2 (.tmp 60), none, []⟩,
 ⟨some 62, .build [(.val (.int .i64 0)), (.val (.int .i64 0)), (.val (.int .i64 0))] [(0, 1, (.tmp 57)), (1, 2, (.tmp 61))], none, []⟩,
 ⟨some 63, .buildSl 3 1 [(.val (.int .i64 0)), (.val (.int .i64 0)), (.val (.int .i64 0))] [(0, 3, (.tmp 62))], none, []⟩,
 ⟨some 64, .app 3 24 (.tmp 56) (.tmp 63), none, []⟩,
 ⟨some 10, .mv (.tmp 64), none, []⟩] [56, 57, 58, 59, 60, 61, 62, 63, 64])
 (.seq
 (.region false [⟨some 65, .mv (.tmp 10), none, []⟩,
 ⟨some 66, .len_ (.tmp 65), none, []⟩,
 ⟨some 67, .bin .sub (.tmp 66) (.const (.int .i64 1)), none, []⟩,
 ⟨some 14, .mv (.tmp 67), none, []⟩] [65, 66, 67])
 (.block 6
 (.loop
 (.seq
 (.seq
 (.region true [⟨some 68, .mv (.tmp 14), none, []⟩,
 ⟨some 69, .bin .gtr (.tmp 68) (.const (.int .i64 0)), none, [0]⟩,
 ⟨some 70, .mv (.tmp 69), none, [1, 0]⟩,
 ⟨some 71, .mv (.tmp 10), (some (some 70, true)), [2, 1, 0]⟩,
 ⟨some 72, .mv (.tmp 14), (some (some 70, true)), [2, 1, 0]⟩,
 ⟨some 73, .iadS 3 (.tmp 71) (.tmp 72), (some (some 70, true)), [3, 2, 1, 0, 4]⟩,
 ⟨some 74, .fad 1 (.tmp 73), (some (some 70, true)), [5, 3, 2, 1, 0, 4]⟩,
 ⟨some 75, .fad 0 (.tmp 74), (some (some 70, true)), [6, 5, 3, 2, 1, 0, 4]⟩,
 ⟨some 76, .load1 (.tmp 75), (some (some 70, true)), [7, 6, 5, 3, 2, 1, 0, 4]⟩,
 ⟨some 77, .mv (.tmp 10), (some (some 70, true)), [2, 1, 0]⟩,
 ⟨some 78, .mv (.tmp 14), (some (some 70, true)), [2, 1, 0]⟩,
 ⟨some 79, .bin .sub (.tmp 78) (.const (.int .i64 1)), (some (some 70, true)), [10, 2, 1, 0]⟩,
 ⟨some 80, .iadS 3 (.tmp 77) (.tmp 79), (some (some 70, true)), [9, 2, 1, 0, 11, 10]⟩,
 ⟨some 81, .fad 1 (.tmp 80), (some (some 70, true)), [12, 9, 2, 1, 0, 11, 10]⟩,
 ⟨some 82, .fad 0 (.tmp 81), (some (some 70, true)), [13, 12, 9, 2, 1, 0, 11, 10]⟩,
 ⟨some 83, .load1 (.tmp 82), (some (some 70, true)), [14, 13, 12, 9, 2, 1, 0, 11, 10]⟩,
 ⟨some 84, .bin .lss (.tmp 76) (.tmp 83), (some (some 70, true)), [8, 7, 6, 5, 3, 2, 1, 0, 4, 15, 14, 13, 12, 9, 11, 10]⟩,
 ⟨some 85, .pick (.tmp 70) (.tmp 84) (.const (.bool false)), none, [2, 1, 0, 16, 8, 7, 6, 5, 3, 4, 15, 14, 13, 12, 9, 11, 10]⟩] [68, 69, 70, 71, 72, 73, 74, 75, 76, 77, 78, 79, 80, 81, 82, 83, 84])
 (.cond (.tmp 85)
 .skip
 (.exit 6)))
 (.seq
 (.block 7
 (.region true [⟨some 88, .mv (.tmp 10), none, []⟩,
 ⟨some 89, .mv (.tmp 14), none, []⟩,
 ⟨some 90, .mv (.tmp 10), none, []⟩,
 ⟨some 91, .mv (.tmp 14), none, []⟩,
 ⟨some 92, .bin .sub (.tmp 91) (.const (.int .i64 1)), none, [3]⟩,
 ⟨some 93, .mv (.tmp 10), none, []⟩,
 ⟨some 94, .mv (.tmp 14), none, []⟩,
 ⟨some 95, .bin .sub (.tmp 94) (.const (.int .i64 1)), none, [6]⟩,
 ⟨some 96, .iadS 3 (.tmp 93) (.tmp 95), none, [5, 7, 6]⟩,
 ⟨some 97, .loadN 3 (.tmp 96), none, [8, 5, 7, 6]⟩,
 ⟨some 98, .mv (.tmp 10), none, []⟩,
 ⟨some 99, .mv (.tmp 14), none, []⟩,
 ⟨some 100, .iadS 3 (.tmp 98) (.tmp 99), none, [10, 11]⟩,
 ⟨some 101, .loadN 3 (.tmp 100), none, [12, 10, 11]⟩,
 ⟨some 102, .iadS 3 (.tmp 88) (.tmp 89), none, [0, 1, 5, 6, 7, 8, 9, 13, 12, 10, 11]⟩,
 ⟨none, .store 3 (.tmp 102) (.tmp 97), none, [14, 0, 1, 5, 6, 7, 8, 9, 13, 12, 10, 11]⟩,
 ⟨some 103, .iadS 3 (.tmp 90) (.tmp 92), none, [2, 4, 3, 0, 1, 5, 6, 7, 8, 9, 10, 11, 12, 13, 14, 15]⟩,
 ⟨none, .store 3 (.tmp 103) (.tmp 101), none, [16, 2, 4, 3, 0, 1, 5, 6, 7, 8, 9, 10, 11, 12, 13, 14, 15]⟩] [88, 89, 90, 91, 92, 93, 94, 95, 96, 97, 98, 99, 100, 101, 102, 103]))
 (.region false [⟨some 86, .mv (.tmp 14), none, []⟩,
 ⟨some 87, .bin .sub (.tmp 86) (.const (.int .i64 1)), none, []⟩,
 ⟨some 14, .mv (.tmp 87), none, []⟩] [86, 87]))))))))
 (.region false [⟨some 54, .mv (.tmp 13), none, []⟩,
 ⟨some 55, .bin .add (.tmp 54) (.const (.int .i64 1)), none, []⟩,
 ⟨some 13, .mv (.tmp 55), none, []⟩] [54, 55]))))))))
 (.region false [⟨some 41, .mv (.tmp 11), none, []⟩,
 ⟨some 42, .bin .add (.tmp 41) (.const (.int .i64 1)), none, []⟩,
 ⟨some 11, .mv (.tmp 42), none, []⟩] [41, 42]))))))
 (.seq
 (.region false [⟨some 104, .mv (.tmp 10), none, []⟩,
 ⟨some 6, .mv (.tmp 104), none, []⟩,
 ⟨some 7, .mv (.const (.int .i64 0)), none, []⟩] [104])
 .ret))))))))
set_option maxRecDepth 100000 in
theorem kref12_All : IsCode Try.prog 63 105 cref12_All [.tmp 6, .tmp 7] :=
 ⟨Try.f63, _, [85, 53, 40, 36, 27, 23, 19, 0, 3, 1, 8, 2, 9, 11, 13, 12, 10, 14, 6, 7], Try.func63, rfl, by decide, rfl, by kernel_rfl, by kernel_rfl⟩
def claw12_RecordAll : ACode :=
 (.seq
 (.region false [⟨some 2, .box (.tmp 0), none, []⟩,
 ⟨some 4, .mv (.const (.bool false)), none, []⟩] [])
 (.seq
 (.seq
 (.region false [⟨some 13, .loadN 7 (.tmp 2), none, []⟩,
 ⟨some 14, .call (.func 15) [(.tmp 13)], none, []⟩,
 ⟨some 15, .mv (.tmp 14), none, []⟩,
 ⟨some 16, .mv (.tmp 1), (some (some 15, false)), []⟩,
 ⟨some 17, .len_ (.tmp 16), (some (some 15, false)), []⟩,
 ⟨some 18, .bin .gtr (.tmp 17) (.const (.int .i64 12)), (some (some 15, false)), []⟩,
 ⟨some 19, .pick (.tmp 15) (.const (.bool true)) (.tmp 18), none, []⟩] [13, 14, 15, 16, 17, 18])
 (.cond (.tmp 19)
 (.seq
 (.region false [⟨some 20, .call (.func 16) [], none, []⟩,
 ⟨some 4, .mv (.tmp 20), none, []⟩] [20])
 .ret)
 .skip))
 (.seq
 (.region false [⟨some 5, .mv (.const (.slice none 0 0)), none, []⟩] [])
 (.seq
 (.seq
 (.region false [⟨some 6, .mv (.const (.int .i64 0)), none, []⟩] [])
 (.block 0
 (.loop
 (.seq
 (.seq
 (.region false [⟨some 21, .mv (.tmp 6), none, []⟩,
 ⟨some 22, .mv (.tmp 1), none, []⟩,
 ⟨some 23, .len_ (.tmp 22), none, []⟩,
 ⟨some 24, .bin .lss (.tmp 21) (.tmp 23), none, []⟩] [21, 22, 23])
 (.cond (.tmp 24)
 .skip
 (.exit 0)))
 (.seq
 (.block 1
 (.seq
 (.seq
 (.region false [⟨some 27, .mv (.tmp 1), none, []⟩,
 ⟨some 28, .mv (.tmp 6), none, []⟩,
 ⟨some 29, .iadS 2 (.tmp 27) (.tmp 28), none, []⟩,
 ⟨some 30, .loadN 2 (.tmp 29), none, []⟩,
 ⟨some 31, .call (.func 44) [(.tmp 30)], none, []⟩] [27, 28, 29, 30])
 (.cond (.tmp 31)
 (.seq
 (.region false [⟨some 32, .call (.func 16) [], none, []⟩,
 ⟨some 4, .mv (.tmp 32), none, []⟩] [32])
 .ret)
 .skip))
 (.region false [⟨some 33, .mv (.tmp 5), none, []⟩,
 ⟨some 34, .mv (.tmp 1), none, []⟩,
 ⟨some 35, .mv (.tmp 6), none, []⟩,
 ⟨some 36, .iadS 2 (.tmp 34) (.tmp 35), none, []⟩,
 ⟨some 37, .loadN 2 (.tmp 36), none, []⟩,
 ⟨some 38, .call (.func 46) [(.tmp 37)], none, []⟩,
 ⟨some 39, .buildSl 2 1 [(.val (.slice none 0 0)), (.val (.int .i64 0))] [(0, 2, (.tmp 38))], none, []⟩,
 ⟨some 40, .app 2 32 (.tmp 33) (.tmp 39), none, []⟩,
 ⟨some 5, .mv (.tmp 40), none, []⟩] [33, 34, 35, 36, 37, 38, 39, 40])))
 (.region false [⟨some 25, .mv (.tmp 6), none, []⟩,
 ⟨some 26, .bin .add (.tmp 25) (.const (.int .i64 1)), none, []⟩,
 ⟨some 6, .mv (.tmp 26), none, []⟩] [25, 26]))))))
 (.seq
 (.region false [⟨some 41, .loadN 7 (.tmp 2), none, []⟩,
 ⟨some 42, .call (.func 17) [(.tmp 41)], none, []⟩,
 ⟨some 7, .mem [(.val (.int .i64 0)), (.val (.int .i64 0)), (.val (.int .i64 0)), (.val (.int .i64 0)), (.val (.int .i64 0)), (.val (.slice none 0 0)), (.val (.slice none 0 0))], none, []⟩,
 ⟨none, .store 7 (.tmp 7) (.tmp 42), none, []⟩] [41, 42])
 (.seq
 (.region false [⟨some 44, .fad 0 (.tmp 7), none, []⟩,
 ⟨some 45, .loadN 6 (.tmp 44), none, []⟩,
 ⟨some 46, .fad 6 (.tmp 7), none, []⟩,
 ⟨some 47, .load1 (.tmp 46), none, []⟩,
 ⟨some 48, .mv (.tmp 5), none, []⟩,
 ⟨some 49, .call (.func 62) [(.tmp 45), (.tmp 47), (.tmp 48)], none, []⟩,
 ⟨some 43, .mv (.tmp 49), none, []⟩,
 ⟨some 50, .ext (.tmp 43) 0, none, []⟩,
 ⟨some 51, .ext (.tmp 43) 1, none, []⟩,
 ⟨some 8, .mv (.tmp 50), none, []⟩,
 ⟨some 9, .mv (.tmp 51), none, []⟩] [44, 45, 46, 47, 48, 49, 43, 50, 51])
 (.seq
 (.region false [⟨some 53, .fad 0 (.tmp 2), none, []⟩,
 ⟨some 54, .loadN 6 (.tmp 53), none, []⟩,
 ⟨some 55, .fad 6 (.tmp 2), none, []⟩,
 ⟨some 56, .load1 (.tmp 55), none, []⟩,
 ⟨some 57, .mv (.tmp 1), none, []⟩,
 ⟨some 58, .call (.func 63) [(.tmp 54), (.tmp 56), (.tmp 57)], none, []⟩,
 ⟨some 52, .mv (.tmp 58), none, []⟩,
 ⟨some 59, .ext (.tmp 52) 0, none, []⟩,
 ⟨some 60, .ext (.tmp 52) 1, none, []⟩,
 ⟨some 10, .mv (.tmp 59), none, []⟩,
 ⟨some 11, .mv (.tmp 60), none, []⟩] [53, 54, 55, 56, 57, 58, 52, 59, 60])
 (.seq
 (.seq
 (.region false [⟨some 61, .mv (.tmp 8), none, []⟩,
 ⟨some 62, .len_ (.tmp 61), none, []⟩,
 ⟨some 63, .mv (.tmp 10), none, []⟩,
 ⟨some 64, .len_ (.tmp 63), none, []⟩,
 ⟨some 65, .bin .neq (.tmp 62) (.tmp 64), none, []⟩,
 ⟨some 66, .mv (.tmp 65), none, []⟩,
 ⟨some 67, .mv (.tmp 9), (some (some 66, false)), []⟩,
 ⟨some 68, .mv (.tmp 11), (some (some 66, false)), []⟩,
 ⟨some 69, .bin .neq (.tmp 67) (.tmp 68), (some (some 66, false)), []⟩,
 ⟨some 70, .pick (.tmp 66) (.const (.bool true)) (.tmp 69), none, []⟩] [61, 62, 63, 64, 65, 66, 67, 68, 69])
 (.cond (.tmp 70)
 (.seq
 (.region false [⟨some 4, .mv (.const (.bool false)), none, []⟩] [])
 .ret)
 .skip))
 (.seq
 (.seq
 (.region false [⟨some 12, .mv (.const (.int .i64 0)), none, []⟩] [])
 (.block 2
 (.loop
 (.seq
 (.seq
 (.region false [⟨some 71, .mv (.tmp 12), none, []⟩,
 ⟨some 72, .mv (.tmp 8), none, []⟩,
 ⟨some 73, .len_ (.tmp 72), none, []⟩,
 ⟨some 74, .bin .lss (.tmp 71) (.tmp 73), none, []⟩] [71, 72, 73])
 (.cond (.tmp 74)
 .skip
 (.exit 2)))
 (.seq
 (.block 3
 (.seq
 (.region true [⟨some 77, .mv (.tmp 8), none, []⟩,
 ⟨some 78, .mv (.tmp 12), none, []⟩,
 ⟨some 79, .iadS 3 (.tmp 77) (.tmp 78), none, [0, 1]⟩,
 ⟨some 80, .loadN 3 (.tmp 79), none, [2, 0, 1]⟩,
 ⟨some 81, .mv (.tmp 10), none, []⟩,
 ⟨some 82, .mv (.tmp 12), none, []⟩,
 ⟨some 83, .iadS 3 (.tmp 81) (.tmp 82), none, [4, 5]⟩,
 ⟨some 84, .loadN 3 (.tmp 83), none, [6, 4, 5]⟩,
 ⟨some 85, .eqa true [false, false, false] (.tmp 80) (.tmp 84), none, [3, 2, 0, 1, 7, 6, 4, 5]⟩] [77, 78, 79, 80, 81, 82, 83, 84])
 (.cond (.tmp 85)
 (.seq
 (.region false [⟨some 4, .mv (.const (.bool false)), none, []⟩] [])
 .ret)
 .skip)))
 (.region false [⟨some 75, .mv (.tmp 12), none, []⟩,
 ⟨some 76, .bin .add (.tmp 75) (.const (.int .i64 1)), none, []⟩,
 ⟨some 12, .mv (.tmp 76), none, []⟩] [75, 76]))))))
 (.seq
 (.region false [⟨some 86, .call (.func 16) [], none, []⟩,
 ⟨some 4, .mv (.tmp 86), none, []⟩] [86])
 .ret))))))))))
set_option maxRecDepth 100000 in
theorem klaw12_RecordAll : IsCode Try.prog 14 87 claw12_RecordAll [.tmp 4] :=
 ⟨Try.f14, _, [85, 74, 70, 31, 24, 19, 0, 2, 1, 6, 5, 7, 8, 10, 9, 11, 12, 4], Try.func14, rfl, by decide, rfl, by kernel_rfl, by kernel_rfl⟩
end Go.Proofs.Ytdcodicoclecnaa
/- record: whether all events are right (views last). No conditions. -/
namespace Go.Proofs.Ytdcodicoclecnaa
open Go Go.RowKit Lift

abbrev Evt := List Cd × Int
def evls (x : List Evt) : List (List D) := x.map fun e => [.list (cds e.1), dI e.2]
def evAt (x : List Evt) (k : Nat) : Evt := x[k]?.getD ([], 0)
theorem evls_len (x : List Evt) : (evls x).length = x.length := by simp [evls]
theorem evls_all (x : List Evt) : (evls x).all (fun y => y.length == 2) = true := by
  refine List.all_eq_true.2 fun y hy => ?_
  obtain ⟨q, _, rfl⟩ := List.mem_map.1 hy
  rfl
theorem evls_gd (x : List Evt) (k : Nat) (h : k < x.length) : (evls x)[k]? = some [.list (cds (evAt x k).1), .val (.int .i64 (evAt x k).2)] := by simp [evls, evAt, h, dI]
def eB (l : Lay) (e : Evt) : Bool := evB l e.1 e.2
set_option maxRecDepth 100000 in
set_option maxHeartbeats 2000000 in
theorem abad_ac (l : Lay) (frs : List (List Int)) (e : Evt) (hl : e.1.length ≤ 1000000) (hn : l.fl.length ≤ 1000) : AC Try.prog 106 [evD e.1 e.2, .ptr 152 0] [(96, tpC l frs), (152, [.ptr 96 0])] [(96, some (tpC l frs)), (152, some [.ptr 96 0])] (dB (!eB l e)) := by
  refine krecord_All_S1.ac (n0 := 200) (by simp) ⟨in_ev _ _ _, .ptr _ _ (by omega), trivial⟩ ⟨⟨by omega, tpC_in _ _ _⟩, ⟨by omega, by intro d hd; simp at hd; subst hd; exact .ptr _ _ (by omega)⟩, trivial⟩ rfl ?_
  have c := evalid_ac l frs e.1 e.2 hl hn
  unfold crecord_All_S1 eB
  unfold evD at *
  cases h : evB l e.1 e.2
  all_goals
    rw [h] at c
    (repeat' (first | (with_reducible first | refine thenQ_n ?_ | refine blockQ_n ?_ | refine thenQ_e ?_ | refine blockQ_t ?_ | refine blockQ_f (by decide) ?_) | apply aw_seq | apply aw_skip | apply aw_exit | apply aw_ret | apply aw_block | apply aw_condT rfl | apply aw_condF rfl | ((first | refine aw_hide fun K hK => aw_region ?_ | refine acallB (c) (by repeat' (first | exact trivial | exact rfl | refine And.intro ?_ ?_)) (by kernel_rfl) (by kernel_rfl) (by kernel_rfl) ?_ | refine ago_if (by omega) ?_ | skip); simp (disch := first | exact okY | omega) only [List.length, Nat.zero_add, Nat.reduceAdd, Nat.reduceMul, envOf, dI, ARun_none, AOpRun, aexec, D.isBot, FSt.ev, St.F, ↓eget_h, Bool.false_eq_true, Option.isSome, hget_c, Nat.reduceBEq, hget_n, cond_false, or_self, ↓reduceIte, D.cells, AGo_ok, St.app, putO, eput_c, eput_n, hups, hput_c, hput_n, List.map, ARun_nil, dropE_c, inL_n, dropE_n, Option.map, run1, eget_c, ↓hget_h, List.getElem?_cons_zero, Nat.reduceLeDiff, List.drop, List.take, dB, beq_self_eq_true, cond_true, List.append_nil, Bool.not_false, inL_c, Bool.not_true]) | subst hK))
    all_goals (refine end_q [] [(96, 96), (152, 152)] ?_ ?_ <;> repeat' (first | exact trivial | exact vr_val _ | exact vr_list _ | exact vr_ptr _ _ _ rfl | refine And.intro ⟨_, rfl, _, rfl, by decide, ?_⟩ ?_ | apply And.intro))
    all_goals exact tpC_in _ _ _
set_option maxRecDepth 100000 in
set_option maxHeartbeats 4000000 in
theorem aidx_ac (l : Lay) (frs : List (List Int)) (x : List Evt) (hx : x.length ≤ 1000) (hl : ∀ k, (evAt x k).1.length ≤ 1000000) (hn : l.fl.length ≤ 1000) : AC Try.prog 141 [.list (evls x), .fn 106 [] [.ptr 152 0]] [(96, tpC l frs), (152, [.ptr 96 0])] [(96, some (tpC l frs)), (152, some [.ptr 96 0])] (dI (match x.findIdx? (fun e => !eB l e) with
    | some k => (k : Int)
    | none => -1)) := by
  refine kslices_IndexFunc_L_L_Japi_Event_Kapi_Event_J.ac (n0 := 200) (by simp) ⟨.list _, .fn _ _ _ (by simp) (by intro d hd; simp at hd; subst hd; exact .ptr _ _ (by omega)), trivial⟩ ⟨⟨by omega, tpC_in _ _ _⟩, ⟨by omega, by intro d hd; simp at hd; subst hd; exact .ptr _ _ (by omega)⟩, trivial⟩ rfl ?_
  unfold cslices_IndexFunc_L_L_Japi_Event_Kapi_Event_J
  (repeat' (first | (with_reducible first | refine thenQ_n ?_ | refine blockQ_n ?_ | refine thenQ_e ?_ | refine blockQ_t ?_ | refine blockQ_f (by decide) ?_) | apply aw_seq | apply aw_skip | apply aw_exit | apply aw_ret | apply aw_block | apply aw_condT rfl | apply aw_condF rfl | ((first | refine aw_hide fun K hK => aw_region ?_ | refine ago_if (by omega) ?_ | skip); simp (disch := first | exact okY | omega) only [List.length, Nat.zero_add, Nat.reduceMul, Nat.reduceAdd, envOf, ARun_none, AOpRun, aexec, FSt.ev, AGo_ok, St.app, putO, eput_c, Nat.reduceBEq, eput_n, cond_false, hups, List.map, ARun_nil, dropE_c, inL_n, dropE_n, St.F, ↓eget_h, eget_c, evls_len, inL_c, beq_self_eq_true, cond_true, Int.reduceNeg, dI]) | subst hK))
  refine aw_loop (fun k : Nat => ⟨[(0, .list (evls x)), (1, .fn 106 [] [.ptr 152 0]), (7, dI x.length), (8, dI k)], [(96, tpC l frs), (152, [.ptr 96 0])], 400⟩) (fun k => k ≤ x.length ∧ ∀ j, j < k → eB l (evAt x j) = true) (fun k => x.length - k) ⟨0, ⟨by omega, fun j hj => by omega⟩, ?_⟩ ?_
  · unfold dI
    refine wk_q [] [(96, 96), (152, 152)] ?_ ?_ <;> repeat' (first | exact trivial | exact vr_val _ | exact vr_list _ | exact vr_ptr _ _ _ rfl | apply vr_fn | refine And.intro ⟨_, rfl, .inl ⟨_, rfl, by decide, ?_⟩⟩ ?_ | apply And.intro)
    all_goals exact tpC_in _ _ _
  rintro k ⟨hk, hin⟩
  by_cases hk2 : k < x.length
  · have g1 := evls_gd x k hk2
    have hb := abad_ac l frs (evAt x k) (hl k) hn
    have ki : (k : Int) < (x.length : Int) := by omega
    have la := evls_all x
    have ll := evls_len x
    unfold evD at hb
    cases he : eB l (evAt x k) with
    | false =>
      have q : x.findIdx? (fun e => !eB l e) = some k := by
        rw [List.findIdx?_eq_some_iff_getElem]
        refine ⟨hk2, by have := he; simp [evAt, hk2] at this; simp [this], fun j hj => ?_⟩
        have := hin j hj
        simpa [evAt, show j < x.length by omega] using this
      rw [q]
      rw [he] at hb
      generalize evls x = XX at *
      generalize evAt x k = ee at *
      (repeat' (first | (with_reducible first | refine thenQ_n ?_ | refine blockQ_n ?_ | refine thenQ_e ?_ | refine blockQ_t ?_ | refine blockQ_f (by decide) ?_) | apply aw_seq | apply aw_skip | apply aw_exit | apply aw_ret | apply aw_block | apply aw_condT rfl | apply aw_condF rfl | ((first | refine aw_hide fun K hK => aw_region ?_ | refine acallB (hb) (by repeat' (first | exact trivial | exact rfl | refine And.intro ?_ ?_)) (by kernel_rfl) (by kernel_rfl) (by kernel_rfl) ?_ | refine ago_if (by omega) ?_ | skip); simp (disch := first | exact okY | omega) only [List.length, Nat.zero_add, Nat.reduceMul, Nat.reduceAdd, dI, ARun_none, AOpRun, aexec, FSt.ev, St.F, eget_c, Nat.reduceBEq, ↓eget_h, cond_false, isSh, Bool.false_eq_true, ↓reduceIte, Option.map, abin, ki, decide_true, AGo_ok, St.app, putO, eput_c, eput_n, hups, List.map, ARun_nil, dropE_c, inL_n, dropE_n, inL_c, beq_self_eq_true, cond_true, Int.natCast_nonneg, la, and_self, opt1, Int.toNat_natCast, g1, Nat.reduceLeDiff, List.take, dB, Bool.not_false, hput_c, hput_n, List.append_nil, blockQ, thenQ]) | subst hK))
      all_goals (refine end_q [] [(96, 96), (152, 152)] ?_ ?_ <;> repeat' (first | exact trivial | exact vr_val _ | exact vr_list _ | exact vr_ptr _ _ _ rfl | refine And.intro ⟨_, rfl, _, rfl, by decide, ?_⟩ ?_ | apply And.intro))
      all_goals exact tpC_in _ _ _
    | true =>
      rw [he] at hb
      have nx : ∃ k', (k' ≤ x.length ∧ ∀ j, j < k' → eB l (evAt x j) = true) ∧ x.length - k' < x.length - k ∧ k' = k + 1 := ⟨k + 1, ⟨by omega, fun j hj => by
        rcases (by omega : j < k ∨ j = k) with h | rfl
        · exact hin j h
        · exact he⟩, by omega, rfl⟩
      obtain ⟨k', n1, n2, rfl⟩ := nx
      clear hin hl
      generalize hX : evls x = XX at *
      generalize evAt x k = ee at *
      (repeat' (first | (with_reducible first | refine thenQ_n ?_ | refine blockQ_n ?_ | refine thenQ_e ?_ | refine blockQ_t ?_ | refine blockQ_f (by decide) ?_) | apply aw_seq | apply aw_skip | apply aw_exit | apply aw_ret | apply aw_block | apply aw_condT rfl | apply aw_condF rfl | ((first | refine aw_hide fun K hK => aw_region ?_ | refine acallB (hb) (by repeat' (first | exact trivial | exact rfl | refine And.intro ?_ ?_)) (by kernel_rfl) (by kernel_rfl) (by kernel_rfl) ?_ | refine ago_if (by omega) ?_ | skip); simp (disch := first | exact okY | omega) only [List.length, Nat.zero_add, Nat.reduceMul, Nat.reduceAdd, dI, ARun_none, AOpRun, aexec, FSt.ev, St.F, eget_c, Nat.reduceBEq, ↓eget_h, cond_false, isSh, Bool.false_eq_true, ↓reduceIte, Option.map, abin, ki, decide_true, AGo_ok, St.app, putO, eput_c, eput_n, hups, List.map, ARun_nil, dropE_c, inL_n, dropE_n, inL_c, beq_self_eq_true, cond_true, Int.natCast_nonneg, la, and_self, opt1, Int.toNat_natCast, g1, Nat.reduceLeDiff, List.take, dB, Bool.not_true, hput_c, hput_n, List.append_nil, fits]) | subst hK))
      refine ⟨k + 1, n1, n2, ?_⟩
      subst hX
      refine wk_q [] [(96, 96), (152, 152)] ?_ ?_ <;> repeat' (first | exact trivial | exact vr_val _ | exact vr_list _ | exact vr_ptr _ _ _ rfl | apply vr_fn | refine And.intro ⟨_, rfl, .inl ⟨_, rfl, by decide, ?_⟩⟩ ?_ | apply And.intro)
      all_goals exact tpC_in _ _ _
  · obtain rfl : k = x.length := by omega
    have q : x.findIdx? (fun e => !eB l e) = none := by
      rw [List.findIdx?_eq_none_iff]
      intro y hy
      obtain ⟨j, hj, rfl⟩ := List.getElem_of_mem hy
      have := hin j hj
      simp [evAt, hj] at this
      simp [this]
    rw [q]
    (have hg : (987654321 : Nat) - 987654321 = 0 := rfl; have hr := hg; repeat' (first | (with_reducible first | refine thenQ_n ?_ | refine blockQ_n ?_ | refine thenQ_e ?_ | refine blockQ_t ?_ | refine blockQ_f (by decide) ?_) | apply aw_seq | apply aw_skip | apply aw_exit | apply aw_ret | apply aw_block | apply aw_condT rfl | apply aw_condF rfl | (refine aw_cond rfl (fun hg => ?_) (fun hg => ?_) <;> (try (have hq := hg; simp only [Bool.not_eq_true', Bool.not_eq_false', Bool.and_eq_true, Bool.and_eq_false_iff, Bool.or_eq_true, Bool.or_eq_false_iff, decide_eq_true_eq, decide_eq_false_iff_not, bne_iff_ne, beq_iff_eq, beq_eq_false_iff_ne, bne_eq_false_iff_eq, ne_eq, Int.not_lt, Int.not_le, Decidable.not_not] at hq)) <;> (try (have hr := hg; simp only [decide_eq_true_eq, decide_eq_false_iff_not] at hr)) <;> (try (exfalso; omega))) | ((first | refine aw_hide fun K hK => aw_region ?_ | refine ago_if (by omega) ?_ | skip); simp (disch := first | exact okY | omega) only [List.length, Nat.zero_add, Nat.reduceMul, Nat.reduceAdd, dI, ARun_none, AOpRun, aexec, FSt.ev, St.F, eget_c, Nat.reduceBEq, ↓eget_h, cond_false, isSh, Bool.false_eq_true, ↓reduceIte, Option.map, abin, AGo_ok, St.app, putO, eput_c, eput_n, hups, List.map, ARun_nil, dropE_c, inL_n, dropE_n, Int.reduceNeg, hr, decide_false]) | subst hK))
    all_goals (refine end_q [] [(96, 96), (152, 152)] ?_ ?_ <;> repeat' (first | exact trivial | exact vr_val _ | exact vr_list _ | exact vr_ptr _ _ _ rfl | refine And.intro ⟨_, rfl, _, rfl, by decide, ?_⟩ ?_ | apply And.intro))
    all_goals exact tpC_in _ _ _
set_option maxRecDepth 100000 in
set_option maxHeartbeats 2000000 in
theorem acont_ac (l : Lay) (frs : List (List Int)) (x : List Evt) (hx : x.length ≤ 1000) (hl : ∀ k, (evAt x k).1.length ≤ 1000000) (hn : l.fl.length ≤ 1000) : AC Try.prog 105 [.list (evls x), .fn 106 [] [.ptr 152 0]] [(96, tpC l frs), (152, [.ptr 96 0])] [(96, some (tpC l frs)), (152, some [.ptr 96 0])] (dB (!x.all (eB l))) := by
  refine kslices_ContainsFunc_L_L_Japi_Event_Kapi_Event_J.ac (n0 := 200) (by simp) ⟨.list _, .fn _ _ _ (by simp) (by intro d hd; simp at hd; subst hd; exact .ptr _ _ (by omega)), trivial⟩ ⟨⟨by omega, tpC_in _ _ _⟩, ⟨by omega, by intro d hd; simp at hd; subst hd; exact .ptr _ _ (by omega)⟩, trivial⟩ rfl ?_
  unfold cslices_ContainsFunc_L_L_Japi_Event_Kapi_Event_J
  have hf := aidx_ac l frs x hx hl hn
  cases h : x.findIdx? (fun e => !eB l e) with
  | none =>
    have ha : x.all (eB l) = true := by
      rw [List.findIdx?_eq_none_iff] at h
      exact List.all_eq_true.2 fun y hy => by simpa using h y hy
    rw [h] at hf
    rw [ha]
    (repeat' (first | (with_reducible first | refine thenQ_n ?_ | refine blockQ_n ?_ | refine thenQ_e ?_ | refine blockQ_t ?_ | refine blockQ_f (by decide) ?_) | apply aw_seq | apply aw_skip | apply aw_exit | apply aw_ret | apply aw_block | apply aw_condT rfl | apply aw_condF rfl | ((first | refine aw_hide fun K hK => aw_region ?_ | refine acallB (hf) (by repeat' (first | exact trivial | exact rfl | refine And.intro ?_ ?_)) (by kernel_rfl) (by kernel_rfl) (by kernel_rfl) ?_ | refine ago_if (by omega) ?_ | skip); simp (disch := first | exact okY | omega) only [List.length, Nat.zero_add, Nat.reduceMul, Nat.reduceAdd, envOf, ARun_none, AOpRun, aexec, FSt.ev, AGo_ok, St.app, putO, eput_c, Nat.reduceBEq, eput_n, cond_false, hups, List.map, ARun_nil, dropE_c, inL_n, dropE_n, St.F, ↓eget_h, eget_c, dI, Int.reduceNeg, hput_c, beq_self_eq_true, hput_n, cond_true, List.append_nil, isSh, Bool.false_eq_true, ↓reduceIte, Option.map, abin, inL_c, dB, Bool.not_true]) | subst hK))
    all_goals (refine end_q [] [(96, 96), (152, 152)] ?_ ?_ <;> repeat' (first | exact trivial | exact vr_val _ | exact vr_list _ | exact vr_ptr _ _ _ rfl | refine And.intro ⟨_, rfl, _, rfl, by decide, ?_⟩ ?_ | apply And.intro))
    all_goals exact tpC_in _ _ _
  | some k =>
    have ha : x.all (eB l) = false := by
      rw [List.findIdx?_eq_some_iff_getElem] at h
      obtain ⟨hk, he, _⟩ := h
      exact List.all_eq_false.2 ⟨x[k], List.getElem_mem hk, by simpa using he⟩
    rw [h] at hf
    rw [ha]
    have q : decide ((k : Int) ≥ 0) = true := decide_eq_true (by omega)
    (repeat' (first | (with_reducible first | refine thenQ_n ?_ | refine blockQ_n ?_ | refine thenQ_e ?_ | refine blockQ_t ?_ | refine blockQ_f (by decide) ?_) | apply aw_seq | apply aw_skip | apply aw_exit | apply aw_ret | apply aw_block | apply aw_condT rfl | apply aw_condF rfl | ((first | refine aw_hide fun K hK => aw_region ?_ | refine acallB (hf) (by repeat' (first | exact trivial | exact rfl | refine And.intro ?_ ?_)) (by kernel_rfl) (by kernel_rfl) (by kernel_rfl) ?_ | refine ago_if (by omega) ?_ | skip); simp (disch := first | exact okY | omega) only [List.length, Nat.zero_add, Nat.reduceMul, Nat.reduceAdd, envOf, ARun_none, AOpRun, aexec, FSt.ev, AGo_ok, St.app, putO, eput_c, Nat.reduceBEq, eput_n, cond_false, hups, List.map, ARun_nil, dropE_c, inL_n, dropE_n, St.F, ↓eget_h, eget_c, dI, hput_c, beq_self_eq_true, hput_n, cond_true, List.append_nil, isSh, Bool.false_eq_true, ↓reduceIte, Option.map, abin, Int.natCast_nonneg, decide_true, inL_c, dB, Bool.not_false]) | subst hK))
    all_goals (refine end_q [] [(96, 96), (152, 152)] ?_ ?_ <;> repeat' (first | exact trivial | exact vr_val _ | exact vr_list _ | exact vr_ptr _ _ _ rfl | refine And.intro ⟨_, rfl, _, rfl, by decide, ?_⟩ ?_ | apply And.intro))
    all_goals exact tpC_in _ _ _
end Go.Proofs.Ytdcodicoclecnaa
/- record: in which frames a condition holds (a reference to a yield, .yref, lies in memory; views last). No conditions. -/
namespace Go.Proofs.Ytdcodicoclecnaa
open Go Go.RowKit Lift

set_option maxRecDepth 100000 in
set_option maxHeartbeats 2000000 in
theorem samples2_ac (l : Lay) (frs : List (List Int)) (k : Nat) (hk : k < l.fl.length) (hn : l.fl.length ≤ 1000) : AC Try.prog 67 [.ptr 96 0, dI k] [(96, tpC l frs)] [(96, some (tpC l frs)), (128, some [.ptr 96 0]), (129, some (flC (fAt l k)))] (.fn 113 [] [.ptr 128 0, .ptr 129 0]) := by
  refine kprecord_tape_samples.ac (n0 := 200) (by simp) ⟨.ptr _ _ (by omega), .val _, trivial⟩ ⟨⟨by omega, tpC_in _ _ _⟩, trivial⟩ rfl ?_
  unfold cprecord_tape_samples
  unfold tpC
  have g1 : (fls l.fl)[k]? = some (flC (fAt l k)) := fls_gd l.fl k hk
  unfold flC at g1 ⊢
  have ki : (k : Int) < (l.fl.length : Int) := by omega
  have fa := fls_all l.fl
  have fl := fls_len l.fl
  (repeat' (first | (with_reducible first | refine thenQ_n ?_ | refine blockQ_n ?_ | refine thenQ_e ?_ | refine blockQ_t ?_ | refine blockQ_f (by decide) ?_) | apply aw_seq | apply aw_skip | apply aw_exit | apply aw_ret | apply aw_block | apply aw_condT rfl | apply aw_condF rfl | ((first | refine aw_hide fun K hK => aw_region ?_ | refine ago_if (by omega) ?_ | skip); simp (disch := first | exact okY | omega) only [List.length, Nat.zero_add, Nat.reduceAdd, Nat.reduceMul, envOf, dI, ARun_none, AOpRun, aexec, D.isBot, FSt.ev, St.F, ↓eget_h, Bool.false_eq_true, Option.isSome, hget_c, Nat.reduceBEq, hget_n, cond_false, or_self, ↓reduceIte, D.cells, AGo_ok, St.app, putO, eput_c, eput_n, hups, hput_c, hput_n, List.map, ARun_nil, dropE_c, inL_n, dropE_n, Option.map, run1, eget_c, ↓hget_h, List.getElem?_cons_zero, beq_self_eq_true, cond_true, List.getElem?_cons_succ, Int.natCast_nonneg, fa, and_self, opt1, Int.toNat_natCast, g1, dB, Nat.reduceLeDiff, List.take, fillD, ne_eq, not_true_eq_false, Nat.reduceGT, splice, List.nil_append, List.drop, List.append_nil, List.all, D.leaf, Bool.and_true, inL_c]) | subst hK))
  refine end_q [] [(96, 96), (128, 200), (129, 288)] ?_ ?_ <;> repeat' (first | exact trivial | exact vr_val _ | exact vr_list _ | exact vr_ptr _ _ _ rfl | apply vr_fn | refine And.intro ⟨_, rfl, _, rfl, by decide, ?_⟩ ?_ | apply And.intro)
  all_goals first | exact tpC_in _ _ _ | exact flC_in _ _
def hM (h : Nat → Bool) (n i j : Nat) (is : Bool) : List Bool := (List.range n).map fun m => if i ≤ m ∧ m < j then is else h m
theorem hM_len (h : Nat → Bool) (n i j : Nat) (is : Bool) : (hM h n i j is).length = n := by simp [hM]
theorem hM_zero (h : Nat → Bool) (n i : Nat) (is : Bool) : hM h n i i is = (List.range n).map h := by
  unfold hM
  refine List.map_congr_left fun m _ => if_neg (by omega)
theorem hM_succ (h : Nat → Bool) (n i j : Nat) (is : Bool) (hij : i ≤ j) (hj : j < n) : hM h n i (j + 1) is = (hM h n i j is).set j is := by
  unfold hM
  refine List.ext_getElem (by simp) fun m h1 h2 => ?_
  rw [List.getElem_set]
  simp only [List.getElem_map, List.getElem_range]
  by_cases e : j = m
  · subst e; rw [if_pos ⟨hij, by omega⟩, if_pos rfl]
  · rw [if_neg e]
    by_cases h3 : i ≤ m ∧ m < j
    · rw [if_pos ⟨h3.1, by omega⟩, if_pos h3]
    · rw [if_neg (by omega), if_neg h3]
theorem hL_some {l : Lay} {frs : List (List Int)} {c : Cd} {f : Fl} {n i m : Nat} {v : Int} (hs : smp l f (frm frs i) = some v) (hm : m ≤ n) (hm2 : ∀ j, j < n → ((j < m) ↔ (j : Int) < i + f.every)) : hM (hAt l frs c f i) n i m (cndV c f v) = hL l frs c f n (i + 1) := by
  unfold hM hL
  refine List.map_congr_left fun j hj => ?_
  have hj' := List.mem_range.1 hj
  simp only [hAt, hs]
  have := hm2 j hj'
  by_cases h : i ≤ j ∧ j < m
  · rw [if_pos h, if_pos ⟨h.1, this.1 h.2⟩]
  · rw [if_neg h, if_neg fun k => h ⟨k.1, this.2 k.2⟩]
theorem hL_none {l : Lay} {frs : List (List Int)} {c : Cd} {f : Fl} {n i : Nat} (hs : smp l f (frm frs i) = none) : hL l frs c f n (i + 1) = hL l frs c f n i := by
  unfold hL
  refine List.map_congr_left fun j _ => ?_
  simp only [hAt, hs]
theorem hL_zero (l : Lay) (frs : List (List Int)) (c : Cd) (f : Fl) (n : Nat) : hL l frs c f n 0 = List.replicate n false := by
  unfold hL
  refine List.ext_getElem (by simp) fun m h1 h2 => ?_
  simp [hAt]
theorem bV_low (n g v : Nat) (L : List Bool) (m : Nat) (hg : g < n) (hv : v < n) {h : Hp} (h1 : LowH n h) : LowH n ((g, [.vec v m 1]) :: (v, bcl L) :: h) :=
  .cons hg (by intro d hd; simp at hd; subst hd; exact .vec _ _ _ hv) rfl (.cons hv (fun d hd => (bcl_in L d hd).mono fun _ h => h.elim) (bc_noY _ _) h1)
set_option maxRecDepth 100000 in
set_option maxHeartbeats 16000000 in
theorem holdsT_ac (l : Lay) (frs : List (List Int)) (c : Cd) (h1 : LayOk l) (h2 : frs.length ≤ 200) (hf : FrIn frs) (hc : cdB l c = true) : AC Try.prog 126 [.ptr 96 0, .agg (cdC c)] [(96, tpC l frs)] [(96, some (tpC l frs))] (.list (bools (hL l frs c (fOf l c) frs.length frs.length))) := by
  refine kprecord_tape_holds.ac (n0 := 200) (by simp) ⟨.ptr _ _ (by omega), in_cd _ _, trivial⟩ ⟨⟨by omega, tpC_in _ _ _⟩, trivial⟩ rfl ?_
  unfold cprecord_tape_holds
  unfold cdB at hc
  rw [Bool.and_eq_true] at hc
  have c1 := wI_t hc.1
  have c2 := wI_t hc.2
  have nf := h1.nf
  obtain ⟨k, hk⟩ : ∃ k : Nat, c.field = k := ⟨c.field.toNat, by omega⟩
  have hkn : k < l.fl.length := by omega
  have hfo : fOf l c = fAt l k := by unfold fOf fAt; rw [hk, Int.toNat_natCast]
  rw [hfo]
  have g1 : (fls l.fl)[k]? = some (flC (fAt l k)) := fls_gd l.fl k hkn
  have ki : (k : Int) < (l.fl.length : Int) := by omega
  have fa := fls_all l.fl
  have fl := fls_len l.fl
  have sa := samples2_ac l frs k hkn (by omega)
  have hF := fAt_ok h1 hkn
  generalize fAt l k = f at *
  have hrep := rep_bc frs.length
  rw [← hL_zero l frs c f] at hrep
  have m1 : (0 : Int) ≤ (frs.length : Int) := by omega
  have m2 : (frs.length : Int) * 1 ≤ 2 ^ 48 := by omega
  have m3 : (frs.length : Int) < 2 ^ 62 := by omega
  refine aw_seq (aw_region ?_)
  unfold cdC
  rw [hk]
  simp (disch := first | exact okY | omega) only [thenQ, List.map, List.length, Nat.zero_add, Nat.reduceAdd, Nat.reduceMul, envOf, dI, dB, ARun_none, AOpRun, aexec, D.isBot, FSt.ev, St.F, eget_c, Nat.reduceBEq, ↓eget_h, cond_false, Bool.false_eq_true, Option.isSome, hget_c, hget_n, or_self, ↓reduceIte, D.cells, AGo_ok, St.app, putO, eput_c, eput_n, hups, hput_c, hput_n, ARun_nil, dropE_c, inL_n, dropE_n]
  unfold tpC flC at *
  refine aw_seq (aw_region ?_)
  simp (disch := first | exact okY | omega) only [thenQ, dI, List.length, Nat.zero_add, Nat.reduceAdd, Nat.reduceMul, ARun_none, AOpRun, aexec, FSt.ev, St.F, ↓eget_h, AGo_ok, St.app, putO, eput_c, Nat.reduceBEq, eput_n, cond_false, hups, List.map, eget_c, Option.map, run1, hget_c, beq_self_eq_true, hget_n, cond_true, List.getElem?_cons_succ, List.getElem?_cons_zero, ↓hget_h, Int.natCast_nonneg, fa, and_self, ↓reduceIte, opt1, Int.toNat_natCast, g1, dB, Nat.reduceLeDiff, List.take, Option.isSome, Bool.false_eq_true, hput_c, hput_n, D.isBot, D.cells, List.all, D.leaf, Bool.and_true, splice, List.nil_append, List.drop, List.append_nil, ARun_nil, dropE_c, inL_c, inL_n, dropE_n]
  refine aw_seq (aw_region ?_)
  simp (disch := first | exact okY | omega) only [thenQ, List.length, Nat.zero_add, Nat.reduceAdd, Nat.reduceMul, ARun_none, AOpRun, aexec, FSt.ev, St.F, ↓eget_h, AGo_ok, St.app, putO, eput_c, Nat.reduceBEq, eput_n, cond_false, hups, List.map, eget_c, Option.map, run1, hget_c, beq_self_eq_true, hget_n, cond_true, List.getElem?_cons_succ, List.getElem?_cons_zero, rows_len, m1, cast_lit, m2, m3, Option.isSome, and_self, ↓reduceIte, Int.toNat_natCast, hrep, hput_c, hput_n, Bool.false_eq_true, ↓hget_h, D.isBot, D.cells, Nat.reduceLeDiff, List.all, D.leaf, Bool.and_true, splice, List.take, List.nil_append, List.drop, List.append_nil, ARun_nil, dropE_c, inL_c, inL_n, dropE_n]
  refine aw_wk (s' := ⟨[(0, .ptr 96 0), (3, .ptr 8 0), (5, .ptr 16 0), (6, .ptr 24 0)], [(96, tpC l frs), (8, [dI k, dI c.lim, dB c.above]), (16, flC f), (24, [.vec 32 frs.length 1]), (32, bcl (hL l frs c f frs.length 0))], 104⟩) ?_ ?_
  · unfold tpC flC dI dB
    refine wk_q [] [(96, 96), (8, 200), (16, 288), (24, 352), (32, 344)] ?_ ?_ <;> repeat' (first | exact trivial | exact vr_val _ | exact vr_list _ | exact vr_vec _ _ _ _ rfl | exact vr_ptr _ _ _ rfl | refine And.intro ⟨_, rfl, .inl ⟨_, rfl, by decide, ?_⟩⟩ ?_ | apply And.intro)
    all_goals exact vrl_flat _ (bcl_in _)
  refine aw_seq (aw_seq (aw_region ?_))
  simp (disch := first | exact okY | omega) only [thenQ, List.length, Nat.zero_add, Nat.reduceAdd, Nat.reduceMul, dI, dB, ARun_none, AOpRun, aexec, FSt.ev, St.F, ↓eget_h, AGo_ok, St.app, putO, eput_c, Nat.reduceBEq, eput_n, cond_false, hups, List.map, eget_c, Option.map, run1, hget_c, ↓hget_h, List.getElem?_cons_zero]
  refine acallB sa (by repeat' (first | exact trivial | exact rfl | refine And.intro ?_ ?_)) (by kernel_rfl) (by kernel_rfl) (by kernel_rfl) ?_
  simp (disch := first | exact okY | omega) only [Nat.reduceAdd, St.app, putO, eput_c, Nat.reduceBEq, eput_n, cond_false, hups, dI, dB, hput_c, hput_n, beq_self_eq_true, cond_true, List.map, List.append_nil, ARun_nil, dropE_c, inL_c, inL_n, dropE_n]
  refine aw_wk (s' := ⟨[(3, .ptr 8 0), (5, .ptr 16 0), (6, .ptr 24 0), (29, .fn 113 [] [.ptr 120 0, .ptr 121 0])], [(96, tpC l frs), (120, [.ptr 96 0]), (121, flC f), (8, [dI k, dI c.lim, dB c.above]), (16, flC f), (24, [.vec 32 frs.length 1]), (32, bcl (hL l frs c f frs.length 0))], 800⟩) ?_ ?_
  · unfold tpC flC dI dB
    refine wk_q [] [(96, 96), (8, 8), (16, 16), (24, 24), (32, 32), (120, 128), (121, 129)] ?_ ?_ <;> repeat' (first | exact trivial | exact vr_val _ | exact vr_list _ | exact vr_vec _ _ _ _ rfl | exact vr_ptr _ _ _ rfl | apply vr_fn | refine And.intro ⟨_, rfl, .inl ⟨_, rfl, by decide, ?_⟩⟩ ?_ | apply And.intro)
    all_goals exact vrl_flat _ (bcl_in _)
  refine aw_block (aw_range [8, 16, 24, 96, 120, 121] [(6, .ptr 24 0)] [.bot, .bot, .bot, .ptr 8 0, .bot, .ptr 16 0, .ptr 24 0] kprecord_tape_samples_S1 rfl (by simp) ⟨.inl rfl, .inl rfl, .inl rfl, .inr rfl, .inl rfl, .inr rfl, .inr rfl, trivial⟩ rfl rfl (by simp) ⟨.inr ⟨rfl, .ptr _ _ (by simp)⟩, trivial⟩ (fun r hr => ?_))
  refine samples_hit hr rfl l frs h2 h1 f hF hf [8, 16, 24, 96, 120, 121] (by decide) [.bot, .bot, .bot, .ptr 8 0, .bot, .ptr 16 0, .ptr 24 0] rfl (by intro d hd; simp at hd; rcases hd with rfl | rfl | rfl | rfl | rfl <;> first | exact .bot | exact .ptr _ _ (by simp)) (by simp) (by simp) (by simp) (fun i => [(8, [dI k, dI c.lim, dB c.above]), (16, flC f), (24, [.vec 32 frs.length 1]), (32, bcl (hL l frs c f frs.length i))])
    (fun i => .cons (by decide) (by intro d hd; simp at hd; rcases hd with rfl | rfl | rfl <;> exact .val _) rfl (.cons (by decide) (flC_in _ _) rfl (bV_low 800 24 32 _ _ (by decide) (by decide) .nil))) (fun i hi hs => ?_) (fun i v hi hs => ?_) ?_
  · simp only [hL_none hs]
  · have mb := mulB (a := c.lim) (b := f.den) (A := 1000000) (B := 1000) (by omega) (by omega) (by have := hF.d1; omega) hF.d2
    have e1 : IntKind.i64.wrap (c.lim * f.den) = c.lim * f.den := wrap_in (by omega) (by omega)
    have ev : f.every = 1 ∨ f.every = 2 ∨ f.every = 4 := hF.ev
    have e2 : IntKind.i64.wrap ((i : Int) + f.every) = (i : Int) + f.every := wrap_in (by omega) (by omega)
    obtain ⟨m, hm1, hm2, hm3⟩ : ∃ m : Nat, m ≤ frs.length ∧ mn2 ((i : Int) + f.every) (frs.length : Int) = (m : Int) ∧ ∀ j, j < frs.length → ((j < m) ↔ (j : Int) < i + f.every) := by
      by_cases hlt : (frs.length : Int) < (i : Int) + f.every
      · exact ⟨frs.length, Nat.le_refl _, by unfold mn2; rw [if_pos hlt], fun j hj => by omega⟩
      · exact ⟨((i : Int) + f.every).toNat, by omega, by unfold mn2; rw [if_neg hlt]; omega, fun j hj => by omega⟩
    have him : i ≤ m := by have := (hm3 i hi).2 (by omega); omega
    have hls := hL_some (c := c) (n := frs.length) hs hm1 hm3
    have hz : hM (hAt l frs c f i) frs.length i i (cndV c f v) = hL l frs c f frs.length i := hM_zero _ _ _ _
    rw [← hls, ← hz]
    unfold mn2 at hm2
    have hcd : cndV c f v = if c.above = true then decide (v ≥ c.lim * f.den) else decide (v ≤ c.lim * f.den) := rfl
    generalize cndV c f v = is at *
    unfold cprecord_tape_holds_B30 smH flC tpC
    refine aw_block ?_
    refine aw_cut ⟨[(3, .ptr 8 0), (5, .ptr 16 0), (6, .ptr 24 0), (7, dI i), (8, dI v), (9, dB (decide (v ≤ c.lim * f.den)))], [(96, tpC l frs), (120, [.ptr 96 0]), (121, flC f), (808, [.yref 800]), (8, [dI k, dI c.lim, dB c.above]), (16, flC f), (24, [.vec 32 frs.length 1]), (32, bcl (hM (hAt l frs c f i) frs.length i i is))], 1700⟩ ?_ ?_
    · refine aw_region ?_
      simp (disch := first | exact okY | omega) only [thenQ, List.length, Nat.zero_add, Nat.reduceAdd, Nat.reduceMul, dI, dB, bodyE, asgE, parE, envOf, eput_c, Nat.reduceBEq, eput_n, cond_false, eget_c, ↓eget_h, ARun_none, AOpRun, aexec, FSt.ev, St.F, AGo_ok, St.app, putO, hups, List.map, Option.map, run1, hget_c, ↓hget_h, List.getElem?_cons_succ, List.getElem?_cons_zero, isSh, Bool.false_eq_true, ↓reduceIte, abin, e1, ARun_nil, dropE_c, inL_c, inL_n, beq_self_eq_true, cond_true, dropE_n]
      unfold flC tpC
      refine wk_q [] [(8, 8), (16, 16), (24, 24), (32, 32), (96, 96), (120, 120), (121, 121), (800, 800), (808, 808), (1000, 1000)] ?_ ?_ <;> repeat' (first | exact trivial | exact vr_val _ | exact vr_list _ | exact vr_vec _ _ _ _ rfl | exact vr_ptr _ _ _ rfl | refine And.intro ⟨_, rfl, .inl ⟨_, rfl, by decide, ?_⟩⟩ ?_ | apply And.intro | exact vr_yrefs _ _ rfl)
      all_goals exact vrl_flat _ (bcl_in _)
    refine aw_cut ⟨[(5, .ptr 16 0), (6, .ptr 24 0), (7, dI i), (9, dB is)], [(96, tpC l frs), (120, [.ptr 96 0]), (121, flC f), (808, [.yref 800]), (8, [dI k, dI c.lim, dB c.above]), (16, flC f), (24, [.vec 32 frs.length 1]), (32, bcl (hM (hAt l frs c f i) frs.length i i is))], 1900⟩ ?_ ?_
    · unfold flC tpC
      cases ha : c.above with
      | true =>
        rw [ha, if_pos rfl] at hcd
        rw [hcd]
        refine aw_seq (aw_region ?_)
        simp (disch := first | exact okY | omega) only [thenQ, dI, dB, List.length, Nat.zero_add, Nat.reduceAdd, Nat.reduceMul, ARun_none, AOpRun, aexec, FSt.ev, St.F, ↓eget_h, AGo_ok, St.app, putO, eput_c, Nat.reduceBEq, eput_n, cond_false, hups, List.map, Option.map, run1, eget_c, hget_c, ↓hget_h, List.getElem?_cons_succ, List.getElem?_cons_zero, ARun_nil, dropE_c, inL_c, inL_n, beq_self_eq_true, cond_true, dropE_n]
        refine aw_condT rfl (aw_region ?_)
        simp (disch := first | exact okY | omega) only [thenQ, List.length, Nat.zero_add, Nat.reduceAdd, Nat.reduceMul, ARun_none, AOpRun, aexec, FSt.ev, St.F, eget_c, Nat.reduceBEq, ↓eget_h, cond_false, AGo_ok, St.app, putO, eput_c, eput_n, hups, List.map, Option.map, run1, hget_c, ↓hget_h, List.getElem?_cons_succ, List.getElem?_cons_zero, isSh, Bool.false_eq_true, ↓reduceIte, abin, e1, beq_self_eq_true, cond_true, ARun_nil, dropE_c, inL_c, inL_n, dropE_n]
        refine wk_q [] [(8, 8), (16, 16), (24, 24), (32, 32), (96, 96), (120, 120), (121, 121), (800, 800), (808, 808), (1000, 1000)] ?_ ?_ <;> repeat' (first | exact trivial | exact vr_val _ | exact vr_list _ | exact vr_vec _ _ _ _ rfl | exact vr_ptr _ _ _ rfl | refine And.intro ⟨_, rfl, .inl ⟨_, rfl, by decide, ?_⟩⟩ ?_ | apply And.intro | exact vr_yrefs _ _ rfl)
        all_goals exact vrl_flat _ (bcl_in _)
      | false =>
        rw [ha, if_neg (by simp)] at hcd
        rw [hcd]
        refine aw_seq (aw_region ?_)
        simp (disch := first | exact okY | omega) only [thenQ, dI, dB, List.length, Nat.zero_add, Nat.reduceAdd, Nat.reduceMul, ARun_none, AOpRun, aexec, FSt.ev, St.F, ↓eget_h, AGo_ok, St.app, putO, eput_c, Nat.reduceBEq, eput_n, cond_false, hups, List.map, Option.map, run1, eget_c, hget_c, ↓hget_h, List.getElem?_cons_succ, List.getElem?_cons_zero, ARun_nil, dropE_c, inL_c, inL_n, beq_self_eq_true, cond_true, dropE_n]
        refine aw_condF rfl (aw_skip ?_)
        refine wk_q [] [(8, 8), (16, 16), (24, 24), (32, 32), (96, 96), (120, 120), (121, 121), (800, 800), (808, 808), (1000, 1000)] ?_ ?_ <;> repeat' (first | exact trivial | exact vr_val _ | exact vr_list _ | exact vr_vec _ _ _ _ rfl | exact vr_ptr _ _ _ rfl | refine And.intro ⟨_, rfl, .inl ⟨_, rfl, by decide, ?_⟩⟩ ?_ | apply And.intro | exact vr_yrefs _ _ rfl)
        all_goals exact vrl_flat _ (bcl_in _)
    clear hcd
    unfold flC tpC
    refine aw_seq (aw_region ?_)
    simp (disch := first | exact okY | omega) only [thenQ, dI, dB, List.length, Nat.zero_add, Nat.reduceAdd, Nat.reduceMul, ARun_none, AOpRun, aexec, FSt.ev, St.F, eget_c, Nat.reduceBEq, ↓eget_h, cond_false, AGo_ok, St.app, putO, eput_c, eput_n, hups, List.map, ARun_nil, dropE_c, inL_c, inL_n, beq_self_eq_true, cond_true, dropE_n]
    refine aw_block (aw_loop (fun j : Nat => ⟨[(5, .ptr 16 0), (6, .ptr 24 0), (7, dI i), (9, dB is), (10, dI j)], [(96, tpC l frs), (120, [.ptr 96 0]), (121, flC f), (808, [.yref 800]), (8, [dI k, dI c.lim, dB c.above]), (16, flC f), (24, [.vec 32 frs.length 1]), (32, bcl (hM (hAt l frs c f i) frs.length i j is))], 2000⟩) (fun j => i ≤ j ∧ j ≤ m) (fun j => m - j) ⟨i, ⟨by omega, him⟩, ?_⟩ ?_)
    · unfold flC tpC dI dB
      refine wk_q [] [(8, 8), (16, 16), (24, 24), (32, 32), (96, 96), (120, 120), (121, 121), (800, 800), (808, 808), (1000, 1000)] ?_ ?_ <;> repeat' (first | exact trivial | exact vr_val _ | exact vr_list _ | exact vr_vec _ _ _ _ rfl | exact vr_ptr _ _ _ rfl | refine And.intro ⟨_, rfl, .inl ⟨_, rfl, by decide, ?_⟩⟩ ?_ | apply And.intro | exact vr_yrefs _ _ rfl)
      all_goals exact vrl_flat _ (bcl_in _)
    rintro j ⟨hj1, hj2⟩
    unfold flC tpC
    by_cases hjm : j < m
    case neg =>
      obtain rfl : j = m := by omega
      have q : decide ((j : Int) < (j : Int)) = false := decide_eq_false (by omega)
      refine aw_seq (aw_seq (aw_region ?_))
      simp (disch := first | exact okY | omega) only [thenQ, dI, dB, List.length, Nat.zero_add, Nat.reduceAdd, Nat.reduceMul, ARun_none, AOpRun, aexec, FSt.ev, St.F, eget_c, Nat.reduceBEq, ↓eget_h, cond_false, AGo_ok, St.app, putO, eput_c, eput_n, hups, List.map, Option.map, run1, hget_c, ↓hget_h, List.getElem?_cons_succ, List.getElem?_cons_zero, isSh, Bool.false_eq_true, ↓reduceIte, abin, e2, foldI, mn2, hm2, q, ARun_nil, dropE_c, inL_c, inL_n, beq_self_eq_true, cond_true, dropE_n]
      refine aw_condF rfl (aw_exit ?_)
      simp only [thenQ, blockQ, if_true, if_false, Nat.reduceEqDiff, reduceCtorEq]
      first | refine ⟨rfl, ?_⟩ | refine ⟨trivial, ?_⟩ | skip
      refine wk_q [] [(8, 8), (16, 16), (24, 24), (32, 32), (96, 96), (120, 120), (121, 121), (800, 800), (808, 808), (1000, 1000)] ?_ ?_ <;> repeat' (first | exact trivial | exact vr_val _ | exact vr_list _ | exact vr_vec _ _ _ _ rfl | exact vr_ptr _ _ _ rfl | refine And.intro ⟨_, rfl, .inl ⟨_, rfl, by decide, ?_⟩⟩ ?_ | apply And.intro | exact vr_yrefs _ _ rfl)
      all_goals exact vrl_flat _ (bcl_in _)
    have q : decide ((j : Int) < (m : Int)) = true := decide_eq_true (by omega)
    have hl1 := hM_len (hAt l frs c f i) frs.length i j is
    have hsu := hM_succ (hAt l frs c f i) frs.length i j is hj1 (by omega)
    generalize hM (hAt l frs c f i) frs.length i j is = L at *
    have htk := bc_t L j is (by omega)
    rw [← hsu] at htk
    have hbl := bcl_len L
    rw [hl1] at hbl
    have j0 : (0 : Int) ≤ (j : Int) := by omega
    have j1 : (j : Int) < (frs.length : Int) := by omega
    have j2 : j + 1 ≤ frs.length := by omega
    refine aw_seq (aw_seq (aw_region ?_))
    simp (disch := first | exact okY | omega) only [thenQ, dI, dB, List.length, Nat.zero_add, Nat.reduceAdd, Nat.reduceMul, ARun_none, AOpRun, aexec, FSt.ev, St.F, eget_c, Nat.reduceBEq, ↓eget_h, cond_false, AGo_ok, St.app, putO, eput_c, eput_n, hups, List.map, Option.map, run1, hget_c, ↓hget_h, List.getElem?_cons_succ, List.getElem?_cons_zero, isSh, Bool.false_eq_true, ↓reduceIte, abin, e2, foldI, mn2, hm2, q, ARun_nil, dropE_c, inL_c, inL_n, beq_self_eq_true, cond_true, dropE_n]
    refine aw_condT rfl (aw_skip ?_)
    refine aw_seq (aw_block (aw_region ?_))
    simp (disch := first | exact okY | omega) only [blockQ, thenQ, List.length, Nat.zero_add, Nat.reduceAdd, Nat.reduceMul, ARun_none, AOpRun, aexec, Option.map, run1, FSt.ev, St.F, eget_c, Nat.reduceBEq, ↓eget_h, cond_false, hget_c, ↓hget_h, Nat.add_zero, List.getElem?_cons_zero, AGo_ok, St.app, putO, eput_c, eput_n, hups, List.map, j0, j1, and_self, ↓reduceIte, Int.toNat_natCast, Nat.mul_one, D.isBot, D.cells, hbl, j2, List.all, D.leaf, Bool.and_true, splice, htk, hput_c, beq_self_eq_true, hput_n, cond_true, ARun_nil, dropE_c, inL_c, inL_n, dropE_n]
    refine aw_region ?_
    simp (disch := first | exact okY | omega) only [thenQ, List.length, Nat.zero_add, Nat.reduceAdd, Nat.reduceMul, ARun_none, AOpRun, aexec, FSt.ev, St.F, eget_c, Nat.reduceBEq, ↓eget_h, cond_false, AGo_ok, St.app, putO, eput_c, eput_n, hups, List.map, isSh, Bool.false_eq_true, ↓reduceIte, Option.map, abin, fits, beq_self_eq_true, cond_true, ARun_nil, dropE_c, inL_c, inL_n, dropE_n]
    refine ⟨j + 1, ⟨by omega, by omega⟩, by omega, ?_⟩
    refine wk_q [] [(8, 8), (16, 16), (24, 24), (32, 32), (96, 96), (120, 120), (121, 121), (800, 800), (808, 808), (1000, 1000)] ?_ ?_ <;> repeat' (first | exact trivial | exact vr_val _ | exact vr_list _ | exact vr_vec _ _ _ _ rfl | exact vr_ptr _ _ _ rfl | refine And.intro ⟨_, rfl, .inl ⟨_, rfl, by decide, ?_⟩⟩ ?_ | apply And.intro | exact vr_yrefs _ _ rfl)
    all_goals exact vrl_flat _ (bcl_in _)
  · have hll := hL_len (l := l) (frs := frs) (c := c) (f := f) frs.length frs.length
    generalize hL l frs c f frs.length frs.length = L at *
    unfold smH
    simp only [blockQ, thenQ]
    (repeat' (first | (with_reducible first | refine thenQ_n ?_ | refine blockQ_n ?_ | refine thenQ_e ?_ | refine blockQ_t ?_ | refine blockQ_f (by decide) ?_) | apply aw_seq | apply aw_skip | apply aw_exit | apply aw_ret | apply aw_block | apply aw_condT rfl | apply aw_condF rfl | ((first | refine aw_hide fun K hK => aw_region ?_ | refine ago_if (by omega) ?_ | skip); simp (disch := first | exact okY | omega) only [List.length, Nat.zero_add, Nat.reduceAdd, Nat.reduceMul, dI, dB, ARun_none, AOpRun, aexec, Option.map, run1, FSt.ev, St.F, ↓eget_h, hget_c, Nat.reduceBEq, ↓hget_h, cond_false, List.getElem?_cons_zero, AGo_ok, St.app, putO, eput_c, eput_n, hups, List.map, eget_c, ARun_nil, dropE_c, inL_c, inL_n, beq_self_eq_true, cond_true, dropE_n]) | subst hK))
    refine end_q [32] [(96, 96)] ?_ ?_ <;> repeat' (first | exact trivial | exact vr_val _ | exact vr_list _ | refine vr_fl _ _ _ _ _ (by decide) rfl ?_ ?_ ?_ ?_ | refine And.intro ⟨_, rfl, _, rfl, by decide, ?_⟩ ?_ | apply And.intro)
    all_goals first | exact tpC_in _ _ _ | exact bools_one _ | exact (bools_len _).trans hll | exact bools_flat _ | exact bcl_in _
end Go.Proofs.Ytdcodicoclecnaa
/- What is found, by stretches. No conditions. -/
namespace Go.Proofs.Ytdcodicoclecnaa
open Go.RowKit Lift

section
variable (is : Nat → Bool) (H : Int) (n : Nat)
variable {is H n}
variable (is H n)
variable {is H n}
end
theorem isJ_end (l : Lay) (frs : List (List Int)) (cs : List Cd) : isJ l frs cs frs.length = false := by simp [isJ]
/-! ### slips -/
end Go.Proofs.Ytdcodicoclecnaa
/- The functions' bodies, translated. Written by a program; no conditions. -/
namespace Go.Proofs.Ytdcodicoclecnaa
open Go.RowKit Lift

def crecord_Peak_B26 : ACode :=
 (.block 1
 (.seq
 (.region false [⟨some 28, .load1 (.tmp 6), none, []⟩,
 ⟨some 29, .bin .lss (.tmp 28) (.const (.int .i64 0)), none, []⟩,
 ⟨some 30, .mv (.tmp 29), none, []⟩,
 ⟨some 31, .mv (.tmp 11), (some (some 30, false)), []⟩,
 ⟨some 32, .load1 (.tmp 7), (some (some 30, false)), []⟩,
 ⟨some 33, .bin .gtr (.tmp 31) (.tmp 32), (some (some 30, false)), []⟩,
 ⟨some 34, .pick (.tmp 30) (.const (.bool true)) (.tmp 33), none, []⟩] [28, 29, 30, 31, 32, 33])
 (.cond (.tmp 34)
 (.region false [⟨some 35, .mv (.tmp 10), none, []⟩,
 ⟨some 36, .mv (.tmp 11), none, []⟩,
 ⟨none, .store 1 (.tmp 6) (.tmp 35), none, []⟩,
 ⟨none, .store 1 (.tmp 7) (.tmp 36), none, []⟩] [35, 36])
 .skip)))
def crecord_Peak : ACode :=
 (.seq
 (.region false [⟨some 3, .box (.tmp 0), none, []⟩,
 ⟨some 6, .mem [(.val (.int .i64 0))], none, []⟩,
 ⟨some 7, .mem [(.val (.int .i64 0))], none, []⟩,
 ⟨some 8, .mv (.const (.int .i64 0)), none, []⟩] [])
 (.seq
 (.region false [⟨some 13, .loadN 6 (.tmp 3), none, []⟩,
 ⟨some 14, .mv (.tmp 1), none, []⟩,
 ⟨some 15, .mv (.tmp 2), none, []⟩,
 ⟨some 16, .buildSl 1 1 [(.val (.int .i64 0))] [(0, 1, (.tmp 15))], none, []⟩,
 ⟨some 17, .call (.func 66) [(.tmp 13), (.tmp 14), (.tmp 16)], none, []⟩,
 ⟨some 12, .mv (.tmp 17), none, []⟩,
 ⟨some 18, .ext (.tmp 12) 0, none, []⟩,
 ⟨some 19, .ext (.tmp 12) 1, none, []⟩,
 ⟨some 9, .mv (.tmp 18), none, []⟩,
 ⟨some 8, .mv (.tmp 19), none, []⟩] [13, 14, 15, 16, 17, 12, 18, 19])
 (.seq
 (.seq
 (.region false [⟨some 20, .mv (.tmp 8), none, []⟩,
 ⟨some 21, .bin .neq (.tmp 20) (.const (.int .i64 0)), none, []⟩] [20])
 (.cond (.tmp 21)
 (.seq
 (.region false [⟨some 22, .mv (.tmp 8), none, []⟩,
 ⟨none, .store 1 (.tmp 6) (.const (.int .i64 0)), none, []⟩,
 ⟨none, .store 1 (.tmp 7) (.const (.int .i64 0)), none, []⟩,
 ⟨some 8, .mv (.tmp 22), none, []⟩] [22])
 .ret)
 .skip))
 (.seq
 (.region false [⟨none, .store 1 (.tmp 6) (.const (.int .i64 (-1))), none, []⟩] [])
 (.seq
 (.seq
 (.region false [⟨some 23, .mv (.tmp 9), none, []⟩,
 ⟨some 24, .mv (.tmp 2), none, []⟩,
 ⟨some 25, .call (.func 67) [(.tmp 23), (.tmp 24)], none, []⟩] [23, 24])
 (.block 0
 (.rangeFunc (.tmp 25) [26, 27] [(10, 26), (11, 27)] crecord_Peak_B26)))
 (.seq
 (.seq
 (.region false [⟨some 37, .load1 (.tmp 6), none, []⟩,
 ⟨some 38, .bin .lss (.tmp 37) (.const (.int .i64 0)), none, []⟩] [37])
 (.cond (.tmp 38)
 (.seq
 (.region false [⟨none, .store 1 (.tmp 6) (.const (.int .i64 0)), none, []⟩,
 ⟨none, .store 1 (.tmp 7) (.const (.int .i64 0)), none, []⟩,
 ⟨some 8, .mv (.const (.int .i64 3)), none, []⟩] [])
 .ret)
 .skip))
 (.seq
 (.region true [⟨some 39, .load1 (.tmp 6), none, []⟩,
 ⟨some 40, .load1 (.tmp 7), none, []⟩,
 ⟨none, .store 1 (.tmp 6) (.tmp 39), none, [0]⟩,
 ⟨none, .store 1 (.tmp 7) (.tmp 40), none, [1, 2, 0]⟩,
 ⟨some 8, .mv (.const (.int .i64 0)), none, [3, 1, 2, 0]⟩] [39, 40])
 .ret)))))))
set_option maxRecDepth 100000 in
theorem krecord_Peak : IsCode Try.prog 20 41 crecord_Peak [.cell1 6, .cell1 7, .tmp 8] :=
 ⟨Try.f20, _, [38, 34, 26, 27, 25, 21, 0, 3, 1, 2, 8, 6, 7, 9, 11, 10], Try.func20, rfl, by decide, rfl, by kernel_rfl, by kernel_rfl⟩
def cref12_CopyLayout : ACode :=
 (.seq
 (.region false [⟨some 1, .box (.tmp 0), none, []⟩,
 ⟨some 2, .mem [(.val (.int .i64 0)), (.val (.int .i64 0)), (.val (.int .i64 0)), (.val (.int .i64 0)), (.val (.int .i64 0)), (.val (.slice none 0 0))], none, []⟩] [])
 (.seq
 (.region false [⟨some 4, .loadN 6 (.tmp 1), none, []⟩,
 ⟨some 3, .mem [(.val (.int .i64 0)), (.val (.int .i64 0)), (.val (.int .i64 0)), (.val (.int .i64 0)), (.val (.int .i64 0)), (.val (.slice none 0 0))], none, []⟩,
 ⟨none, .store 6 (.tmp 3) (.tmp 4), none, []⟩] [4])
 (.seq
 (.region false [⟨some 5, .buildSl 9 0 [] [], none, []⟩,
 ⟨some 6, .fad 5 (.tmp 1), none, []⟩,
 ⟨some 7, .load1 (.tmp 6), none, []⟩,
 ⟨some 8, .app 9 72 (.tmp 5) (.tmp 7), none, []⟩,
 ⟨some 9, .fad 5 (.tmp 3), none, []⟩,
 ⟨none, .store 1 (.tmp 9) (.tmp 8), none, []⟩] [5, 6, 7, 8, 9])
 (.seq
 (.region false [⟨some 10, .loadN 6 (.tmp 3), none, []⟩,
 ⟨none, .store 6 (.tmp 2) (.tmp 10), none, []⟩] [10])
 .ret))))
set_option maxRecDepth 100000 in
theorem kref12_CopyLayout : IsCode Try.prog 31 11 cref12_CopyLayout [.cellN 2 6] :=
 ⟨Try.f31, _, [0, 1, 3, 2], Try.func31, rfl, by decide, rfl, by kernel_rfl, by kernel_rfl⟩
def cref12_CopyFrames : ACode :=
 (.seq
 (.region false [⟨some 2, .mv (.const (.slice none 0 0)), none, []⟩] [])
 (.seq
 (.region false [⟨some 3, .mv (.const (.slice none 0 0)), none, []⟩] [])
 (.seq
 (.seq
 (.region false [⟨some 4, .mv (.const (.int .i64 0)), none, []⟩] [])
 (.block 0
 (.loop
 (.seq
 (.seq
 (.region false [⟨some 5, .mv (.tmp 4), none, []⟩,
 ⟨some 6, .mv (.tmp 0), none, []⟩,
 ⟨some 7, .len_ (.tmp 6), none, []⟩,
 ⟨some 8, .bin .lss (.tmp 5) (.tmp 7), none, []⟩] [5, 6, 7])
 (.cond (.tmp 8)
 .skip
 (.exit 0)))
 (.seq
 (.block 1
 (.region false [⟨some 11, .mv (.tmp 3), none, []⟩,
 ⟨some 12, .buildSl 1 0 [] [], none, []⟩,
 ⟨some 13, .mv (.tmp 0), none, []⟩,
 ⟨some 14, .mv (.tmp 4), none, []⟩,
 ⟨some 15, .iadS 1 (.tmp 13) (.tmp 14), none, []⟩,
 ⟨some 16, .load1 (.tmp 15), none, []⟩,
 ⟨some 17, .app 1 8 (.tmp 12) (.tmp 16), none, []⟩,
 ⟨some 18, .buildSl 1 1 [(.val (.slice none 0 0))] [(0, 1, (.tmp 17))], none, []⟩,
 ⟨some 19, .app 1 24 (.tmp 11) (.tmp 18), none, []⟩,
 ⟨some 3, .mv (.tmp 19), none, []⟩] [11, 12, 13, 14, 15, 16, 17, 18, 19]))
 (.region false [⟨some 9, .mv (.tmp 4), none, []⟩,
 ⟨some 10, .bin .add (.tmp 9) (.const (.int .i64 1)), none, []⟩,
 ⟨some 4, .mv (.tmp 10), none, []⟩] [9, 10]))))))
 (.seq
 (.region false [⟨some 20, .mv (.tmp 3), none, []⟩,
 ⟨some 2, .mv (.tmp 20), none, []⟩] [20])
 .ret))))
set_option maxRecDepth 100000 in
theorem kref12_CopyFrames : IsCode Try.prog 65 21 cref12_CopyFrames [.tmp 2] :=
 ⟨Try.f65, _, [8, 4, 0, 3, 2], Try.func65, rfl, by decide, rfl, by kernel_rfl, by kernel_rfl⟩
def claw12_own : ACode :=
 (.seq
 (.region false [⟨some 1, .box (.tmp 0), none, []⟩,
 ⟨some 2, .mem [(.val (.int .i64 0)), (.val (.int .i64 0)), (.val (.int .i64 0)), (.val (.int .i64 0)), (.val (.int .i64 0)), (.val (.slice none 0 0)), (.val (.slice none 0 0))], none, []⟩] [])
 (.seq
 (.region true [⟨some 3, .fad 0 (.tmp 1), none, []⟩,
 ⟨some 4, .loadN 6 (.tmp 3), none, [0]⟩,
 ⟨some 5, .call (.func 31) [(.tmp 4)], none, [1, 0]⟩,
 ⟨some 6, .fad 6 (.tmp 1), none, []⟩,
 ⟨some 7, .load1 (.tmp 6), none, [3]⟩,
 ⟨some 8, .call (.func 65) [(.tmp 7)], none, [4, 3, 2, 1, 0]⟩,
 ⟨some 9, .build [(.val (.int .i64 0)), (.val (.int .i64 0)), (.val (.int .i64 0)), (.val (.int .i64 0)), (.val (.int .i64 0)), (.val (.slice none 0 0)), (.val (.slice none 0 0))] [(0, 6, (.tmp 5)), (6, 1, (.tmp 8))], none, [2, 1, 0, 5, 4, 3]⟩,
 ⟨none, .store 7 (.tmp 2) (.tmp 9), none, [6, 2, 1, 0, 5, 4, 3]⟩] [3, 4, 5, 6, 7, 8, 9])
 .ret))
set_option maxRecDepth 100000 in
theorem klaw12_own : IsCode Try.prog 17 10 claw12_own [.cellN 2 7] :=
 ⟨Try.f17, _, [0, 1, 2], Try.func17, rfl, by decide, rfl, by kernel_rfl, by kernel_rfl⟩
def claw12_Far : ACode :=
 (.seq
 (.region false [⟨some 1, .box (.tmp 0), none, []⟩,
 ⟨some 2, .mv (.const (.bool false)), none, []⟩] [])
 (.seq
 (.seq
 (.region false [⟨some 4, .fad 0 (.tmp 1), none, []⟩,
 ⟨some 5, .fad 5 (.tmp 4), none, []⟩,
 ⟨some 6, .load1 (.tmp 5), none, []⟩,
 ⟨some 7, .len_ (.tmp 6), none, []⟩,
 ⟨some 8, .bin .gtr (.tmp 7) (.const (.int .i64 20)), none, []⟩,
 ⟨some 9, .mv (.tmp 8), none, []⟩,
 ⟨some 10, .fad 6 (.tmp 1), (some (some 9, false)), []⟩,
 ⟨some 11, .load1 (.tmp 10), (some (some 9, false)), []⟩,
 ⟨some 12, .len_ (.tmp 11), (some (some 9, false)), []⟩,
 ⟨some 13, .bin .gtr (.tmp 12) (.const (.int .i64 220)), (some (some 9, false)), []⟩,
 ⟨some 14, .pick (.tmp 9) (.const (.bool true)) (.tmp 13), none, []⟩] [4, 5, 6, 7, 8, 9, 10, 11, 12, 13])
 (.cond (.tmp 14)
 (.seq
 (.region false [⟨some 2, .mv (.const (.bool true)), none, []⟩] [])
 .ret)
 .skip))
 (.seq
 (.seq
 (.region false [⟨some 3, .mv (.const (.int .i64 0)), none, []⟩] [])
 (.block 0
 (.loop
 (.seq
 (.seq
 (.region false [⟨some 15, .mv (.tmp 3), none, []⟩,
 ⟨some 16, .fad 6 (.tmp 1), none, []⟩,
 ⟨some 17, .load1 (.tmp 16), none, []⟩,
 ⟨some 18, .len_ (.tmp 17), none, []⟩,
 ⟨some 19, .bin .lss (.tmp 15) (.tmp 18), none, []⟩] [15, 16, 17, 18])
 (.cond (.tmp 19)
 .skip
 (.exit 0)))
 (.seq
 (.block 1
 (.seq
 (.region false [⟨some 22, .fad 6 (.tmp 1), none, []⟩,
 ⟨some 23, .load1 (.tmp 22), none, []⟩,
 ⟨some 24, .mv (.tmp 3), none, []⟩,
 ⟨some 25, .iadS 1 (.tmp 23) (.tmp 24), none, []⟩,
 ⟨some 26, .load1 (.tmp 25), none, []⟩,
 ⟨some 27, .len_ (.tmp 26), none, []⟩,
 ⟨some 28, .bin .gtr (.tmp 27) (.const (.int .i64 50)), none, []⟩] [22, 23, 24, 25, 26, 27])
 (.cond (.tmp 28)
 (.seq
 (.region false [⟨some 2, .mv (.const (.bool true)), none, []⟩] [])
 .ret)
 .skip)))
 (.region false [⟨some 20, .mv (.tmp 3), none, []⟩,
 ⟨some 21, .bin .add (.tmp 20) (.const (.int .i64 1)), none, []⟩,
 ⟨some 3, .mv (.tmp 21), none, []⟩] [20, 21]))))))
 (.seq
 (.region false [⟨some 2, .mv (.const (.bool false)), none, []⟩] [])
 .ret))))
set_option maxRecDepth 100000 in
theorem klaw12_Far : IsCode Try.prog 15 29 claw12_Far [.tmp 2] :=
 ⟨Try.f15, _, [28, 19, 14, 0, 1, 3, 2], Try.func15, rfl, by decide, rfl, by kernel_rfl, by kernel_rfl⟩
end Go.Proofs.Ytdcodicoclecnaa
/- Boxes as abstract values; what is left of a box without another one. No conditions. -/
namespace Go.Proofs.Ytdcodicoclecnaa
open Go.RowKit Lift

abbrev Bx := List (Int × Int)
def sps (b : Bx) : List (List D) := b.map fun x => [.val (.int .i64 x.1), .val (.int .i64 x.2)]
def scells : Bx → List D
  | [] => []
  | x :: b => .val (.int .i64 x.1) :: .val (.int .i64 x.2) :: scells b
def bcells (l : List Bx) : List D := l.map fun b => .list (sps b)
def lo (b : Bx) (k : Nat) : Int := (b[k]?.getD (0, 0)).1
def hi (b : Bx) (k : Nat) : Int := (b[k]?.getD (0, 0)).2
theorem sps_len (b : Bx) : (sps b).length = b.length := by simp [sps]
theorem sps_all (b : Bx) : (sps b).all (fun x => x.length == 2) = true := by simp [sps]
theorem sps_two (b : Bx) : ∀ e ∈ sps b, e.length = 2 := by intro e he; obtain ⟨x, _, rfl⟩ := List.mem_map.1 he; rfl
theorem sps_flat (b : Bx) : (sps b).flatten = scells b := by
  induction b with
  | nil => rfl
  | cons x b ih => simp [sps, scells] at ih ⊢; exact ih
theorem scells_len (b : Bx) : (scells b).length = b.length * 2 := by
  induction b with
  | nil => rfl
  | cons x b ih => simp [scells, ih]; omega
theorem scells_mem {b : Bx} : ∀ {d : D}, d ∈ scells b → ∃ n, d = .val (.int .i64 n) := by
  induction b with
  | nil => intro d h; simp [scells] at h
  | cons x b ih =>
    intro d h
    simp only [scells, List.mem_cons] at h
    rcases h with rfl | rfl | h
    · exact ⟨_, rfl⟩
    · exact ⟨_, rfl⟩
    · exact ih h
theorem scells_in (b : Bx) : ∀ d ∈ scells b, In (fun _ => False) d := fun d hd => by obtain ⟨n, rfl⟩ := scells_mem hd; exact .val _
theorem bcells_in (l : List Bx) : ∀ d ∈ bcells l, In (fun _ => False) d := by
  intro d hd; obtain ⟨x, _, rfl⟩ := List.mem_map.1 hd; exact .list _
theorem sps_gd (b : Bx) (k : Nat) (h : k < b.length) : (sps b)[k]? = some [.val (.int .i64 (lo b k)), .val (.int .i64 (hi b k))] := by simp [sps, lo, hi, h]
/-! ### what the functions compute -/
structure OkB (b : Bx) : Prop where
  pos : 1 ≤ b.length
  len : b.length ≤ 3
  low : ∀ k, k < b.length → -1000000 ≤ lo b k
  le : ∀ k, k < b.length → lo b k ≤ hi b k
  high : ∀ k, k < b.length → hi b k ≤ 1000000
end Go.Proofs.Ytdcodicoclecnaa
/- record: Read, Peak (a reference to a yield, .yref, lies in memory). No conditions. -/
namespace Go.Proofs.Ytdcodicoclecnaa
open Go.RowKit Lift

def pkS (l : Lay) (f : Fl) (frs : List (List Int)) : Nat → Int × Int
  | 0 => (-1, 0)
  | i + 1 => match smp l f (frm frs i) with
    | some v => if (pkS l f frs i).1 < 0 ∨ v > (pkS l f frs i).2 then ((i : Int), v) else pkS l f frs i
    | none => pkS l f frs i
theorem sc_snoc (L : List (Int × Int)) (x : Int × Int) : scells L ++ [.val (.int .i64 x.1), .val (.int .i64 x.2)] = scells (L ++ [x]) := by
  rw [← sps_flat, ← sps_flat]; simp [sps]
theorem sc_all (L : List (Int × Int)) : (scells L).take (L.length * 2) = scells L := List.take_of_length_le (by rw [scells_len]; omega)
theorem hasA_one (l : Lay) (x : Int) : hasA l [x] = wI x 0 ((l.fl.length : Int) - 1) := by simp [hasA]
theorem wfE_ok {l : Lay} {frs : List (List Int)} {x : Int} (h : wfE l frs [x] = 0) : LayOk l ∧ frs.length ≤ 200 ∧ hasA l [x] = true ∧ ∃ k : Nat, x = k ∧ k < l.fl.length := by
  unfold wfE at h
  rcases tpE_cases l frs with ⟨h0, h1, h2⟩ | ⟨h0, _⟩
  · rw [if_pos h0] at h
    cases hh : hasA l [x] with
    | false => rw [hh] at h; cases h
    | true =>
      refine ⟨h1, h2, rfl, x.toNat, ?_⟩
      rw [hasA_one] at hh
      have := wI_t hh
      omega
  · rw [if_neg h0] at h; exact absurd h h0
set_option maxRecDepth 100000 in
set_option maxHeartbeats 4000000 in
theorem peak_ok (l : Lay) (frs : List (List Int)) (k : Nat) (hl : LayIn l) (h1 : LayOk l) (h2 : frs.length ≤ 200) (hf : FrIn frs) (hk : k < l.fl.length) : AC Try.prog 20 [layD l, .list (rows frs), dI k] [] [] (if (pkS l (fAt l k) frs frs.length).1 < 0 then .tup [dI 0, dI 0, dI 3] else .tup [dI (pkS l (fAt l k) frs frs.length).1, dI (pkS l (fAt l k) frs frs.length).2, dI 0]) := by
  have hin : In (fun _ => False) (if (pkS l (fAt l k) frs frs.length).1 < 0 then D.tup [dI 0, dI 0, dI 3] else .tup [dI (pkS l (fAt l k) frs frs.length).1, dI (pkS l (fAt l k) frs frs.length).2, dI 0]) := by
    split <;> exact .tup _ (by intro d hd; simp at hd; rcases hd with rfl | rfl | rfl <;> exact .val _)
  refine krecord_Peak.ac (n0 := 0) (by simp) ⟨in_layD _ _, .list _, .val _, trivial⟩ trivial rfl ?_
  unfold crecord_Peak layD layC
  have hh : hasA l [(k : Int)] = true := by rw [hasA_one]; exact wI_y (by omega) (by omega)
  have nt := withField_ok l frs [(k : Int)] hl h1 h2 hf (Nat.le_of_ble_eq_true rfl) hh
  have sa := samples_ac l frs k hk (by have := h1.nf; omega)
  have hfo := fAt_ok h1 hk
  generalize fAt l k = f at *
  refine aw_seq (aw_region ?_)
  simp (disch := first | exact okY | omega) only [thenQ, List.map, Int.reduceNeg, dI, List.length, Nat.zero_add, Nat.reduceAdd, Nat.reduceMul, envOf, ARun_none, AOpRun, aexec, D.isBot, FSt.ev, St.F, ↓eget_h, Bool.false_eq_true, Option.isSome, hget_n, or_self, ↓reduceIte, D.cells, AGo_ok, St.app, putO, eput_c, Nat.reduceBEq, eput_n, cond_false, hups, hput_n, hget_c, hput_c, ARun_nil, dropE_c, inL_n, dropE_n]
  refine aw_wk (s' := ⟨[(1, .list (rows frs)), (2, dI k), (3, .ptr 0 0), (6, .ptr 8 0), (7, .ptr 16 0)], [(0, [dI l.words, dI l.s0, dI l.s1, dI l.s2, dI l.s3, .list (fls l.fl)]), (8, [dI 0]), (16, [dI 0])], 40⟩) ?_ ?_
  · unfold dI
    refine wk_q [] [(0, 0), (8, 8), (16, 16)] ?_ ?_ <;> repeat' (first | exact trivial | exact vr_val _ | exact vr_list _ | exact vr_ptr _ _ _ rfl | refine And.intro ⟨_, rfl, .inl ⟨_, rfl, by decide, ?_⟩⟩ ?_ | apply And.intro)
  refine aw_seq (aw_region_cut [⟨some 13, .loadN 6 (.tmp 3), none, []⟩,
     ⟨some 14, .mv (.tmp 1), none, []⟩,
     ⟨some 15, .mv (.tmp 2), none, []⟩,
     ⟨some 16, .buildSl 1 1 [(.val (.int .i64 0))] [(0, 1, (.tmp 15))], none, []⟩]
     [⟨some 17, .call (.func 66) [(.tmp 13), (.tmp 14), (.tmp 16)], none, []⟩,
     ⟨some 12, .mv (.tmp 17), none, []⟩,
     ⟨some 18, .ext (.tmp 12) 0, none, []⟩,
     ⟨some 19, .ext (.tmp 12) 1, none, []⟩,
     ⟨some 9, .mv (.tmp 18), none, []⟩,
     ⟨some 8, .mv (.tmp 19), none, []⟩] ?_)
  simp (disch := first | exact okY | omega) only [List.length, Nat.zero_add, Nat.reduceAdd, Nat.reduceMul, thenQ, Int.reduceNeg, ARun_none, AOpRun, FSt.ev, List.map, St.F, dI, aexec, eget_c, Nat.reduceBEq, ↓eget_h, cond_false, hget_c, beq_self_eq_true, hget_n, cond_true, Nat.reduceLeDiff, ↓reduceIte, List.drop, List.take, AGo_ok, St.app, putO, eput_c, eput_n, hups, Option.isSome, Bool.false_eq_true, Option.map, fillD, D.isBot, D.cells, ne_eq, not_true_eq_false, Nat.reduceGT, or_self, splice, List.nil_append, List.append_nil, hput_c, hput_n, ARun_nil]
  refine ⟨⟨[(2, dI k), (6, .ptr 8 0), (7, .ptr 16 0), (13, layD l), (14, .list (rows frs)), (16, .list (ints [(k : Int)]))], [(8, [dI 0]), (16, [dI 0])], 96⟩, ?_, of_decide_eq_true (by kernel_rfl), ?_⟩
  · unfold layD layC dI
    refine wk_q [64] [(8, 8), (16, 16)] ?_ ?_ <;> repeat' (first | exact trivial | exact vr_val _ | exact vr_list _ | exact vr_ptr _ _ _ rfl | apply vr_agg | refine vr_fl _ _ _ _ _ (by decide) rfl ?_ ?_ ?_ ?_ | refine And.intro ⟨_, rfl, .inl ⟨_, rfl, by decide, ?_⟩⟩ ?_ | apply And.intro)
    all_goals first | exact ints_one _ | exact ints_len _ | exact ints_flat _ | exact icells_in _ | exact icells_in [(k : Int)]
  simp (disch := first | exact okY | omega) only [Nat.reduceSub, Int.reduceNeg, Nat.reduceAdd, eget_c, Nat.reduceBEq, ↓eget_h, cond_false]
  refine acallB nt (by repeat' (first | exact trivial | exact rfl | refine And.intro ?_ ?_)) (by kernel_rfl) (by kernel_rfl) (by kernel_rfl) ?_
  simp (disch := first | exact okY | omega) only [Int.reduceNeg, Nat.reduceAdd, St.app, putO, dI, eput_c, Nat.reduceBEq, eput_n, cond_false, hups, hput_c, hput_n, List.map, List.append_nil, ARun_none, AOpRun, aexec, FSt.ev, St.F, eget_c, ↓eget_h, AGo_ok, opt1, Option.map, List.getElem?_cons_zero, List.getElem?_cons_succ, ARun_nil, dropE_c, inL_c, inL_n, beq_self_eq_true, cond_true, dropE_n]
  refine aw_seq (aw_seq (aw_region ?_))
  simp (disch := first | exact okY | omega) only [thenQ, Int.reduceNeg, List.length, Nat.zero_add, Nat.reduceAdd, Nat.reduceMul, ARun_none, AOpRun, aexec, FSt.ev, St.F, eget_c, Nat.reduceBEq, ↓eget_h, cond_false, AGo_ok, St.app, putO, eput_c, eput_n, hups, List.map, isSh, Bool.false_eq_true, ↓reduceIte, Option.map, abin, bne_self_eq_false, ARun_nil, dropE_c, inL_c, inL_n, beq_self_eq_true, cond_true, dropE_n]
  refine aw_condF rfl (aw_skip ?_)
  refine aw_seq (aw_region ?_)
  simp (disch := first | exact okY | omega) only [thenQ, List.length, Nat.zero_add, Nat.reduceMul, Nat.reduceAdd, Int.reduceNeg, ARun_none, AOpRun, aexec, FSt.ev, St.F, eget_c, Nat.reduceBEq, ↓eget_h, cond_false, hget_c, beq_self_eq_true, hget_n, cond_true, D.isBot, D.cells, Nat.reduceLeDiff, List.all, D.leaf, Bool.and_true, and_self, ↓reduceIte, splice, List.take, List.nil_append, List.drop, List.append_nil, AGo_ok, St.app, putO, hups, hput_c, hput_n, List.map, ARun_nil, dropE_c, inL_n, dropE_n]
  refine aw_wk (s' := ⟨[(2, dI k), (6, .ptr 8 0), (7, .ptr 16 0), (9, .ptr 96 0)], [(96, tpC l frs), (8, [dI (-1)]), (16, [dI 0])], 104⟩) ?_ ?_
  · unfold dI
    refine wk_q [] [(8, 8), (16, 16), (96, 96)] ?_ ?_ <;> repeat' (first | exact trivial | exact vr_val _ | exact vr_list _ | exact vr_ptr _ _ _ rfl | refine And.intro ⟨_, rfl, .inl ⟨_, rfl, by decide, ?_⟩⟩ ?_ | apply And.intro)
    all_goals exact tpC_in _ _ _
  refine aw_seq (aw_seq (aw_region ?_))
  simp (disch := first | exact okY | omega) only [thenQ, List.length, Nat.zero_add, Nat.reduceAdd, Nat.reduceMul, dI, Int.reduceNeg, ARun_none, AOpRun, aexec, FSt.ev, St.F, eget_c, Nat.reduceBEq, ↓eget_h, cond_false, AGo_ok, St.app, putO, eput_c, eput_n, hups, List.map]
  refine acallB sa (by repeat' (first | exact trivial | exact rfl | refine And.intro ?_ ?_)) (by kernel_rfl) (by kernel_rfl) (by kernel_rfl) ?_
  simp (disch := first | exact okY | omega) only [Nat.reduceAdd, St.app, putO, eput_c, Nat.reduceBEq, eput_n, cond_false, hups, Int.reduceNeg, hput_c, hput_n, beq_self_eq_true, cond_true, List.map, List.append_nil, ARun_nil, dropE_c, inL_c, inL_n, dropE_n]
  refine aw_wk (s' := ⟨[(6, .ptr 8 0), (7, .ptr 16 0), (25, .fn 113 [] [.ptr 120 0, .ptr 121 0])], [(96, tpC l frs), (120, [.ptr 96 0]), (121, flC f), (8, [dI (-1)]), (16, [dI 0])], 800⟩) ?_ ?_
  · unfold dI
    refine wk_q [] [(8, 8), (16, 16), (96, 96), (120, 120), (121, 121)] ?_ ?_ <;> repeat' (first | exact trivial | exact vr_val _ | exact vr_list _ | exact vr_ptr _ _ _ rfl | apply vr_fn | refine And.intro ⟨_, rfl, .inl ⟨_, rfl, by decide, ?_⟩⟩ ?_ | apply And.intro)
    all_goals first | exact tpC_in _ _ _ | exact flC_in _ _
  refine aw_block (aw_range [8, 16, 96, 120, 121] [(6, .ptr 8 0), (7, .ptr 16 0)] [.bot, .bot, .bot, .bot, .bot, .bot, .ptr 8 0, .ptr 16 0] kprecord_tape_samples_S1 rfl (by simp) ⟨.inl rfl, .inl rfl, .inl rfl, .inl rfl, .inl rfl, .inl rfl, .inr rfl, .inr rfl, trivial⟩ rfl rfl (by simp) ⟨.inr ⟨rfl, .ptr _ _ (by simp)⟩, .inr ⟨rfl, .ptr _ _ (by simp)⟩, trivial⟩ (fun r hr => ?_))
  refine samples_hit hr rfl l frs h2 h1 f hfo hf [8, 16, 96, 120, 121] (by decide) [.bot, .bot, .bot, .bot, .bot, .bot, .ptr 8 0, .ptr 16 0] rfl (by intro d hd; simp at hd; rcases hd with rfl | rfl | rfl; exact .bot; exact .ptr _ _ (by simp); exact .ptr _ _ (by simp)) (by simp) (by simp) (by simp) (fun i => [(8, [dI (pkS l f frs i).1]), (16, [dI (pkS l f frs i).2])])
    (fun i => .cons (by decide) (by intro d hd; simp at hd; subst hd; exact .val _) rfl (.cons (by decide) (by intro d hd; simp at hd; subst hd; exact .val _) rfl .nil)) (fun i hi hs => ?_) (fun i v hi hs => ?_) ?_
  · have : pkS l f frs (i + 1) = pkS l f frs i := by simp only [pkS, hs]
    simp only [this]
  · have e : pkS l f frs (i + 1) = if (pkS l f frs i).1 < 0 ∨ v > (pkS l f frs i).2 then ((i : Int), v) else pkS l f frs i := by simp only [pkS, hs]
    rw [e]
    generalize pkS l f frs i = p at *
    obtain ⟨a, b⟩ := p
    simp only
    unfold crecord_Peak_B26 smH
    refine aw_block (aw_seq (aw_region ?_))
    cases q1 : decide (a < 0) with
    | true =>
      rw [if_pos (.inl (of_decide_eq_true q1))]
      simp (disch := first | exact okY | omega) only [thenQ, dI, List.length, Nat.zero_add, Nat.reduceAdd, Nat.reduceMul, bodyE, asgE, parE, envOf, eput_c, Nat.reduceBEq, eput_n, cond_false, eget_c, ↓eget_h, ARun_none, AOpRun, aexec, Option.map, run1, FSt.ev, St.F, hget_c, ↓hget_h, List.getElem?_cons_zero, AGo_ok, St.app, putO, hups, List.map, isSh, Bool.false_eq_true, ↓reduceIte, abin, q1, ARun_some, AG_tf, ARun_nil, dropE_c, inL_c, inL_n, beq_self_eq_true, cond_true, dropE_n]
      refine aw_condT rfl (aw_region ?_)
      simp (disch := first | exact okY | omega) only [blockQ, List.length, Nat.zero_add, Nat.reduceAdd, Nat.reduceMul, true_and, ARun_none, AOpRun, aexec, FSt.ev, St.F, eget_c, Nat.reduceBEq, ↓eget_h, cond_false, AGo_ok, St.app, putO, eput_c, eput_n, hups, List.map, hget_c, ↓hget_h, D.isBot, D.cells, Nat.reduceLeDiff, List.all, D.leaf, Bool.and_true, and_self, ↓reduceIte, splice, List.take, List.nil_append, List.drop, List.append_nil, hput_c, beq_self_eq_true, hput_n, cond_true, ARun_nil, dropE_c, inL_c, inL_n, dropE_n]
      try refine ⟨rfl, ?_⟩
      refine wk_q [] [(8, 8), (16, 16), (96, 96), (120, 120), (121, 121), (800, 800), (808, 808), (1000, 1000)] ?_ ?_ <;> repeat' (first | exact trivial | exact vr_val _ | exact vr_list _ | exact vr_ptr _ _ _ rfl | refine And.intro ⟨_, rfl, .inl ⟨_, rfl, by decide, ?_⟩⟩ ?_ | apply And.intro | exact vr_yrefs _ _ rfl)
      all_goals first | exact tpC_in _ _ _ | exact flC_in _ _
    | false =>
      have n1 := of_decide_eq_false q1
      cases q2 : decide (v > b) with
      | true =>
        rw [if_pos (.inr (of_decide_eq_true q2))]
        simp (disch := first | exact okY | omega) only [thenQ, dI, List.length, Nat.zero_add, Nat.reduceAdd, Nat.reduceMul, bodyE, asgE, parE, envOf, eput_c, Nat.reduceBEq, eput_n, cond_false, eget_c, ↓eget_h, ARun_none, AOpRun, aexec, Option.map, run1, FSt.ev, St.F, hget_c, ↓hget_h, List.getElem?_cons_zero, AGo_ok, St.app, putO, hups, List.map, isSh, Bool.false_eq_true, ↓reduceIte, abin, q1, ARun_some, AG_ff, q2, ARun_nil, dropE_c, inL_c, inL_n, beq_self_eq_true, cond_true, dropE_n]
        refine aw_condT rfl (aw_region ?_)
        simp (disch := first | exact okY | omega) only [blockQ, List.length, Nat.zero_add, Nat.reduceAdd, Nat.reduceMul, true_and, ARun_none, AOpRun, aexec, FSt.ev, St.F, eget_c, Nat.reduceBEq, ↓eget_h, cond_false, AGo_ok, St.app, putO, eput_c, eput_n, hups, List.map, hget_c, ↓hget_h, D.isBot, D.cells, Nat.reduceLeDiff, List.all, D.leaf, Bool.and_true, and_self, ↓reduceIte, splice, List.take, List.nil_append, List.drop, List.append_nil, hput_c, beq_self_eq_true, hput_n, cond_true, ARun_nil, dropE_c, inL_c, inL_n, dropE_n]
        try refine ⟨rfl, ?_⟩
        refine wk_q [] [(8, 8), (16, 16), (96, 96), (120, 120), (121, 121), (800, 800), (808, 808), (1000, 1000)] ?_ ?_ <;> repeat' (first | exact trivial | exact vr_val _ | exact vr_list _ | exact vr_ptr _ _ _ rfl | refine And.intro ⟨_, rfl, .inl ⟨_, rfl, by decide, ?_⟩⟩ ?_ | apply And.intro | exact vr_yrefs _ _ rfl)
        all_goals first | exact tpC_in _ _ _ | exact flC_in _ _
      | false =>
        have n2 := of_decide_eq_false q2
        rw [if_neg (by rintro (h | h); exact n1 h; exact n2 h)]
        simp (disch := first | exact okY | omega) only [thenQ, dI, List.length, Nat.zero_add, Nat.reduceAdd, Nat.reduceMul, bodyE, asgE, parE, envOf, eput_c, Nat.reduceBEq, eput_n, cond_false, eget_c, ↓eget_h, ARun_none, AOpRun, aexec, Option.map, run1, FSt.ev, St.F, hget_c, ↓hget_h, List.getElem?_cons_zero, AGo_ok, St.app, putO, hups, List.map, isSh, Bool.false_eq_true, ↓reduceIte, abin, q1, ARun_some, AG_ff, q2, ARun_nil, dropE_c, inL_c, inL_n, beq_self_eq_true, cond_true, dropE_n]
        refine aw_condF rfl (aw_skip ?_)
        try refine ⟨rfl, ?_⟩
        refine wk_q [] [(8, 8), (16, 16), (96, 96), (120, 120), (121, 121), (800, 800), (808, 808), (1000, 1000)] ?_ ?_ <;> repeat' (first | exact trivial | exact vr_val _ | exact vr_list _ | exact vr_ptr _ _ _ rfl | refine And.intro ⟨_, rfl, .inl ⟨_, rfl, by decide, ?_⟩⟩ ?_ | apply And.intro | exact vr_yrefs _ _ rfl)
        all_goals first | exact tpC_in _ _ _ | exact flC_in _ _
  · generalize pkS l f frs frs.length = p at *
    obtain ⟨a, b⟩ := p
    unfold smH
    simp only [blockQ, thenQ]
    cases q1 : decide (a < 0) with
    | true =>
      rw [if_pos (of_decide_eq_true q1)]
      (repeat' (first | (with_reducible first | refine thenQ_n ?_ | refine blockQ_n ?_ | refine thenQ_e ?_ | refine blockQ_t ?_ | refine blockQ_f (by decide) ?_) | apply aw_seq | apply aw_skip | apply aw_exit | apply aw_ret | apply aw_block | apply aw_condT rfl | apply aw_condF rfl | ((first | refine aw_hide fun K hK => aw_region ?_ | refine ago_if (by omega) ?_ | skip); simp (disch := first | exact okY | omega) only [List.length, Nat.zero_add, Nat.reduceAdd, Nat.reduceMul, dI, ARun_none, AOpRun, aexec, Option.map, run1, FSt.ev, St.F, ↓eget_h, hget_c, Nat.reduceBEq, ↓hget_h, cond_false, List.getElem?_cons_zero, AGo_ok, St.app, putO, eput_c, eput_n, hups, List.map, eget_c, isSh, Bool.false_eq_true, ↓reduceIte, abin, q1, ARun_nil, dropE_c, inL_c, inL_n, beq_self_eq_true, cond_true, dropE_n, D.isBot, D.cells, Nat.reduceLeDiff, List.all, D.leaf, Bool.and_true, and_self, splice, List.take, List.nil_append, List.drop, List.append_nil, hput_c, hput_n, thenQ]) | subst hK))
      (refine end_q [] [] ?_ ?_ <;> repeat' (first | exact trivial | exact vr_val _ | apply vr_tup | apply And.intro))
    | false =>
      rw [if_neg (of_decide_eq_false q1)]
      (repeat' (first | (with_reducible first | refine thenQ_n ?_ | refine blockQ_n ?_ | refine thenQ_e ?_ | refine blockQ_t ?_ | refine blockQ_f (by decide) ?_) | apply aw_seq | apply aw_skip | apply aw_exit | apply aw_ret | apply aw_block | apply aw_condT rfl | apply aw_condF rfl | ((first | refine aw_hide fun K hK => aw_region ?_ | refine ago_if (by omega) ?_ | skip); simp (disch := first | exact okY | omega) only [List.length, Nat.zero_add, Nat.reduceAdd, Nat.reduceMul, dI, ARun_none, AOpRun, aexec, Option.map, run1, FSt.ev, St.F, ↓eget_h, hget_c, Nat.reduceBEq, ↓hget_h, cond_false, List.getElem?_cons_zero, AGo_ok, St.app, putO, eput_c, eput_n, hups, List.map, eget_c, isSh, Bool.false_eq_true, ↓reduceIte, abin, q1, ARun_nil, dropE_c, inL_c, inL_n, beq_self_eq_true, cond_true, dropE_n, D.isBot, D.cells, Nat.reduceLeDiff, List.all, D.leaf, Bool.and_true, and_self, splice, List.take, List.nil_append, List.drop, List.append_nil, hput_c, hput_n]) | subst hK))
      (refine end_q [] [] ?_ ?_ <;> repeat' (first | exact trivial | exact vr_val _ | apply vr_tup | apply And.intro))
set_option maxRecDepth 100000 in
set_option maxHeartbeats 1000000 in
theorem peak_err (l : Lay) (frs : List (List Int)) (x : Int) (hl : LayIn l) (he : wfE l frs [x] ≠ 0) (hf : FrIn frs) : AC Try.prog 20 [layD l, .list (rows frs), dI x] [] [] (.tup [dI 0, dI 0, dI (wfE l frs [x])]) := by
  refine krecord_Peak.ac (n0 := 0) (by simp) ⟨in_layD _ _, .list _, .val _, trivial⟩ trivial rfl ?_
  unfold crecord_Peak layD layC
  have nt := withField_err l frs [x] hl hf (Nat.le_of_ble_eq_true rfl) he
  have h1 : (wfE l frs [x] != 0) = true := by simpa using he
  generalize wfE l frs [x] = E at *
  refine aw_seq (aw_region ?_)
  simp (disch := first | exact okY | omega) only [thenQ, List.map, Int.reduceNeg, dI, List.length, Nat.zero_add, Nat.reduceAdd, Nat.reduceMul, envOf, ARun_none, AOpRun, aexec, D.isBot, FSt.ev, St.F, ↓eget_h, Bool.false_eq_true, Option.isSome, hget_n, or_self, ↓reduceIte, D.cells, AGo_ok, St.app, putO, eput_c, Nat.reduceBEq, eput_n, cond_false, hups, hput_n, hget_c, hput_c, ARun_nil, dropE_c, inL_n, dropE_n]
  refine aw_seq (aw_region ?_)
  simp (disch := first | exact okY | omega) only [thenQ, Int.reduceNeg, List.length, Nat.zero_add, Nat.reduceAdd, Nat.reduceMul, ARun_none, AOpRun, aexec, FSt.ev, St.F, eget_c, Nat.reduceBEq, ↓eget_h, cond_false, hget_c, beq_self_eq_true, hget_n, cond_true, Nat.reduceLeDiff, ↓reduceIte, List.drop, List.take, AGo_ok, St.app, putO, eput_c, eput_n, hups, List.map, Option.isSome, Bool.false_eq_true, Option.map, fillD, D.isBot, D.cells, ne_eq, not_true_eq_false, Nat.reduceGT, or_self, splice, List.nil_append, List.append_nil, hput_c, hput_n]
  refine acall nt [56] ⟨.refl _, .refl _, vec_ints [x] (by simp) rfl rfl, trivial⟩ (.inr (.tup _ (by intro d hd; simp at hd; rcases hd with rfl | rfl <;> exact .val _))) (by intro g hg; simp at hg; subst hg; exact ⟨_, rfl⟩) (by kernel_rfl) ?_
  simp (disch := first | exact okY | omega) only [Int.reduceNeg, Nat.reduceAdd, St.app, putO, dI, eput_c, Nat.reduceBEq, eput_n, cond_false, hups, ARun_none, AOpRun, aexec, FSt.ev, St.F, eget_c, ↓eget_h, AGo_ok, List.map, opt1, Option.map, List.getElem?_cons_zero, List.getElem?_cons_succ, beq_self_eq_true, cond_true, ARun_nil, dropE_c, inL_c, inL_n, dropE_n]
  (repeat' (first | (with_reducible first | refine thenQ_n ?_ | refine blockQ_n ?_ | refine thenQ_e ?_ | refine blockQ_t ?_ | refine blockQ_f (by decide) ?_) | apply aw_seq | apply aw_skip | apply aw_exit | apply aw_ret | apply aw_block | apply aw_condT rfl | apply aw_condF rfl | ((first | refine aw_hide fun K hK => aw_region ?_ | refine ago_if (by omega) ?_ | skip); simp (disch := first | exact okY | omega) only [List.length, Nat.zero_add, Nat.reduceAdd, Nat.reduceMul, ARun_none, AOpRun, aexec, FSt.ev, St.F, eget_c, Nat.reduceBEq, ↓eget_h, cond_false, AGo_ok, St.app, putO, eput_c, eput_n, hups, List.map, isSh, Bool.false_eq_true, ↓reduceIte, Option.map, abin, h1, ARun_nil, dropE_c, inL_c, inL_n, beq_self_eq_true, cond_true, dropE_n, hget_c, ↓hget_h, D.isBot, D.cells, Nat.reduceLeDiff, List.all, D.leaf, Bool.and_true, and_self, splice, List.take, List.nil_append, List.drop, List.append_nil, hput_c, hput_n, thenQ]) | subst hK))
  (refine end_q [] [] ?_ ?_ <;> repeat' (first | exact trivial | exact vr_val _ | apply vr_tup | apply And.intro))
noncomputable def peakR (l : Lay) (frs : List (List Int)) (x : Int) : Int × Int × Int := if wfE l frs [x] = 0 then (if (pkS l (fAt l x.toNat) frs frs.length).1 < 0 then (0, 0, 3) else ((pkS l (fAt l x.toNat) frs frs.length).1, (pkS l (fAt l x.toNat) frs frs.length).2, 0)) else (0, 0, wfE l frs [x])
theorem peak_ac (l : Lay) (frs : List (List Int)) (x : Int) (hl : LayIn l) (hf : FrIn frs) : AC Try.prog 20 [layD l, .list (rows frs), dI x] [] [] (.tup [dI (peakR l frs x).1, dI (peakR l frs x).2.1, dI (peakR l frs x).2.2]) := by
  unfold peakR
  by_cases h : wfE l frs [x] = 0
  · obtain ⟨h1, h2, _, k, rfl, hk⟩ := wfE_ok h
    have := peak_ok l frs k hl h1 h2 hf hk
    rw [if_pos h, Int.toNat_natCast]
    by_cases hp : (pkS l (fAt l k) frs frs.length).1 < 0
    · rw [if_pos hp] at this ⊢; exact this
    · rw [if_neg hp] at this ⊢; exact this
  · rw [if_neg h]; exact peak_err l frs x hl h hf
end Go.Proofs.Ytdcodicoclecnaa
