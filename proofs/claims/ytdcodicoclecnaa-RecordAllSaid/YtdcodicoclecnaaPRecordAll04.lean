/- Texts of the law RecordAll, part 4. No conditions. -/
import Derived.Test.YtdcodicoclecnaaPRecordAll03
import Derived.Test.YtdcodicoclecnaaRows
set_option linter.unusedSimpArgs false
set_option linter.unusedVariables false
/- The functions' bodies, translated. Written by a program; no conditions. -/
namespace Go.Proofs.Ytdcodicoclecnaa
open Go.RowKit Lift

def crecord_Check : ACode :=
 (.seq
 (.region false [⟨some 1, .box (.tmp 0), none, []⟩,
 ⟨some 2, .mv (.const (.int .i64 0)), none, []⟩] [])
 (.seq
 (.seq
 (.region false [⟨some 12, .fad 0 (.tmp 1), none, []⟩,
 ⟨some 13, .load1 (.tmp 12), none, []⟩,
 ⟨some 14, .call (.func 74) [(.tmp 13), (.const (.int .i64 2)), (.const (.int .i64 32))], none, []⟩,
 ⟨some 15, .un .not (.tmp 14), none, []⟩,
 ⟨some 16, .mv (.tmp 15), none, []⟩,
 ⟨some 17, .fad 5 (.tmp 1), (some (some 16, false)), []⟩,
 ⟨some 18, .load1 (.tmp 17), (some (some 16, false)), []⟩,
 ⟨some 19, .len_ (.tmp 18), (some (some 16, false)), []⟩,
 ⟨some 20, .bin .gtr (.tmp 19) (.const (.int .i64 16)), (some (some 16, false)), []⟩,
 ⟨some 21, .pick (.tmp 16) (.const (.bool true)) (.tmp 20), none, []⟩] [12, 13, 14, 15, 16, 17, 18, 19, 20])
 (.cond (.tmp 21)
 (.seq
 (.region false [⟨some 2, .mv (.const (.int .i64 120)), none, []⟩] [])
 .ret)
 .skip))
 (.seq
 (.seq
 (.region false [⟨some 22, .fad 1 (.tmp 1), none, []⟩,
 ⟨some 23, .loadN 4 (.tmp 22), none, []⟩,
 ⟨some 24, .mv (.const (.int .i64 0)), none, []⟩] [22])
 (.block 0
 (.loop
 (.seq
 (.region false [⟨some 25, .bin .lss (.tmp 24) (.const (.int .i64 4)), none, []⟩] [])
 (.seq
 (.cond (.tmp 25)
 .skip
 (.exit 0))
 (.seq
 (.block 1
 (.seq
 (.region false [⟨some 26, .mv (.tmp 24), none, []⟩,
 ⟨some 27, .idx1 4 1 (.tmp 23) (.tmp 24), none, []⟩,
 ⟨some 3, .mv (.tmp 26), none, []⟩,
 ⟨some 4, .mv (.tmp 27), none, []⟩] [26, 27])
 (.seq
 (.region false [⟨some 28, .mv (.tmp 4), none, []⟩,
 ⟨some 29, .call (.func 74) [(.tmp 28), (.const (.int .i64 0)), (.const (.int .i64 4095))], none, []⟩,
 ⟨some 30, .un .not (.tmp 29), none, []⟩,
 ⟨some 31, .mv (.tmp 30), none, []⟩,
 ⟨some 32, .fad 1 (.tmp 1), (some (some 31, false)), []⟩,
 ⟨some 33, .mv (.tmp 3), (some (some 31, false)), []⟩,
 ⟨some 34, .slA 4 1 (.tmp 32) none (some (.tmp 33)), (some (some 31, false)), []⟩,
 ⟨some 35, .mv (.tmp 4), (some (some 31, false)), []⟩,
 ⟨some 36, .call (.func 75) [(.tmp 34), (.tmp 35)], (some (some 31, false)), []⟩,
 ⟨some 37, .pick (.tmp 31) (.const (.bool true)) (.tmp 36), none, []⟩] [28, 29, 30, 31, 32, 33, 34, 35, 36])
 (.cond (.tmp 37)
 (.seq
 (.region false [⟨some 2, .mv (.const (.int .i64 120)), none, []⟩] [])
 .ret)
 .skip))))
 (.region false [⟨some 38, .bin .add (.tmp 24) (.const (.int .i64 1)), none, []⟩,
 ⟨some 24, .mv (.tmp 38), none, []⟩] [38])))))))
 (.seq
 (.seq
 (.region false [⟨some 39, .fad 5 (.tmp 1), none, []⟩,
 ⟨some 40, .load1 (.tmp 39), none, []⟩,
 ⟨some 41, .len_ (.tmp 40), none, []⟩,
 ⟨some 42, .mv (.const (.int .i64 0)), none, []⟩] [39])
 (.block 2
 (.loop
 (.seq
 (.region false [⟨some 43, .bin .lss (.tmp 42) (.tmp 41), none, []⟩] [])
 (.seq
 (.cond (.tmp 43)
 .skip
 (.exit 2))
 (.seq
 (.block 3
 (.seq
 (.region false [⟨some 44, .iadS 9 (.tmp 40) (.tmp 42), none, []⟩,
 ⟨some 45, .loadN 9 (.tmp 44), none, []⟩,
 ⟨some 6, .mem [(.val (.int .i64 0)), (.val (.int .i64 0)), (.val (.int .i64 0)), (.val (.bool false)), (.val (.int .i64 0)), (.val (.int .i64 0)), (.val (.int .i64 0)), (.val (.int .i64 0)), (.val (.int .i64 0))], none, []⟩,
 ⟨none, .store 9 (.tmp 6) (.tmp 45), none, []⟩] [44, 45])
 (.seq
 (.region false [⟨some 46, .loadN 9 (.tmp 6), none, []⟩,
 ⟨some 47, .build [(.val (.int .i64 0)), (.val (.int .i64 0)), (.val (.int .i64 0)), (.val (.bool false)), (.val (.int .i64 0)), (.val (.int .i64 0)), (.val (.int .i64 0)), (.val (.int .i64 0)), (.val (.int .i64 0))] [(0, 9, (.tmp 46))], none, []⟩,
 ⟨some 48, .fad 0 (.tmp 1), none, []⟩,
 ⟨some 49, .load1 (.tmp 48), none, []⟩,
 ⟨some 50, .call (.func 76) [(.tmp 47), (.tmp 49)], none, []⟩,
 ⟨some 51, .un .not (.tmp 50), none, []⟩] [46, 47, 48, 49, 50])
 (.cond (.tmp 51)
 (.seq
 (.region false [⟨some 2, .mv (.const (.int .i64 120)), none, []⟩] [])
 .ret)
 .skip))))
 (.region false [⟨some 52, .bin .add (.tmp 42) (.const (.int .i64 1)), none, []⟩,
 ⟨some 42, .mv (.tmp 52), none, []⟩] [52])))))))
 (.seq
 (.seq
 (.region false [⟨some 53, .mv (.const (.int .i64 0)), none, []⟩] [])
 (.block 4
 (.loop
 (.seq
 (.region false [⟨some 54, .bin .lss (.tmp 53) (.const (.int .i64 4)), none, []⟩] [])
 (.seq
 (.cond (.tmp 54)
 .skip
 (.exit 4))
 (.seq
 (.block 5
 (.seq
 (.region false [⟨some 55, .mv (.tmp 53), none, []⟩,
 ⟨some 7, .mv (.tmp 55), none, []⟩] [55])
 (.seq
 (.region false [⟨some 56, .fad 0 (.tmp 1), none, []⟩,
 ⟨some 57, .load1 (.tmp 56), none, []⟩,
 ⟨some 58, .mksl 1 8 [(.val (.int .i64 0))] (.tmp 57) (.tmp 57), none, []⟩,
 ⟨some 8, .mv (.tmp 58), none, []⟩] [56, 57, 58])
 (.seq
 (.region false [⟨some 59, .fad 5 (.tmp 1), none, []⟩,
 ⟨some 60, .load1 (.tmp 59), none, []⟩,
 ⟨some 61, .len_ (.tmp 60), none, []⟩,
 ⟨some 62, .mv (.const (.int .i64 0)), none, []⟩] [59])
 (.block 6
 (.loop
 (.seq
 (.region false [⟨some 63, .bin .lss (.tmp 62) (.tmp 61), none, []⟩] [])
 (.seq
 (.cond (.tmp 63)
 .skip
 (.exit 6))
 (.seq
 (.block 7
 (.seq
 (.region false [⟨some 64, .iadS 9 (.tmp 60) (.tmp 62), none, []⟩,
 ⟨some 65, .loadN 9 (.tmp 64), none, []⟩,
 ⟨some 10, .mem [(.val (.int .i64 0)), (.val (.int .i64 0)), (.val (.int .i64 0)), (.val (.bool false)), (.val (.int .i64 0)), (.val (.int .i64 0)), (.val (.int .i64 0)), (.val (.int .i64 0)), (.val (.int .i64 0))], none, []⟩,
 ⟨none, .store 9 (.tmp 10) (.tmp 65), none, []⟩] [64, 65])
 (.seq
 (.region false [⟨some 66, .loadN 9 (.tmp 10), none, []⟩,
 ⟨some 67, .build [(.val (.int .i64 0)), (.val (.int .i64 0)), (.val (.int .i64 0)), (.val (.bool false)), (.val (.int .i64 0)), (.val (.int .i64 0)), (.val (.int .i64 0)), (.val (.int .i64 0)), (.val (.int .i64 0))] [(0, 9, (.tmp 66))], none, []⟩,
 ⟨some 11, .mem [(.val (.int .i64 0)), (.val (.int .i64 0)), (.val (.int .i64 0)), (.val (.bool false)), (.val (.int .i64 0)), (.val (.int .i64 0)), (.val (.int .i64 0)), (.val (.int .i64 0)), (.val (.int .i64 0))], none, []⟩,
 ⟨none, .store 9 (.tmp 11) (.tmp 67), none, []⟩] [66, 67])
 (.seq
 (.region false [⟨some 68, .loadN 9 (.tmp 11), none, []⟩,
 ⟨some 69, .mv (.tmp 7), none, []⟩,
 ⟨some 70, .call (.func 77) [(.tmp 68), (.tmp 69)], none, []⟩] [68, 69])
 (.cond (.tmp 70)
 (.seq
 (.seq
 (.region true [⟨some 71, .mv (.tmp 8), none, []⟩,
 ⟨some 72, .fad 0 (.tmp 11), none, []⟩,
 ⟨some 73, .fad 0 (.tmp 72), none, [1]⟩,
 ⟨some 74, .load1 (.tmp 73), none, [2, 1]⟩,
 ⟨some 75, .iadS 1 (.tmp 71) (.tmp 74), none, [0, 3, 2, 1]⟩,
 ⟨some 76, .load1 (.tmp 75), none, [4, 0, 3, 2, 1]⟩,
 ⟨some 77, .loadN 9 (.tmp 11), none, []⟩,
 ⟨some 78, .call (.func 78) [(.tmp 77)], none, [6]⟩,
 ⟨some 79, .bin .and (.tmp 76) (.tmp 78), none, [5, 4, 0, 3, 2, 1, 7, 6]⟩,
 ⟨some 80, .bin .neq (.tmp 79) (.const (.int .i64 0)), none, [8, 5, 4, 0, 3, 2, 1, 7, 6]⟩] [71, 72, 73, 74, 75, 76, 77, 78, 79])
 (.cond (.tmp 80)
 (.seq
 (.region false [⟨some 2, .mv (.const (.int .i64 120)), none, []⟩] [])
 .ret)
 .skip))
 (.region true [⟨some 81, .mv (.tmp 8), none, []⟩,
 ⟨some 82, .fad 0 (.tmp 11), none, []⟩,
 ⟨some 83, .fad 0 (.tmp 82), none, [1]⟩,
 ⟨some 84, .load1 (.tmp 83), none, [2, 1]⟩,
 ⟨some 85, .iadS 1 (.tmp 81) (.tmp 84), none, [0, 3, 2, 1]⟩,
 ⟨some 86, .load1 (.tmp 85), none, [4, 0, 3, 2, 1]⟩,
 ⟨some 87, .loadN 9 (.tmp 11), none, []⟩,
 ⟨some 88, .call (.func 78) [(.tmp 87)], none, [6]⟩,
 ⟨some 89, .bin .or (.tmp 86) (.tmp 88), none, [5, 4, 0, 3, 2, 1, 7, 6]⟩,
 ⟨some 90, .iadS 1 (.tmp 81) (.tmp 84), none, [0, 3, 2, 1, 4, 5, 6, 7, 8]⟩,
 ⟨none, .store 1 (.tmp 90) (.tmp 89), none, [9, 0, 3, 2, 1, 4, 5, 6, 7, 8]⟩] [81, 82, 83, 84, 85, 86, 87, 88, 89, 90]))
 .skip)))))
 (.region false [⟨some 91, .bin .add (.tmp 62) (.const (.int .i64 1)), none, []⟩,
 ⟨some 62, .mv (.tmp 91), none, []⟩] [91]))))))))))
 (.region false [⟨some 92, .bin .add (.tmp 53) (.const (.int .i64 1)), none, []⟩,
 ⟨some 53, .mv (.tmp 92), none, []⟩] [92])))))))
 (.seq
 (.region false [⟨some 2, .mv (.const (.int .i64 0)), none, []⟩] [])
 .ret))))))
set_option maxRecDepth 100000 in
theorem krecord_Check : IsCode Try.prog 27 93 crecord_Check [.tmp 2] :=
 ⟨Try.f27, _, [80, 70, 63, 54, 51, 43, 37, 25, 21, 0, 1, 24, 23, 4, 3, 42, 41, 40, 6, 53, 62, 61, 60, 10, 11, 7, 8, 2], Try.func27, rfl, by decide, rfl, by kernel_rfl, by kernel_rfl⟩
def cref12_Check : ACode :=
 (.seq
 (.region false [⟨some 1, .box (.tmp 0), none, []⟩,
 ⟨some 2, .mv (.const (.int .i64 0)), none, []⟩] [])
 (.seq
 (.seq
 (.region false [⟨some 9, .fad 0 (.tmp 1), none, []⟩,
 ⟨some 10, .load1 (.tmp 9), none, []⟩,
 ⟨some 11, .call (.func 79) [(.tmp 10), (.const (.int .i64 2)), (.const (.int .i64 32))], none, []⟩,
 ⟨some 12, .un .not (.tmp 11), none, []⟩,
 ⟨some 13, .mv (.tmp 12), none, []⟩,
 ⟨some 14, .fad 5 (.tmp 1), (some (some 13, false)), []⟩,
 ⟨some 15, .load1 (.tmp 14), (some (some 13, false)), []⟩,
 ⟨some 16, .len_ (.tmp 15), (some (some 13, false)), []⟩,
 ⟨some 17, .bin .gtr (.tmp 16) (.const (.int .i64 16)), (some (some 13, false)), []⟩,
 ⟨some 18, .pick (.tmp 13) (.const (.bool true)) (.tmp 17), none, []⟩] [9, 10, 11, 12, 13, 14, 15, 16, 17])
 (.cond (.tmp 18)
 (.seq
 (.region false [⟨some 2, .mv (.const (.int .i64 120)), none, []⟩] [])
 .ret)
 .skip))
 (.seq
 (.seq
 (.region false [⟨some 3, .mv (.const (.int .i64 0)), none, []⟩] [])
 (.block 0
 (.loop
 (.seq
 (.seq
 (.region false [⟨some 19, .mv (.tmp 3), none, []⟩,
 ⟨some 20, .bin .lss (.tmp 19) (.const (.int .i64 4)), none, []⟩] [19])
 (.cond (.tmp 20)
 .skip
 (.exit 0)))
 (.seq
 (.block 1
 (.seq
 (.seq
 (.region false [⟨some 23, .mv (.tmp 3), none, []⟩,
 ⟨some 24, .fad 1 (.tmp 1), none, []⟩,
 ⟨some 25, .iadA 4 1 (.tmp 24) (.tmp 23), none, []⟩,
 ⟨some 26, .load1 (.tmp 25), none, []⟩,
 ⟨some 27, .call (.func 79) [(.tmp 26), (.const (.int .i64 0)), (.const (.int .i64 4095))], none, []⟩,
 ⟨some 28, .un .not (.tmp 27), none, []⟩] [23, 24, 25, 26, 27])
 (.cond (.tmp 28)
 (.seq
 (.region false [⟨some 2, .mv (.const (.int .i64 120)), none, []⟩] [])
 .ret)
 .skip))
 (.seq
 (.region false [⟨some 4, .mv (.const (.int .i64 0)), none, []⟩] [])
 (.block 2
 (.loop
 (.seq
 (.seq
 (.region false [⟨some 29, .mv (.tmp 4), none, []⟩,
 ⟨some 30, .mv (.tmp 3), none, []⟩,
 ⟨some 31, .bin .lss (.tmp 29) (.tmp 30), none, []⟩] [29, 30])
 (.cond (.tmp 31)
 .skip
 (.exit 2)))
 (.seq
 (.block 3
 (.seq
 (.region true [⟨some 34, .mv (.tmp 3), none, []⟩,
 ⟨some 35, .fad 1 (.tmp 1), none, []⟩,
 ⟨some 36, .iadA 4 1 (.tmp 35) (.tmp 34), none, [1, 0]⟩,
 ⟨some 37, .load1 (.tmp 36), none, [2, 1, 0]⟩,
 ⟨some 38, .mv (.tmp 4), none, []⟩,
 ⟨some 39, .fad 1 (.tmp 1), none, []⟩,
 ⟨some 40, .iadA 4 1 (.tmp 39) (.tmp 38), none, [5, 4]⟩,
 ⟨some 41, .load1 (.tmp 40), none, [6, 5, 4]⟩,
 ⟨some 42, .bin .eql (.tmp 37) (.tmp 41), none, [3, 2, 1, 0, 7, 6, 5, 4]⟩] [34, 35, 36, 37, 38, 39, 40, 41])
 (.cond (.tmp 42)
 (.seq
 (.region false [⟨some 2, .mv (.const (.int .i64 120)), none, []⟩] [])
 .ret)
 .skip)))
 (.region false [⟨some 32, .mv (.tmp 4), none, []⟩,
 ⟨some 33, .bin .add (.tmp 32) (.const (.int .i64 1)), none, []⟩,
 ⟨some 4, .mv (.tmp 33), none, []⟩] [32, 33]))))))))
 (.region false [⟨some 21, .mv (.tmp 3), none, []⟩,
 ⟨some 22, .bin .add (.tmp 21) (.const (.int .i64 1)), none, []⟩,
 ⟨some 3, .mv (.tmp 22), none, []⟩] [21, 22]))))))
 (.seq
 (.seq
 (.region false [⟨some 5, .mv (.const (.int .i64 0)), none, []⟩] [])
 (.block 4
 (.loop
 (.seq
 (.seq
 (.region false [⟨some 43, .mv (.tmp 5), none, []⟩,
 ⟨some 44, .fad 5 (.tmp 1), none, []⟩,
 ⟨some 45, .load1 (.tmp 44), none, []⟩,
 ⟨some 46, .len_ (.tmp 45), none, []⟩,
 ⟨some 47, .bin .lss (.tmp 43) (.tmp 46), none, []⟩] [43, 44, 45, 46])
 (.cond (.tmp 47)
 .skip
 (.exit 4)))
 (.seq
 (.block 5
 (.seq
 (.region false [⟨some 50, .fad 5 (.tmp 1), none, []⟩,
 ⟨some 51, .load1 (.tmp 50), none, []⟩,
 ⟨some 52, .mv (.tmp 5), none, []⟩,
 ⟨some 53, .iadS 9 (.tmp 51) (.tmp 52), none, []⟩,
 ⟨some 54, .loadN 9 (.tmp 53), none, []⟩,
 ⟨some 6, .mem [(.val (.int .i64 0)), (.val (.int .i64 0)), (.val (.int .i64 0)), (.val (.bool false)), (.val (.int .i64 0)), (.val (.int .i64 0)), (.val (.int .i64 0)), (.val (.int .i64 0)), (.val (.int .i64 0))], none, []⟩,
 ⟨none, .store 9 (.tmp 6) (.tmp 54), none, []⟩] [50, 51, 52, 53, 54])
 (.seq
 (.seq
 (.region false [⟨some 55, .fad 0 (.tmp 6), none, []⟩,
 ⟨some 56, .load1 (.tmp 55), none, []⟩,
 ⟨some 57, .fad 0 (.tmp 1), none, []⟩,
 ⟨some 58, .load1 (.tmp 57), none, []⟩,
 ⟨some 59, .bin .sub (.tmp 58) (.const (.int .i64 1)), none, []⟩,
 ⟨some 60, .call (.func 79) [(.tmp 56), (.const (.int .i64 1)), (.tmp 59)], none, []⟩,
 ⟨some 61, .un .not (.tmp 60), none, []⟩,
 ⟨some 62, .mv (.tmp 61), none, []⟩,
 ⟨some 63, .fad 1 (.tmp 6), (some (some 62, false)), []⟩,
 ⟨some 64, .load1 (.tmp 63), (some (some 62, false)), []⟩,
 ⟨some 65, .call (.func 79) [(.tmp 64), (.const (.int .i64 0)), (.const (.int .i64 12))], (some (some 62, false)), []⟩,
 ⟨some 66, .un .not (.tmp 65), (some (some 62, false)), []⟩,
 ⟨some 67, .pick (.tmp 62) (.const (.bool true)) (.tmp 66), none, []⟩,
 ⟨some 68, .mv (.tmp 67), none, []⟩,
 ⟨some 69, .fad 2 (.tmp 6), (some (some 68, false)), []⟩,
 ⟨some 70, .load1 (.tmp 69), (some (some 68, false)), []⟩,
 ⟨some 71, .call (.func 79) [(.tmp 70), (.const (.int .i64 1)), (.const (.int .i64 12))], (some (some 68, false)), []⟩,
 ⟨some 72, .un .not (.tmp 71), (some (some 68, false)), []⟩,
 ⟨some 73, .pick (.tmp 68) (.const (.bool true)) (.tmp 72), none, []⟩,
 ⟨some 74, .mv (.tmp 73), none, []⟩,
 ⟨some 75, .fad 1 (.tmp 6), (some (some 74, false)), []⟩,
 ⟨some 76, .load1 (.tmp 75), (some (some 74, false)), []⟩,
 ⟨some 77, .fad 2 (.tmp 6), (some (some 74, false)), []⟩,
 ⟨some 78, .load1 (.tmp 77), (some (some 74, false)), []⟩,
 ⟨some 79, .bin .add (.tmp 76) (.tmp 78), (some (some 74, false)), []⟩,
 ⟨some 80, .bin .gtr (.tmp 79) (.const (.int .i64 12)), (some (some 74, false)), []⟩,
 ⟨some 81, .pick (.tmp 74) (.const (.bool true)) (.tmp 80), none, []⟩,
 ⟨some 82, .mv (.tmp 81), none, []⟩,
 ⟨some 83, .fad 4 (.tmp 6), (some (some 82, false)), []⟩,
 ⟨some 84, .load1 (.tmp 83), (some (some 82, false)), []⟩,
 ⟨some 85, .call (.func 79) [(.tmp 84), (.const (.int .i64 (-1000))), (.const (.int .i64 1000))], (some (some 82, false)), []⟩,
 ⟨some 86, .un .not (.tmp 85), (some (some 82, false)), []⟩,
 ⟨some 87, .pick (.tmp 82) (.const (.bool true)) (.tmp 86), none, []⟩,
 ⟨some 88, .mv (.tmp 87), none, []⟩,
 ⟨some 89, .fad 5 (.tmp 6), (some (some 88, false)), []⟩,
 ⟨some 90, .load1 (.tmp 89), (some (some 88, false)), []⟩,
 ⟨some 91, .call (.func 79) [(.tmp 90), (.const (.int .i64 1)), (.const (.int .i64 1000))], (some (some 88, false)), []⟩,
 ⟨some 92, .un .not (.tmp 91), (some (some 88, false)), []⟩,
 ⟨some 93, .pick (.tmp 88) (.const (.bool true)) (.tmp 92), none, []⟩,
 ⟨some 94, .mv (.tmp 93), none, []⟩,
 ⟨some 95, .fad 6 (.tmp 6), (some (some 94, false)), []⟩,
 ⟨some 96, .load1 (.tmp 95), (some (some 94, false)), []⟩,
 ⟨some 97, .call (.func 79) [(.tmp 96), (.const (.int .i64 (-1000000))), (.const (.int .i64 1000000))], (some (some 94, false)), []⟩,
 ⟨some 98, .un .not (.tmp 97), (some (some 94, false)), []⟩,
 ⟨some 99, .pick (.tmp 94) (.const (.bool true)) (.tmp 98), none, []⟩] [55, 56, 57, 58, 59, 60, 61, 62, 63, 64, 65, 66, 67, 68, 69, 70, 71, 72, 73, 74, 75, 76, 77, 78, 79, 80, 81, 82, 83, 84, 85, 86, 87, 88, 89, 90, 91, 92, 93, 94, 95, 96, 97, 98])
 (.cond (.tmp 99)
 (.seq
 (.region false [⟨some 2, .mv (.const (.int .i64 120)), none, []⟩] [])
 .ret)
 .skip))
 (.seq
 (.region false [⟨some 100, .fad 7 (.tmp 6), none, []⟩,
 ⟨some 101, .load1 (.tmp 100), none, []⟩,
 ⟨some 102, .bin .neq (.tmp 101) (.const (.int .i64 1)), none, []⟩,
 ⟨some 103, .mv (.tmp 102), none, []⟩,
 ⟨some 104, .fad 7 (.tmp 6), (some (some 103, true)), []⟩,
 ⟨some 105, .load1 (.tmp 104), (some (some 103, true)), []⟩,
 ⟨some 106, .bin .neq (.tmp 105) (.const (.int .i64 2)), (some (some 103, true)), []⟩,
 ⟨some 107, .pick (.tmp 103) (.tmp 106) (.const (.bool false)), none, []⟩,
 ⟨some 108, .mv (.tmp 107), none, []⟩,
 ⟨some 109, .fad 7 (.tmp 6), (some (some 108, true)), []⟩,
 ⟨some 110, .load1 (.tmp 109), (some (some 108, true)), []⟩,
 ⟨some 111, .bin .neq (.tmp 110) (.const (.int .i64 4)), (some (some 108, true)), []⟩,
 ⟨some 112, .pick (.tmp 108) (.tmp 111) (.const (.bool false)), none, []⟩,
 ⟨some 113, .mv (.tmp 112), none, []⟩,
 ⟨some 114, .fad 8 (.tmp 6), (some (some 113, false)), []⟩,
 ⟨some 115, .load1 (.tmp 114), (some (some 113, false)), []⟩,
 ⟨some 116, .fad 7 (.tmp 6), (some (some 113, false)), []⟩,
 ⟨some 117, .load1 (.tmp 116), (some (some 113, false)), []⟩,
 ⟨some 118, .bin .sub (.tmp 117) (.const (.int .i64 1)), (some (some 113, false)), []⟩,
 ⟨some 119, .call (.func 79) [(.tmp 115), (.const (.int .i64 0)), (.tmp 118)], (some (some 113, false)), []⟩,
 ⟨some 120, .un .not (.tmp 119), (some (some 113, false)), []⟩,
 ⟨some 121, .pick (.tmp 113) (.const (.bool true)) (.tmp 120), none, []⟩] [100, 101, 102, 103, 104, 105, 106, 107, 108, 109, 110, 111, 112, 113, 114, 115, 116, 117, 118, 119, 120])
 (.cond (.tmp 121)
 (.seq
 (.region false [⟨some 2, .mv (.const (.int .i64 120)), none, []⟩] [])
 .ret)
 .skip)))))
 (.region false [⟨some 48, .mv (.tmp 5), none, []⟩,
 ⟨some 49, .bin .add (.tmp 48) (.const (.int .i64 1)), none, []⟩,
 ⟨some 5, .mv (.tmp 49), none, []⟩] [48, 49]))))))
 (.seq
 (.seq
 (.region false [⟨some 7, .mv (.const (.int .i64 0)), none, []⟩] [])
 (.block 6
 (.loop
 (.seq
 (.seq
 (.region false [⟨some 122, .mv (.tmp 7), none, []⟩,
 ⟨some 123, .fad 5 (.tmp 1), none, []⟩,
 ⟨some 124, .load1 (.tmp 123), none, []⟩,
 ⟨some 125, .len_ (.tmp 124), none, []⟩,
 ⟨some 126, .bin .lss (.tmp 122) (.tmp 125), none, []⟩] [122, 123, 124, 125])
 (.cond (.tmp 126)
 .skip
 (.exit 6)))
 (.seq
 (.block 7
 (.seq
 (.region false [⟨some 8, .mv (.const (.int .i64 0)), none, []⟩] [])
 (.block 8
 (.loop
 (.seq
 (.seq
 (.region false [⟨some 129, .mv (.tmp 8), none, []⟩,
 ⟨some 130, .mv (.tmp 7), none, []⟩,
 ⟨some 131, .bin .lss (.tmp 129) (.tmp 130), none, []⟩] [129, 130])
 (.cond (.tmp 131)
 .skip
 (.exit 8)))
 (.seq
 (.block 9
 (.seq
 (.region true [⟨some 134, .fad 5 (.tmp 1), none, []⟩,
 ⟨some 135, .load1 (.tmp 134), none, [0]⟩,
 ⟨some 136, .mv (.tmp 7), none, []⟩,
 ⟨some 137, .iadS 9 (.tmp 135) (.tmp 136), none, [1, 0, 2]⟩,
 ⟨some 138, .loadN 9 (.tmp 137), none, [3, 1, 0, 2]⟩,
 ⟨some 139, .fad 5 (.tmp 1), none, []⟩,
 ⟨some 140, .load1 (.tmp 139), none, [5]⟩,
 ⟨some 141, .mv (.tmp 8), none, []⟩,
 ⟨some 142, .iadS 9 (.tmp 140) (.tmp 141), none, [6, 5, 7]⟩,
 ⟨some 143, .loadN 9 (.tmp 142), none, [8, 6, 5, 7]⟩,
 ⟨some 144, .call (.func 80) [(.tmp 138), (.tmp 143)], none, [4, 3, 1, 0, 2, 9, 8, 6, 5, 7]⟩] [134, 135, 136, 137, 138, 139, 140, 141, 142, 143])
 (.cond (.tmp 144)
 (.seq
 (.region false [⟨some 2, .mv (.const (.int .i64 120)), none, []⟩] [])
 .ret)
 .skip)))
 (.region false [⟨some 132, .mv (.tmp 8), none, []⟩,
 ⟨some 133, .bin .add (.tmp 132) (.const (.int .i64 1)), none, []⟩,
 ⟨some 8, .mv (.tmp 133), none, []⟩] [132, 133])))))))
 (.region false [⟨some 127, .mv (.tmp 7), none, []⟩,
 ⟨some 128, .bin .add (.tmp 127) (.const (.int .i64 1)), none, []⟩,
 ⟨some 7, .mv (.tmp 128), none, []⟩] [127, 128]))))))
 (.seq
 (.region false [⟨some 2, .mv (.const (.int .i64 0)), none, []⟩] [])
 .ret))))))
set_option maxRecDepth 100000 in
theorem kref12_Check : IsCode Try.prog 28 145 cref12_Check [.tmp 2] :=
 ⟨Try.f28, _, [144, 131, 126, 121, 99, 47, 42, 31, 28, 20, 18, 0, 1, 3, 4, 5, 6, 7, 8, 2], Try.func28, rfl, by decide, rfl, by kernel_rfl, by kernel_rfl⟩
def cref12_meet : ACode :=
 (.seq
 (.region false [⟨some 2, .box (.tmp 0), none, []⟩,
 ⟨some 3, .box (.tmp 1), none, []⟩,
 ⟨some 4, .mv (.const (.bool false)), none, []⟩] [])
 (.seq
 (.seq
 (.region false [⟨some 6, .fad 0 (.tmp 2), none, []⟩,
 ⟨some 7, .load1 (.tmp 6), none, []⟩,
 ⟨some 8, .fad 0 (.tmp 3), none, []⟩,
 ⟨some 9, .load1 (.tmp 8), none, []⟩,
 ⟨some 10, .bin .neq (.tmp 7) (.tmp 9), none, []⟩,
 ⟨some 11, .mv (.tmp 10), none, []⟩,
 ⟨some 12, .fad 1 (.tmp 2), (some (some 11, false)), []⟩,
 ⟨some 13, .load1 (.tmp 12), (some (some 11, false)), []⟩,
 ⟨some 14, .fad 1 (.tmp 3), (some (some 11, false)), []⟩,
 ⟨some 15, .load1 (.tmp 14), (some (some 11, false)), []⟩,
 ⟨some 16, .fad 2 (.tmp 3), (some (some 11, false)), []⟩,
 ⟨some 17, .load1 (.tmp 16), (some (some 11, false)), []⟩,
 ⟨some 18, .bin .add (.tmp 15) (.tmp 17), (some (some 11, false)), []⟩,
 ⟨some 19, .bin .geq (.tmp 13) (.tmp 18), (some (some 11, false)), []⟩,
 ⟨some 20, .pick (.tmp 11) (.const (.bool true)) (.tmp 19), none, []⟩,
 ⟨some 21, .mv (.tmp 20), none, []⟩,
 ⟨some 22, .fad 1 (.tmp 3), (some (some 21, false)), []⟩,
 ⟨some 23, .load1 (.tmp 22), (some (some 21, false)), []⟩,
 ⟨some 24, .fad 1 (.tmp 2), (some (some 21, false)), []⟩,
 ⟨some 25, .load1 (.tmp 24), (some (some 21, false)), []⟩,
 ⟨some 26, .fad 2 (.tmp 2), (some (some 21, false)), []⟩,
 ⟨some 27, .load1 (.tmp 26), (some (some 21, false)), []⟩,
 ⟨some 28, .bin .add (.tmp 25) (.tmp 27), (some (some 21, false)), []⟩,
 ⟨some 29, .bin .geq (.tmp 23) (.tmp 28), (some (some 21, false)), []⟩,
 ⟨some 30, .pick (.tmp 21) (.const (.bool true)) (.tmp 29), none, []⟩] [6, 7, 8, 9, 10, 11, 12, 13, 14, 15, 16, 17, 18, 19, 20, 21, 22, 23, 24, 25, 26, 27, 28, 29])
 (.cond (.tmp 30)
 (.seq
 (.region false [⟨some 4, .mv (.const (.bool false)), none, []⟩] [])
 .ret)
 .skip))
 (.seq
 (.seq
 (.region false [⟨some 5, .mv (.const (.int .i64 0)), none, []⟩] [])
 (.block 0
 (.loop
 (.seq
 (.seq
 (.region false [⟨some 31, .mv (.tmp 5), none, []⟩,
 ⟨some 32, .bin .lss (.tmp 31) (.const (.int .i64 4)), none, []⟩] [31])
 (.cond (.tmp 32)
 .skip
 (.exit 0)))
 (.seq
 (.block 1
 (.seq
 (.region true [⟨some 35, .mv (.tmp 5), none, []⟩,
 ⟨some 36, .fad 7 (.tmp 2), none, []⟩,
 ⟨some 37, .load1 (.tmp 36), none, [1]⟩,
 ⟨some 38, .bin .rem (.tmp 35) (.tmp 37), none, [0, 2, 1]⟩,
 ⟨some 39, .fad 8 (.tmp 2), none, []⟩,
 ⟨some 40, .load1 (.tmp 39), none, [4]⟩,
 ⟨some 41, .bin .eql (.tmp 38) (.tmp 40), none, [3, 0, 2, 1, 5, 4]⟩,
 ⟨some 42, .mv (.tmp 41), none, [6, 3, 0, 2, 1, 5, 4]⟩,
 ⟨some 43, .mv (.tmp 5), (some (some 42, true)), [7, 6, 3, 0, 2, 1, 5, 4]⟩,
 ⟨some 44, .fad 7 (.tmp 3), (some (some 42, true)), [7, 6, 3, 0, 2, 1, 5, 4]⟩,
 ⟨some 45, .load1 (.tmp 44), (some (some 42, true)), [9, 7, 6, 3, 0, 2, 1, 5, 4]⟩,
 ⟨some 46, .bin .rem (.tmp 43) (.tmp 45), (some (some 42, true)), [8, 7, 6, 3, 0, 2, 1, 5, 4, 10, 9]⟩,
 ⟨some 47, .fad 8 (.tmp 3), (some (some 42, true)), [7, 6, 3, 0, 2, 1, 5, 4]⟩,
 ⟨some 48, .load1 (.tmp 47), (some (some 42, true)), [12, 7, 6, 3, 0, 2, 1, 5, 4]⟩,
 ⟨some 49, .bin .eql (.tmp 46) (.tmp 48), (some (some 42, true)), [11, 8, 7, 6, 3, 0, 2, 1, 5, 4, 10, 9, 13, 12]⟩,
 ⟨some 50, .pick (.tmp 42) (.tmp 49) (.const (.bool false)), none, [7, 6, 3, 0, 2, 1, 5, 4, 14, 11, 8, 10, 9, 13, 12]⟩] [35, 36, 37, 38, 39, 40, 41, 42, 43, 44, 45, 46, 47, 48, 49])
 (.cond (.tmp 50)
 (.seq
 (.region false [⟨some 4, .mv (.const (.bool true)), none, []⟩] [])
 .ret)
 .skip)))
 (.region false [⟨some 33, .mv (.tmp 5), none, []⟩,
 ⟨some 34, .bin .add (.tmp 33) (.const (.int .i64 1)), none, []⟩,
 ⟨some 5, .mv (.tmp 34), none, []⟩] [33, 34]))))))
 (.seq
 (.region false [⟨some 4, .mv (.const (.bool false)), none, []⟩] [])
 .ret))))
set_option maxRecDepth 100000 in
theorem kref12_meet : IsCode Try.prog 80 51 cref12_meet [.tmp 4] :=
 ⟨Try.f80, _, [50, 32, 30, 0, 1, 2, 3, 5, 4], Try.func80, rfl, by decide, rfl, by kernel_rfl, by kernel_rfl⟩
end Go.Proofs.Ytdcodicoclecnaa
/- record: the check of a layout. No conditions. -/
namespace Go.Proofs.Ytdcodicoclecnaa
open Go.RowKit Lift

structure LayIn (l : Lay) : Prop where
  nf : l.fl.length ≤ maxLen
  sz : ∀ k, k < l.fl.length → (fAt l k).size ≤ 9223372036854775807
theorem sync_no (l : Lay) (k : Nat) (hk : k < 4) (h : wI ((sync l)[k]?.getD 0) 0 4095 = false ∨ (sync l)[k]?.getD 0 ∈ (sync l).take k) : ¬ LayOk l := by
  intro ho
  rcases h with h | h
  · have := ho.sy k hk
    have := wI_f h
    omega
  · obtain ⟨j, hj, he⟩ := List.getElem_of_mem h
    have hjk : j < k := by simp at hj; omega
    refine ho.sd k hk j hjk ?_
    rw [List.getElem_take] at he
    have hj4 : j < (sync l).length := by simp [sync]; omega
    simp [hj4, he]
def SyncOk (l : Lay) (k : Nat) : Prop := ∀ j, j < k → (0 ≤ (sync l)[j]?.getD 0 ∧ (sync l)[j]?.getD 0 ≤ 4095) ∧ ∀ i, i < j → (sync l)[j]?.getD 0 ≠ (sync l)[i]?.getD 0
theorem sync_step {l : Lay} {k : Nat} (hk : k < 4) (h : SyncOk l k) (h1 : wI ((sync l)[k]?.getD 0) 0 4095 = true) (h2 : (sync l)[k]?.getD 0 ∉ (sync l).take k) : SyncOk l (k + 1) := by
  intro j hj
  rcases (by omega : j < k ∨ j = k) with h' | rfl
  · exact h j h'
  · refine ⟨wI_t h1, fun i hi he => h2 ?_⟩
    have hi4 : i < (sync l).length := by simp [sync]; omega
    have : (sync l)[i] ∈ (sync l).take j := by
      rw [List.mem_take_iff_getElem]
      exact ⟨i, by omega, rfl⟩
    rw [he]; simpa [hi4] using this
theorem sync_view (l : Lay) (k : Nat) (hk : k ≤ 4) {H : Heap} (hH : H 0 = some (layC l)) : Vw H [0] (.own 0 1 k 1) (.list (ints ((sync l).take k))) := by
  refine own_ints ((sync l).take k) (by simp) hH (by simp [sync]; omega) (by simp [layC]; omega) ?_ (layC_in l)
  have : (layC l).drop 1 = [dI l.s0, dI l.s1, dI l.s2, dI l.s3] ++ [.list (fls l.fl)] := rfl
  rw [this, List.take_append_of_le_length (by simp; omega)]
  unfold icells sync
  rw [List.map_take]; rfl
def UsdOk (l : Lay) (s : Int) (k : Nat) : Prop := ∀ i, i < k → ∀ j, j < i → inSub (fAt l i) s → inSub (fAt l j) s → ¬ Ovl (fAt l i) (fAt l j)
end Go.Proofs.Ytdcodicoclecnaa
/- record: the check of a layout, walked. No conditions. -/
namespace Go.Proofs.Ytdcodicoclecnaa
open Go.RowKit Lift

set_option maxRecDepth 100000 in
set_option maxHeartbeats 8000000 in
theorem check_ac (l : Lay) (hl : LayIn l) : AC Try.prog 27 [layD l] [] [] (dI (layE l 120)) := by
  refine krecord_Check.ac (n0 := 0) (by simp) ⟨in_layD _ _, trivial⟩ trivial rfl ?_
  unfold crecord_Check layD layC
  have hmax : maxLen = 9223372036854775807 := rfl
  have hnf := hl.nf
  cases h1 : wI l.words 2 32 with
  | false =>
    have e : layE l 120 = 120 := layE_no fun h => by have := wI_f h1; have := h.w1; have := h.w2; omega
    rw [e]
    (repeat' (first | (with_reducible first | refine thenQ_n ?_ | refine blockQ_n ?_ | refine thenQ_e ?_ | refine blockQ_t ?_ | refine blockQ_f (by decide) ?_) | apply aw_seq | apply aw_skip | apply aw_exit | apply aw_ret | apply aw_block | apply aw_condT rfl | apply aw_condF rfl | ((first | refine aw_hide fun K hK => aw_region ?_ | refine acall0 (within_ac _ _ _) ?_ | refine ago_if (by omega) ?_ | skip); simp (disch := first | exact okY | omega) only [List.length, Nat.zero_add, Nat.reduceAdd, Nat.reduceMul, envOf, dI, ARun_none, AOpRun, aexec, D.isBot, FSt.ev, St.F, ↓eget_h, Bool.false_eq_true, Option.isSome, hget_n, or_self, ↓reduceIte, D.cells, AGo_ok, St.app, putO, eput_c, Nat.reduceBEq, eput_n, cond_false, hups, hput_n, List.map, ARun_nil, dropE_c, inL_n, dropE_n, eget_c, Option.map, run1, hget_c, beq_self_eq_true, cond_true, List.getElem?_cons_zero, dB, h1, Bool.not_false, ARun_some, AG_tf, inL_c, thenQ]) | subst hK))
    all_goals (refine end_q [] [] ?_ ?_ <;> repeat' (first | exact trivial | exact vr_val _))
  | true =>
  have w1 := wI_t h1
  by_cases h2 : l.fl.length ≤ 16
  case neg =>
    have e : layE l 120 = 120 := layE_no fun h => h2 h.nf
    have q : decide ((l.fl.length : Int) > 16) = true := decide_eq_true (by omega)
    rw [e]
    (repeat' (first | (with_reducible first | refine thenQ_n ?_ | refine blockQ_n ?_ | refine thenQ_e ?_ | refine blockQ_t ?_ | refine blockQ_f (by decide) ?_) | apply aw_seq | apply aw_skip | apply aw_exit | apply aw_ret | apply aw_block | apply aw_condT rfl | apply aw_condF rfl | ((first | refine aw_hide fun K hK => aw_region ?_ | refine acall0 (within_ac _ _ _) ?_ | refine ago_if (by omega) ?_ | skip); simp (disch := first | exact okY | omega) only [List.length, Nat.zero_add, Nat.reduceAdd, Nat.reduceMul, envOf, dI, ARun_none, AOpRun, aexec, D.isBot, FSt.ev, St.F, ↓eget_h, Bool.false_eq_true, Option.isSome, hget_n, or_self, ↓reduceIte, D.cells, AGo_ok, St.app, putO, eput_c, Nat.reduceBEq, eput_n, cond_false, hups, hput_n, List.map, ARun_nil, dropE_c, inL_n, dropE_n, eget_c, Option.map, run1, hget_c, beq_self_eq_true, cond_true, List.getElem?_cons_zero, dB, h1, Bool.not_true, ARun_some, AG_ff, List.getElem?_cons_succ, fls_len, isSh, abin, q, inL_c, thenQ]) | subst hK))
    all_goals (refine end_q [] [] ?_ ?_ <;> repeat' (first | exact trivial | exact vr_val _))
  have q2 : decide ((l.fl.length : Int) > 16) = false := decide_eq_false (by omega)
  (repeat' (first | (with_reducible first | refine thenQ_n ?_ | refine blockQ_n ?_ | refine thenQ_e ?_ | refine blockQ_t ?_ | refine blockQ_f (by decide) ?_) | apply aw_seq | apply aw_skip | apply aw_exit | apply aw_ret | apply aw_block | apply aw_condT rfl | apply aw_condF rfl | ((first | refine aw_hide fun K hK => aw_region ?_ | refine acall0 (within_ac _ _ _) ?_ | refine ago_if (by omega) ?_ | skip); simp (disch := first | exact okY | omega) only [List.length, Nat.zero_add, Nat.reduceAdd, Nat.reduceMul, envOf, dI, ARun_none, AOpRun, aexec, D.isBot, FSt.ev, St.F, ↓eget_h, Bool.false_eq_true, Option.isSome, hget_n, or_self, ↓reduceIte, D.cells, AGo_ok, St.app, putO, eput_c, Nat.reduceBEq, eput_n, cond_false, hups, hput_n, List.map, ARun_nil, dropE_c, inL_n, dropE_n, eget_c, Option.map, run1, hget_c, beq_self_eq_true, cond_true, List.getElem?_cons_zero, dB, h1, Bool.not_true, ARun_some, AG_ff, List.getElem?_cons_succ, fls_len, isSh, abin, q2, inL_c, Nat.reduceLeDiff, List.drop, List.take]) | subst hK))
  refine aw_loop (fun k : Nat => ⟨[(1, .ptr 0 0), (23, .agg [dI l.s0, dI l.s1, dI l.s2, dI l.s3]), (24, dI k)], [(0, layC l)], 100⟩) (fun k => k ≤ 4 ∧ SyncOk l k) (fun k => 4 - k) ⟨0, ⟨by omega, fun j hj => by omega⟩, ?_⟩ ?_
  · refine wk_q [] [(0, 0)] ?_ ?_ <;> repeat' (first | exact trivial | exact vr_val _ | exact vr_list _ | exact vr_ptr _ _ _ rfl | apply vr_agg | refine And.intro ⟨_, rfl, .inl ⟨_, rfl, by decide, ?_⟩⟩ ?_ | apply And.intro)
  rintro k ⟨hk, hin⟩
  by_cases hk4 : k < 4
  · have vw := sync_view l k (by omega) (H := hget [(0, layC l)]) rfl
    have hcn := contains_ac ((sync l).take k) ((sync l)[k]?.getD 0) (by simp [sync]; omega)
    have hno := sync_no l k hk4
    have hst := sync_step hk4 hin
    have mm : (0 ≤ idxI ((sync l).take k) ((sync l)[k]?.getD 0)) ↔ (sync l)[k]?.getD 0 ∈ (sync l).take k := idx_mem
    obtain ⟨x, hx⟩ : ∃ x, (sync l)[k]?.getD 0 = x := ⟨_, rfl⟩
    have gx : ([.val (.int .i64 l.s0), .val (.int .i64 l.s1), .val (.int .i64 l.s2), .val (.int .i64 l.s3)] : List D)[k]? = some (.val (.int .i64 x)) := by
      have : ([.val (.int .i64 l.s0), .val (.int .i64 l.s1), .val (.int .i64 l.s2), .val (.int .i64 l.s3)] : List D) = (sync l).map dI := rfl
      have hk' : k < (sync l).length := by simp [sync]; omega
      rw [this, ← hx]; simp [hk', dI]
    rw [hx] at hno hst hcn mm
    obtain ⟨c, hc⟩ : ∃ c, decide (0 ≤ idxI ((sync l).take k) x) = c := ⟨_, rfl⟩
    rw [hc] at hcn
    have ki : (k : Int) < 4 := by omega
    have ki4 : (k : Int) ≤ 4 := by omega
    have l6 : (layC l).length = 6 := rfl
    cases hw : wI x 0 4095 with
    | false =>
      have e : layE l 120 = 120 := layE_no (hno (.inl hw))
      rw [e]
      (repeat' (first | apply aw_seq | ((first | apply aw_skip | apply aw_exit); try simp only [thenQ, blockQ, if_true, if_false, Nat.reduceEqDiff, reduceCtorEq]) | apply aw_ret | apply aw_block | apply aw_condT rfl | apply aw_condF rfl | ((first | refine aw_region ?_ | refine acall0 (within_ac _ _ _) ?_ | refine ago_if (by omega) ?_ | skip); simp (disch := first | exact okY | omega) only [thenQ, dI, List.length, Nat.zero_add, Nat.mul_one, Nat.reduceAdd, ARun_none, AOpRun, aexec, FSt.ev, St.F, eget_c, Nat.reduceBEq, ↓eget_h, cond_false, isSh, Bool.false_eq_true, ↓reduceIte, Option.map, abin, ki, decide_true, AGo_ok, St.app, putO, eput_c, eput_n, hups, List.map, ARun_nil, dropE_c, inL_n, dropE_n, Nat.reduceMul, D.isAgg, Int.natCast_nonneg, cast_lit, and_self, opt1, D.cells, Int.toNat_natCast, gx, inL_c, beq_self_eq_true, cond_true, dB, hw, Bool.not_false, ARun_some, AG_tf, blockQ])))
      all_goals (refine end_q [] [] ?_ ?_ <;> repeat' (first | exact trivial | exact vr_val _))
    | true =>
      cases c with
      | true =>
        have e : layE l 120 = 120 := layE_no (hno (.inr (mm.1 (of_decide_eq_true hc))))
        rw [e]
        (repeat' (first | apply aw_seq | ((first | apply aw_skip | apply aw_exit); try simp only [thenQ, blockQ, if_true, if_false, Nat.reduceEqDiff, reduceCtorEq]) | apply aw_ret | apply aw_block | apply aw_condT rfl | apply aw_condF rfl | ((first | refine aw_region ?_ | refine acall0 (within_ac _ _ _) ?_ | refine acall (hcn) [0] ⟨vw, .refl _, trivial⟩ (.inr (.val _)) (by simp only [List.mem_cons, List.not_mem_nil, or_false, forall_eq_or_imp, forall_eq]; first | exact ⟨_, rfl⟩ | exact ⟨⟨_, rfl⟩, ⟨_, rfl⟩⟩) (by kernel_rfl) ?_ | refine ago_if (by omega) ?_ | skip); simp (disch := first | exact okY | omega) only [thenQ, dI, List.length, Nat.zero_add, Nat.mul_one, Nat.reduceAdd, ARun_none, AOpRun, aexec, FSt.ev, St.F, eget_c, Nat.reduceBEq, ↓eget_h, cond_false, isSh, Bool.false_eq_true, ↓reduceIte, Option.map, abin, ki, decide_true, AGo_ok, St.app, putO, eput_c, eput_n, hups, List.map, ARun_nil, dropE_c, inL_n, dropE_n, Nat.reduceMul, D.isAgg, Int.natCast_nonneg, cast_lit, and_self, opt1, D.cells, Int.toNat_natCast, gx, inL_c, beq_self_eq_true, cond_true, dB, hw, Bool.not_true, ARun_some, AG_ff, asI, hget_c, hget_n, Int.le_refl, ki4, l6, Nat.reduceLeDiff, true_or, Int.toNat_zero, Int.sub_zero, blockQ])))
        all_goals (refine end_q [] [] ?_ ?_ <;> repeat' (first | exact trivial | exact vr_val _))
      | false =>
        (repeat' (first | apply aw_seq | ((first | apply aw_skip | apply aw_exit); try simp only [thenQ, blockQ, if_true, if_false, Nat.reduceEqDiff, reduceCtorEq]) | apply aw_ret | apply aw_block | apply aw_condT rfl | apply aw_condF rfl | ((first | refine aw_region ?_ | refine acall0 (within_ac _ _ _) ?_ | refine acall (hcn) [0] ⟨vw, .refl _, trivial⟩ (.inr (.val _)) (by simp only [List.mem_cons, List.not_mem_nil, or_false, forall_eq_or_imp, forall_eq]; first | exact ⟨_, rfl⟩ | exact ⟨⟨_, rfl⟩, ⟨_, rfl⟩⟩) (by kernel_rfl) ?_ | refine ago_if (by omega) ?_ | skip); simp (disch := first | exact okY | omega) only [thenQ, dI, List.length, Nat.zero_add, Nat.mul_one, Nat.reduceAdd, ARun_none, AOpRun, aexec, FSt.ev, St.F, eget_c, Nat.reduceBEq, ↓eget_h, cond_false, isSh, Bool.false_eq_true, ↓reduceIte, Option.map, abin, ki, decide_true, AGo_ok, St.app, putO, eput_c, eput_n, hups, List.map, ARun_nil, dropE_c, inL_n, dropE_n, Nat.reduceMul, D.isAgg, Int.natCast_nonneg, cast_lit, and_self, opt1, D.cells, Int.toNat_natCast, gx, inL_c, beq_self_eq_true, cond_true, dB, hw, Bool.not_true, ARun_some, AG_ff, asI, hget_c, hget_n, Int.le_refl, ki4, l6, Nat.reduceLeDiff, true_or, Int.toNat_zero, Int.sub_zero, fits])))
        refine ⟨k + 1, ⟨by omega, hst hw fun h => of_decide_eq_false hc (mm.2 h)⟩, by omega, ?_⟩
        refine wk_q [] [(0, 0)] ?_ ?_ <;> repeat' (first | exact trivial | exact vr_val _ | exact vr_list _ | exact vr_ptr _ _ _ rfl | apply vr_agg | refine And.intro ⟨_, rfl, .inl ⟨_, rfl, by decide, ?_⟩⟩ ?_ | apply And.intro)
  obtain rfl : k = 4 := by omega
  have cF : ∀ k, k < l.fl.length → (fls l.fl)[k]? = some (flC (fAt l k)) := fun k h => fls_gd l.fl k h
  (repeat' (first | (with_reducible first | refine thenQ_n ?_ | refine blockQ_n ?_ | refine thenQ_e ?_ | refine blockQ_t ?_ | refine blockQ_f (by decide) ?_) | apply aw_seq | apply aw_skip | apply aw_exit | apply aw_ret | apply aw_block | apply aw_condT rfl | apply aw_condF rfl | ((first | refine aw_hide fun K hK => aw_region ?_ | refine ago_if (by omega) ?_ | skip); simp (disch := first | exact okY | omega) only [List.length, Nat.zero_add, Nat.reduceMul, Nat.reduceAdd, dI, cast_lit, layC, ARun_none, AOpRun, aexec, FSt.ev, St.F, eget_c, Nat.reduceBEq, ↓eget_h, cond_false, isSh, Bool.false_eq_true, ↓reduceIte, Option.map, abin, Int.reduceLT, decide_false, AGo_ok, St.app, putO, eput_c, eput_n, hups, List.map, ARun_nil, dropE_c, inL_n, dropE_n, run1, hget_c, beq_self_eq_true, hget_n, cond_true, List.getElem?_cons_succ, List.getElem?_cons_zero, fls_len, inL_c]) | subst hK))
  refine aw_loop (fun k : Nat => ⟨[(1, .ptr 0 0), (40, .list (fls l.fl)), (41, dI l.fl.length), (42, dI k)], [(0, [dI l.words, dI l.s0, dI l.s1, dI l.s2, dI l.s3, .list (fls l.fl)])], 100⟩) (fun k => k ≤ l.fl.length ∧ ∀ j, j < k → FOk l.words (fAt l j)) (fun k => l.fl.length - k) ⟨0, ⟨by omega, fun j hj => by omega⟩, ?_⟩ ?_
  · refine wk_q [] [(0, 0)] ?_ ?_ <;> repeat' (first | exact trivial | exact vr_val _ | exact vr_list _ | exact vr_ptr _ _ _ rfl | refine And.intro ⟨_, rfl, .inl ⟨_, rfl, by decide, ?_⟩⟩ ?_ | apply And.intro)
  · rintro k ⟨hk, hfo⟩
    by_cases hk2 : k < l.fl.length
    · have g1 := cF k hk2
      have va := valid_ac l.words (fAt l k) w1 (hl.sz k hk2)
      cases hv : fokB l.words (fAt l k) with
      | false =>
        have e : layE l 120 = 120 := layE_no fun h => by
          have := fok_iff.2 (h.fo k hk2)
          rw [show l.fl[k]?.getD fl0 = fAt l k from rfl, hv] at this
          cases this
        rw [e]
        rw [hv] at va
        (have hg : (987654321 : Nat) - 987654321 = 0 := rfl; have hr := hg; repeat' (first | apply aw_seq | ((first | apply aw_skip | apply aw_exit); try simp only [thenQ, blockQ, if_true, if_false, Nat.reduceEqDiff, reduceCtorEq]) | apply aw_ret | apply aw_block | apply aw_condT rfl | apply aw_condF rfl | (refine aw_cond rfl (fun hg => ?_) (fun hg => ?_) <;> (try (have hq := hg; simp only [Bool.not_eq_true', Bool.not_eq_false', Bool.and_eq_true, Bool.and_eq_false_iff, Bool.or_eq_true, Bool.or_eq_false_iff, decide_eq_true_eq, decide_eq_false_iff_not, bne_iff_ne, beq_iff_eq, beq_eq_false_iff_ne, bne_eq_false_iff_eq, ne_eq, Int.not_lt, Int.not_le, Decidable.not_not] at hq)) <;> (try (have hr := hg; simp only [decide_eq_true_eq, decide_eq_false_iff_not] at hr)) <;> (try (exfalso; omega))) | ((first | refine aw_region ?_ | refine acall0 (va) ?_ | refine ago_if (by omega) ?_ | skip); simp (disch := first | exact okY | omega) only [thenQ, dI, List.length, Nat.zero_add, Nat.mul_one, Nat.reduceAdd, ARun_none, AOpRun, aexec, FSt.ev, St.F, eget_c, Nat.reduceBEq, ↓eget_h, cond_false, isSh, Bool.false_eq_true, ↓reduceIte, Option.map, abin, AGo_ok, St.app, putO, eput_c, eput_n, hups, List.map, ARun_nil, dropE_c, inL_n, dropE_n, Nat.reduceMul, hr, decide_true, Int.natCast_nonneg, fls_all, and_self, opt1, Int.toNat_natCast, g1, flC, dB, Nat.reduceLeDiff, List.take, Option.isSome, hget_c, hget_n, hput_c, hput_n, ↓hget_h, D.isBot, D.cells, List.all, D.leaf, Bool.and_true, splice, List.nil_append, List.drop, List.append_nil, beq_self_eq_true, cond_true, inL_c, fillD, ne_eq, not_true_eq_false, Nat.reduceGT, or_self, run1, List.getElem?_cons_zero, Bool.not_false, blockQ])))
        all_goals (refine end_q [] [] ?_ ?_ <;> repeat' (first | exact trivial | exact vr_val _))
      | true =>
        rw [hv] at va
        (have hg : (987654321 : Nat) - 987654321 = 0 := rfl; have hr := hg; repeat' (first | apply aw_seq | ((first | apply aw_skip | apply aw_exit); try simp only [thenQ, blockQ, if_true, if_false, Nat.reduceEqDiff, reduceCtorEq]) | apply aw_ret | apply aw_block | apply aw_condT rfl | apply aw_condF rfl | (refine aw_cond rfl (fun hg => ?_) (fun hg => ?_) <;> (try (have hq := hg; simp only [Bool.not_eq_true', Bool.not_eq_false', Bool.and_eq_true, Bool.and_eq_false_iff, Bool.or_eq_true, Bool.or_eq_false_iff, decide_eq_true_eq, decide_eq_false_iff_not, bne_iff_ne, beq_iff_eq, beq_eq_false_iff_ne, bne_eq_false_iff_eq, ne_eq, Int.not_lt, Int.not_le, Decidable.not_not] at hq)) <;> (try (have hr := hg; simp only [decide_eq_true_eq, decide_eq_false_iff_not] at hr)) <;> (try (exfalso; omega))) | ((first | refine aw_region ?_ | refine acall0 (va) ?_ | refine ago_if (by omega) ?_ | skip); simp (disch := first | exact okY | omega) only [thenQ, dI, List.length, Nat.zero_add, Nat.mul_one, Nat.reduceAdd, ARun_none, AOpRun, aexec, FSt.ev, St.F, eget_c, Nat.reduceBEq, ↓eget_h, cond_false, isSh, Bool.false_eq_true, ↓reduceIte, Option.map, abin, AGo_ok, St.app, putO, eput_c, eput_n, hups, List.map, ARun_nil, dropE_c, inL_n, dropE_n, Nat.reduceMul, hr, decide_true, Int.natCast_nonneg, fls_all, and_self, opt1, Int.toNat_natCast, g1, flC, dB, Nat.reduceLeDiff, List.take, Option.isSome, hget_c, hget_n, hput_c, hput_n, ↓hget_h, D.isBot, D.cells, List.all, D.leaf, Bool.and_true, splice, List.nil_append, List.drop, List.append_nil, beq_self_eq_true, cond_true, inL_c, fillD, ne_eq, not_true_eq_false, Nat.reduceGT, or_self, run1, List.getElem?_cons_zero, Bool.not_true, fits])))
        refine ⟨k + 1, ⟨by omega, fun j hj => ?_⟩, by omega, ?_⟩
        · rcases (by omega : j < k ∨ j = k) with h | rfl
          · exact hfo j h
          · exact fok_iff.1 hv
        · refine wk_q [] [(0, 0)] ?_ ?_ <;> repeat' (first | exact trivial | exact vr_val _ | exact vr_list _ | exact vr_ptr _ _ _ rfl | refine And.intro ⟨_, rfl, .inl ⟨_, rfl, by decide, ?_⟩⟩ ?_ | apply And.intro)
    · obtain rfl : k = l.fl.length := by omega
      have hF : ∀ j, j < l.fl.length → FOk l.words (fAt l j) := hfo
      (have hg : (987654321 : Nat) - 987654321 = 0 := rfl; have hr := hg; repeat' (first | (with_reducible first | refine thenQ_n ?_ | refine blockQ_n ?_ | refine thenQ_e ?_ | refine blockQ_t ?_ | refine blockQ_f (by decide) ?_) | apply aw_seq | apply aw_skip | apply aw_exit | apply aw_ret | apply aw_block | apply aw_condT rfl | apply aw_condF rfl | (refine aw_cond rfl (fun hg => ?_) (fun hg => ?_) <;> (try (have hq := hg; simp only [Bool.not_eq_true', Bool.not_eq_false', Bool.and_eq_true, Bool.and_eq_false_iff, Bool.or_eq_true, Bool.or_eq_false_iff, decide_eq_true_eq, decide_eq_false_iff_not, bne_iff_ne, beq_iff_eq, beq_eq_false_iff_ne, bne_eq_false_iff_eq, ne_eq, Int.not_lt, Int.not_le, Decidable.not_not] at hq)) <;> (try (have hr := hg; simp only [decide_eq_true_eq, decide_eq_false_iff_not] at hr)) <;> (try (exfalso; omega))) | ((first | refine aw_hide fun K hK => aw_region ?_ | refine ago_if (by omega) ?_ | skip); simp (disch := first | exact okY | omega) only [List.length, Nat.zero_add, Nat.reduceMul, Nat.reduceAdd, dI, ARun_none, AOpRun, aexec, FSt.ev, St.F, eget_c, Nat.reduceBEq, ↓eget_h, cond_false, isSh, Bool.false_eq_true, ↓reduceIte, Option.map, abin, AGo_ok, St.app, putO, eput_c, eput_n, hups, List.map, ARun_nil, dropE_c, inL_n, dropE_n, hr, decide_false]) | subst hK))
      refine aw_loop (fun s : Nat => ⟨[(1, .ptr 0 0), (53, dI s)], [(0, [dI l.words, dI l.s0, dI l.s1, dI l.s2, dI l.s3, .list (fls l.fl)])], 100⟩) (fun s => s ≤ 4 ∧ ∀ t : Nat, t < s → UsdOk l t l.fl.length) (fun s => 4 - s) ⟨0, ⟨by omega, fun j hj => by omega⟩, ?_⟩ ?_
      · refine wk_q [] [(0, 0)] ?_ ?_ <;> repeat' (first | exact trivial | exact vr_val _ | exact vr_list _ | exact vr_ptr _ _ _ rfl | refine And.intro ⟨_, rfl, .inl ⟨_, rfl, by decide, ?_⟩⟩ ?_ | apply And.intro)
      rintro s ⟨hs, hus⟩
      by_cases hs4 : s < 4
      case neg =>
        obtain rfl : s = 4 := by omega
        have e : layE l 120 = 0 := layE_ok ⟨w1.1, w1.2, h2, fun k hk => (hin k hk).1, fun i hi k hk => (hin i hi).2 k hk, hF, fun i hi k hk s hs h3 h4 => hus s hs i hi k hk h3 h4⟩
        rw [e]
        (repeat' (first | (with_reducible first | refine thenQ_n ?_ | refine blockQ_n ?_ | refine thenQ_e ?_ | refine blockQ_t ?_ | refine blockQ_f (by decide) ?_) | apply aw_seq | apply aw_skip | apply aw_exit | apply aw_ret | apply aw_block | apply aw_condT rfl | apply aw_condF rfl | ((first | refine aw_hide fun K hK => aw_region ?_ | refine ago_if (by omega) ?_ | skip); simp (disch := first | exact okY | omega) only [List.length, Nat.zero_add, Nat.reduceMul, Nat.reduceAdd, dI, cast_lit, ARun_none, AOpRun, aexec, FSt.ev, St.F, eget_c, Nat.reduceBEq, ↓eget_h, cond_false, isSh, Bool.false_eq_true, ↓reduceIte, Option.map, abin, Int.reduceLT, decide_false, AGo_ok, St.app, putO, eput_c, eput_n, hups, List.map, ARun_nil, dropE_c, inL_n, dropE_n]) | subst hK))
        all_goals (refine end_q [] [] ?_ ?_ <;> repeat' (first | exact trivial | exact vr_val _))
      have ki : (s : Int) < 4 := by omega
      have hrep : (List.replicate l.words.toNat [D.val (.int .i64 0)]).flatten = icells (usd s l 0) := by rw [rep_ic, usd_zero]
      (repeat' (first | (with_reducible first | refine thenQ_n ?_ | refine blockQ_n ?_ | refine thenQ_e ?_ | refine blockQ_t ?_ | refine blockQ_f (by decide) ?_) | apply aw_seq | apply aw_skip | apply aw_exit | apply aw_ret | apply aw_block | apply aw_condT rfl | apply aw_condF rfl | ((first | refine aw_hide fun K hK => aw_region ?_ | refine ago_if (by omega) ?_ | skip); simp (disch := first | exact okY | omega) only [List.length, Nat.zero_add, Nat.reduceMul, Nat.reduceAdd, dI, ARun_none, AOpRun, aexec, FSt.ev, St.F, eget_c, Nat.reduceBEq, ↓eget_h, cond_false, isSh, Bool.false_eq_true, ↓reduceIte, Option.map, abin, ki, decide_true, AGo_ok, St.app, putO, eput_c, eput_n, hups, List.map, ARun_nil, dropE_c, inL_n, dropE_n, inL_c, beq_self_eq_true, cond_true, run1, hget_c, hget_n, List.getElem?_cons_zero, cast_lit, Option.isSome, and_true, true_and, hrep, hput_c, hput_n, List.getElem?_cons_succ, fls_len]) | subst hK))
      refine aw_loop (fun k : Nat => ⟨[(1, .ptr 0 0), (7, dI s), (8, .vec 200 l.words.toNat 1), (53, dI s), (60, .list (fls l.fl)), (61, dI l.fl.length), (62, dI k)], [(0, [dI l.words, dI l.s0, dI l.s1, dI l.s2, dI l.s3, .list (fls l.fl)]), (200, icells (usd s l k))], 300⟩) (fun k => k ≤ l.fl.length ∧ UsdOk l s k) (fun k => l.fl.length - k) ⟨0, ⟨by omega, fun i hi => by omega⟩, ?_⟩ ?_
      · refine wk_q [] [(0, 0), (200, 140)] ?_ ?_ <;> repeat' (first | exact trivial | exact vr_val _ | exact vr_list _ | exact vr_vec _ _ _ _ rfl | exact vr_ptr _ _ _ rfl | refine And.intro ⟨_, rfl, .inl ⟨_, rfl, by decide, ?_⟩⟩ ?_ | apply And.intro | exact vrl_flat _ (by first | exact icells_in _ | exact rcells_in _ | exact scells_in _ | exact bcells_in _ | assumption))
      rintro k ⟨hk, huk⟩
      by_cases hk2 : k < l.fl.length
      case neg =>
        obtain rfl : k = l.fl.length := by omega
        (have hg : (987654321 : Nat) - 987654321 = 0 := rfl; have hr := hg; repeat' (first | (with_reducible first | refine thenQ_n ?_ | refine blockQ_n ?_ | refine thenQ_e ?_ | refine blockQ_t ?_ | refine blockQ_f (by decide) ?_) | apply aw_seq | apply aw_skip | apply aw_exit | apply aw_ret | apply aw_block | apply aw_condT rfl | apply aw_condF rfl | (refine aw_cond rfl (fun hg => ?_) (fun hg => ?_) <;> (try (have hq := hg; simp only [Bool.not_eq_true', Bool.not_eq_false', Bool.and_eq_true, Bool.and_eq_false_iff, Bool.or_eq_true, Bool.or_eq_false_iff, decide_eq_true_eq, decide_eq_false_iff_not, bne_iff_ne, beq_iff_eq, beq_eq_false_iff_ne, bne_eq_false_iff_eq, ne_eq, Int.not_lt, Int.not_le, Decidable.not_not] at hq)) <;> (try (have hr := hg; simp only [decide_eq_true_eq, decide_eq_false_iff_not] at hr)) <;> (try (exfalso; omega))) | ((first | refine aw_hide fun K hK => aw_region ?_ | refine ago_if (by omega) ?_ | skip); simp (disch := first | exact okY | omega) only [List.length, Nat.zero_add, Nat.reduceMul, Nat.reduceAdd, dI, ARun_none, AOpRun, aexec, FSt.ev, St.F, eget_c, Nat.reduceBEq, ↓eget_h, cond_false, isSh, Bool.false_eq_true, ↓reduceIte, Option.map, abin, AGo_ok, St.app, putO, eput_c, eput_n, hups, List.map, ARun_nil, dropE_c, inL_n, dropE_n, hr, decide_false, fits, beq_self_eq_true, cond_true, inL_c]) | subst hK))
        refine ⟨s + 1, ⟨by omega, fun t ht => ?_⟩, by omega, ?_⟩
        · rcases (by omega : t < s ∨ t = s) with h | rfl
          · exact hus t h
          · exact huk
        · refine wk_q [] [(0, 0)] ?_ ?_ <;> repeat' (first | exact trivial | exact vr_val _ | exact vr_list _ | exact vr_ptr _ _ _ rfl | refine And.intro ⟨_, rfl, .inl ⟨_, rfl, by decide, ?_⟩⟩ ?_ | apply And.intro)
      have g1 := cF k hk2
      have hf := hF k hk2
      have iac := in_sub_ac hf s
      by_cases hi : inSub (fAt l k) s
      case neg =>
        rw [inB_f hi] at iac
        have eu := usd_no s l k hi
        (have hg : (987654321 : Nat) - 987654321 = 0 := rfl; have hr := hg; repeat' (first | (with_reducible first | refine thenQ_n ?_ | refine blockQ_n ?_ | refine thenQ_e ?_ | refine blockQ_t ?_ | refine blockQ_f (by decide) ?_) | apply aw_seq | apply aw_skip | apply aw_exit | apply aw_ret | apply aw_block | apply aw_condT rfl | apply aw_condF rfl | (refine aw_cond rfl (fun hg => ?_) (fun hg => ?_) <;> (try (have hq := hg; simp only [Bool.not_eq_true', Bool.not_eq_false', Bool.and_eq_true, Bool.and_eq_false_iff, Bool.or_eq_true, Bool.or_eq_false_iff, decide_eq_true_eq, decide_eq_false_iff_not, bne_iff_ne, beq_iff_eq, beq_eq_false_iff_ne, bne_eq_false_iff_eq, ne_eq, Int.not_lt, Int.not_le, Decidable.not_not] at hq)) <;> (try (have hr := hg; simp only [decide_eq_true_eq, decide_eq_false_iff_not] at hr)) <;> (try (exfalso; omega))) | ((first | refine aw_hide fun K hK => aw_region ?_ | refine acall0 (iac) ?_ | refine ago_if (by omega) ?_ | skip); simp (disch := first | exact okY | omega) only [List.length, Nat.zero_add, Nat.mul_one, Nat.reduceAdd, dI, ARun_none, AOpRun, aexec, FSt.ev, St.F, eget_c, Nat.reduceBEq, ↓eget_h, cond_false, isSh, Bool.false_eq_true, ↓reduceIte, Option.map, abin, AGo_ok, St.app, putO, eput_c, eput_n, hups, List.map, ARun_nil, dropE_c, inL_n, dropE_n, Nat.reduceMul, hr, decide_true, Int.natCast_nonneg, fls_all, and_self, opt1, Int.toNat_natCast, g1, flC, dB, Nat.reduceLeDiff, List.take, Option.isSome, hget_c, hget_n, hput_c, hput_n, ↓hget_h, D.isBot, D.cells, List.all, D.leaf, Bool.and_true, splice, List.nil_append, List.drop, List.append_nil, beq_self_eq_true, cond_true, inL_c, fillD, ne_eq, not_true_eq_false, Nat.reduceGT, or_self, fits]) | subst hK))
        refine ⟨k + 1, ⟨by omega, fun i hik j hj h3 h4 => ?_⟩, by omega, ?_⟩
        · rcases (by omega : i < k ∨ i = k) with h | rfl
          · exact huk i h j hj h3 h4
          · exact absurd h3 hi
        · rw [eu]
          refine wk_q [] [(0, 0), (200, 200)] ?_ ?_ <;> repeat' (first | exact trivial | exact vr_val _ | exact vr_list _ | exact vr_vec _ _ _ _ rfl | exact vr_ptr _ _ _ rfl | refine And.intro ⟨_, rfl, .inl ⟨_, rfl, by decide, ?_⟩⟩ ?_ | apply And.intro | exact vrl_flat _ (by first | exact icells_in _ | exact rcells_in _ | exact scells_in _ | exact bcells_in _ | assumption))
      rw [inB_t hi] at iac
      have mac := mask_ac hf
      have hw0 : 0 ≤ (fAt l k).word := by have := hf.w1; omega
      have hw1 : (fAt l k).word < (l.words.toNat : Int) := by have := hf.w2; omega
      have hwn : (fAt l k).word.toNat < l.words.toNat := by omega
      have hwi : (((fAt l k).word.toNat : Nat) : Int) = (fAt l k).word := by omega
      have lu := usd_len s l k
      have gu := ic_gd (usd s l k) (fAt l k).word.toNat (by omega)
      rw [usd_get s l k _ hwn, hwi] at gu
      have ts := ic_t (usd s l k) (fAt l k).word.toNat ((orM s l (fAt l k).word k ||| mskF (fAt l k) : Nat) : Int) (by omega)
      rw [← usd_in s l k hi hw0] at ts
      have ol := orM_lt s l (fAt l k).word hF k (by omega)
      have ml := mskF_lt hf
      have an := and_nat (orM s l (fAt l k).word k) (mskF (fAt l k)) (by omega) (by omega)
      have on := or_nat (orM s l (fAt l k).word k) (mskF (fAt l k)) (by omega) (by omega)
      have cf := orM_conf (s := s) hF hk2
      by_cases hz : orM s l (fAt l k).word k &&& mskF (fAt l k) = 0
      case neg =>
        have q : ((((orM s l (fAt l k).word k &&& mskF (fAt l k) : Nat) : Int)) != 0) = true := by simp only [bne_iff_ne]; omega
        have e : layE l 120 = 120 := layE_no fun h => hz (cf.2 fun j hj h4 => h.ov k hk2 j hj s hs4 hi h4)
        rw [e]
        (have hg : (987654321 : Nat) - 987654321 = 0 := rfl; have hr := hg; repeat' (first | (with_reducible first | refine thenQ_n ?_ | refine blockQ_n ?_ | refine thenQ_e ?_ | refine blockQ_t ?_ | refine blockQ_f (by decide) ?_) | apply aw_seq | apply aw_skip | apply aw_exit | apply aw_ret | apply aw_block | apply aw_condT rfl | apply aw_condF rfl | (refine aw_cond rfl (fun hg => ?_) (fun hg => ?_) <;> (try (have hq := hg; simp only [Bool.not_eq_true', Bool.not_eq_false', Bool.and_eq_true, Bool.and_eq_false_iff, Bool.or_eq_true, Bool.or_eq_false_iff, decide_eq_true_eq, decide_eq_false_iff_not, bne_iff_ne, beq_iff_eq, beq_eq_false_iff_ne, bne_eq_false_iff_eq, ne_eq, Int.not_lt, Int.not_le, Decidable.not_not] at hq)) <;> (try (have hr := hg; simp only [decide_eq_true_eq, decide_eq_false_iff_not] at hr)) <;> (try (exfalso; omega))) | ((first | refine aw_hide fun K hK => aw_region ?_ | refine acall0 (iac) ?_ | refine acall0 (mac) ?_ | refine ago_if (by omega) ?_ | skip); simp (disch := first | exact okY | omega) only [List.length, Nat.zero_add, Nat.mul_one, Nat.reduceAdd, dI, ARun_none, AOpRun, aexec, FSt.ev, St.F, eget_c, Nat.reduceBEq, ↓eget_h, cond_false, isSh, Bool.false_eq_true, ↓reduceIte, Option.map, abin, AGo_ok, St.app, putO, eput_c, eput_n, hups, List.map, ARun_nil, dropE_c, inL_n, dropE_n, Nat.reduceMul, hr, decide_true, Int.natCast_nonneg, fls_all, and_self, opt1, Int.toNat_natCast, g1, flC, dB, Nat.reduceLeDiff, List.take, Option.isSome, hget_c, hget_n, hput_c, hput_n, ↓hget_h, D.isBot, D.cells, List.all, D.leaf, Bool.and_true, splice, List.nil_append, List.drop, List.append_nil, beq_self_eq_true, cond_true, inL_c, fillD, ne_eq, not_true_eq_false, Nat.reduceGT, or_self, Nat.add_zero, run1, List.getElem?_cons_zero, hw0, hw1, gu, an, q, thenQ, blockQ]) | subst hK))
        all_goals (refine end_q [] [] ?_ ?_ <;> repeat' (first | exact trivial | exact vr_val _))
      have q : ((((orM s l (fAt l k).word k &&& mskF (fAt l k) : Nat) : Int)) != 0) = false := by rw [hz]; rfl
      have lc : (fAt l k).word.toNat + 1 ≤ (icells (usd s l k)).length := by rw [icells_len, lu]; omega
      (have hg : (987654321 : Nat) - 987654321 = 0 := rfl; have hr := hg; repeat' (first | (with_reducible first | refine thenQ_n ?_ | refine blockQ_n ?_ | refine thenQ_e ?_ | refine blockQ_t ?_ | refine blockQ_f (by decide) ?_) | apply aw_seq | apply aw_skip | apply aw_exit | apply aw_ret | apply aw_block | apply aw_condT rfl | apply aw_condF rfl | (refine aw_cond rfl (fun hg => ?_) (fun hg => ?_) <;> (try (have hq := hg; simp only [Bool.not_eq_true', Bool.not_eq_false', Bool.and_eq_true, Bool.and_eq_false_iff, Bool.or_eq_true, Bool.or_eq_false_iff, decide_eq_true_eq, decide_eq_false_iff_not, bne_iff_ne, beq_iff_eq, beq_eq_false_iff_ne, bne_eq_false_iff_eq, ne_eq, Int.not_lt, Int.not_le, Decidable.not_not] at hq)) <;> (try (have hr := hg; simp only [decide_eq_true_eq, decide_eq_false_iff_not] at hr)) <;> (try (exfalso; omega))) | ((first | refine aw_hide fun K hK => aw_region ?_ | refine acall0 (iac) ?_ | refine acall0 (mac) ?_ | refine ago_if (by omega) ?_ | skip); simp (disch := first | exact okY | omega) only [List.length, Nat.zero_add, Nat.mul_one, Nat.reduceAdd, dI, ARun_none, AOpRun, aexec, FSt.ev, St.F, eget_c, Nat.reduceBEq, ↓eget_h, cond_false, isSh, Bool.false_eq_true, ↓reduceIte, Option.map, abin, AGo_ok, St.app, putO, eput_c, eput_n, hups, List.map, ARun_nil, dropE_c, inL_n, dropE_n, Nat.reduceMul, hr, decide_true, Int.natCast_nonneg, fls_all, and_self, opt1, Int.toNat_natCast, g1, flC, dB, Nat.reduceLeDiff, List.take, Option.isSome, hget_c, hget_n, hput_c, hput_n, ↓hget_h, D.isBot, D.cells, List.all, D.leaf, Bool.and_true, splice, List.nil_append, List.drop, List.append_nil, beq_self_eq_true, cond_true, inL_c, fillD, ne_eq, not_true_eq_false, Nat.reduceGT, or_self, Nat.add_zero, run1, List.getElem?_cons_zero, hw0, hw1, gu, an, q, on, lc, ts, fits]) | subst hK))
      refine ⟨k + 1, ⟨by omega, fun i hik j hj h3 h4 => ?_⟩, by omega, ?_⟩
      · rcases (by omega : i < k ∨ i = k) with h | rfl
        · exact huk i h j hj h3 h4
        · exact cf.1 hz j hj h4
      · refine wk_q [] [(0, 0), (200, 200)] ?_ ?_ <;> repeat' (first | exact trivial | exact vr_val _ | exact vr_list _ | exact vr_vec _ _ _ _ rfl | exact vr_ptr _ _ _ rfl | refine And.intro ⟨_, rfl, .inl ⟨_, rfl, by decide, ?_⟩⟩ ?_ | apply And.intro | exact vrl_flat _ (by first | exact icells_in _ | exact rcells_in _ | exact scells_in _ | exact bcells_in _ | assumption))
end Go.Proofs.Ytdcodicoclecnaa
/- States with fewer names. No conditions. -/
namespace Go.Proofs.Ytdcodicoclecnaa.Lift
open Go Go.RowKit

def EL (n : Nat) (env : Env) : Env → Prop
  | [] => True
  | x :: r => x.2 = eget env x.1 ∧ In (· < n) x.2 ∧ EL n env r
theorem EL.get {n : Nat} {env : Env} : ∀ {e : Env}, EL n env e → ∀ t, eget e t = .bot ∨ (eget e t = eget env t ∧ In (· < n) (eget e t))
  | [], _, t => .inl rfl
  | (k, d) :: r, h, t => by
    rw [get_cons]
    split
    · rename_i hk; subst hk; exact .inr ⟨h.1, h.2.1⟩
    · exact EL.get h.2.2 t
theorem wk_low {pre : List Nat} {s s' : St} (hpre : ∀ g ∈ pre, g < s'.nx) (hh : s'.hp = s.hp) (hE : EL s'.nx s.env s'.env) (hH : ∀ g c, hget s.hp g = some c → g < s'.nx ∧ ∀ d ∈ c, In (· < s'.nx) d) : Wk pre s s' := by
  rintro C a w rfl ⟨β, Z, h, hβ⟩
  obtain ⟨β', hb'⟩ : ∃ β' : Bet, β' = fun g => if g < s'.nx then β g else none := ⟨_, rfl⟩
  have eq : ∀ g, g < s'.nx → β' g = β g := fun g hg => by rw [hb']; exact if_pos hg
  have no : ∀ g, s'.nx ≤ g → β' g = none := fun g hg => by rw [hb']; exact if_neg (by omega)
  have back : ∀ g B, β' g = some B → β g = some B := fun g B hB => by
    by_cases hg : g < s'.nx
    · rw [← eq g hg]; exact hB
    · rw [no g (by omega)] at hB; cases hB
  have hHs : ∀ g c, s'.F.H g = some c → s.F.H g = some c := fun g c hc => by
    have h1 : hget s'.hp g = some c := hc
    rw [hh] at h1; exact h1
  refine ⟨β', Z, ⟨h.size, h.defers, fun t => ?_, fun g c hc => ?_, fun g g' c c' B hc hc' hb hb'' => h.inj g g' c c' B (hHs _ _ hc) (hHs _ _ hc') (back _ _ hb) (back _ _ hb''), h.fr, h.z0, h.old, fun g c B hc hB => h.orig g c B (hHs _ _ hc) (back _ _ hB), fun g hg B hB => ?_, h.zlt⟩, no⟩
  · show Rep w _ Z _ (eget s'.env t)
    rcases hE.get t with h1 | ⟨h1, h2⟩
    · rw [h1]; exact .bot _
    · rw [h1] at h2 ⊢
      exact (h.env t).rename h2 eq
  · obtain ⟨h1, h2⟩ := hH g c (hHs g c hc)
    rcases h.objs g c (hHs g c hc) with ⟨h3, h4⟩ | ⟨B, cs, e, hO⟩
    · exact .inl ⟨h3, by rw [eq g h1]; exact h4⟩
    · exact .inr ⟨B, cs, e, by rw [eq g h1]; exact hO.at_, hO.ours, hO.block, hO.fits, fun i hi => (hO.rep i hi).rename (h2 _ (List.getElem_mem hi)) eq⟩
  · have h1 := h.ext g hg B hB
    rw [eq g (hpre g hg)]; exact h1
theorem wk_up {pre : List Nat} {e : Env} {h : Hp} {n m : Nat} (hn : n ≤ m) : Wk pre ⟨e, h, n⟩ ⟨e, h, m⟩ := by
  rintro C a w rfl ⟨β, Z, hR, hβ⟩
  exact ⟨β, Z, hR, fun g hg => hβ g (Nat.le_trans hn hg)⟩
end Go.Proofs.Ytdcodicoclecnaa.Lift
namespace Go.Proofs.Ytdcodicoclecnaa
open Go.RowKit Lift

def subsK (l : Lay) (frs : List (List Int)) (k : Nat) : List Int := (List.range k).map fun i => subF l (frm frs i)
theorem subsK_len (l : Lay) (frs : List (List Int)) (k : Nat) : (subsK l frs k).length = k := by simp [subsK]
theorem subsK_succ (l : Lay) (frs : List (List Int)) (k : Nat) : subsK l frs (k + 1) = subsK l frs k ++ [subF l (frm frs k)] := by simp [subsK, List.range_succ]
theorem subsK_get (l : Lay) (frs : List (List Int)) (n k : Nat) (h : k < n) : (subsK l frs n)[k]?.getD 0 = subF l (frm frs k) := by simp [subsK, h]
def tpC (l : Lay) (frs : List (List Int)) : List D := [dI l.words, dI l.s0, dI l.s1, dI l.s2, dI l.s3, .list (fls l.fl), .list (rows frs), .list (ints (subsK l frs frs.length))]
theorem tpC_in (S : Nat → Prop) (l : Lay) (frs : List (List Int)) : ∀ d ∈ tpC l frs, In S d := by
  intro d hd; simp [tpC] at hd; rcases hd with rfl | rfl | rfl | rfl | rfl | rfl | rfl | rfl <;> first | exact .val _ | exact .list _
noncomputable def tpE (l : Lay) (frs : List (List Int)) : Int := if layE l 120 = 0 then (if frs.length > 200 then 2 else 0) else 120
theorem tpE_ok {l : Lay} {frs : List (List Int)} (h1 : LayOk l) (h2 : frs.length ≤ 200) : tpE l frs = 0 := by
  unfold tpE; rw [if_pos (layE_ok h1), if_neg (by omega)]
theorem tpE_many {l : Lay} {frs : List (List Int)} (h1 : LayOk l) (h2 : ¬ frs.length ≤ 200) : tpE l frs = 2 := by
  unfold tpE; rw [if_pos (layE_ok h1), if_pos (by omega)]
theorem tpE_no {l : Lay} {frs : List (List Int)} (h1 : ¬ LayOk l) : tpE l frs = 120 := by
  unfold tpE; rw [if_neg (by rw [layE_no h1]; omega)]
theorem tpE_cases (l : Lay) (frs : List (List Int)) : (tpE l frs = 0 ∧ LayOk l ∧ frs.length ≤ 200) ∨ (tpE l frs ≠ 0 ∧ (tpE l frs != 0) = true) := by
  by_cases h1 : LayOk l
  · by_cases h2 : frs.length ≤ 200
    · exact .inl ⟨tpE_ok h1 h2, h1, h2⟩
    · rw [tpE_many h1 h2]; exact .inr ⟨by omega, rfl⟩
  · rw [tpE_no h1]; exact .inr ⟨by omega, rfl⟩
theorem idx_sync (l : Lay) (x : Int) : idxI (sync l) x = idx4 l x := by
  unfold idx4
  by_cases h0 : x = l.s0
  · rw [if_pos h0]
    exact idx_at (l := sync l) (k := 0) (by simp [sync]) (fun j hj => by omega) (by simp [sync, h0])
  rw [if_neg h0]
  by_cases h1 : x = l.s1
  · rw [if_pos h1]
    exact idx_at (l := sync l) (k := 1) (by simp [sync]) (fun j hj => by obtain rfl : j = 0 := by omega
                                                                         simpa [sync] using fun h => h0 h.symm) (by simp [sync, h1])
  rw [if_neg h1]
  by_cases h2 : x = l.s2
  · rw [if_pos h2]
    exact idx_at (l := sync l) (k := 2) (by simp [sync]) (fun j hj => by
      rcases (by omega : j = 0 ∨ j = 1) with rfl | rfl
      · simpa [sync] using fun h => h0 h.symm
      · simpa [sync] using fun h => h1 h.symm) (by simp [sync, h2])
  rw [if_neg h2]
  by_cases h3 : x = l.s3
  · rw [if_pos h3]
    exact idx_at (l := sync l) (k := 3) (by simp [sync]) (fun j hj => by
      rcases (by omega : j = 0 ∨ j = 1 ∨ j = 2) with rfl | rfl | rfl
      · simpa [sync] using fun h => h0 h.symm
      · simpa [sync] using fun h => h1 h.symm
      · simpa [sync] using fun h => h2 h.symm) (by simp [sync, h3])
  rw [if_neg h3]
  refine idx_no fun j hj => ?_
  have : j < 4 := by simpa [sync] using hj
  rcases (by omega : j = 0 ∨ j = 1 ∨ j = 2 ∨ j = 3) with rfl | rfl | rfl | rfl
  · simpa [sync] using fun h => h0 h.symm
  · simpa [sync] using fun h => h1 h.symm
  · simpa [sync] using fun h => h2 h.symm
  · simpa [sync] using fun h => h3 h.symm
structure FrIn (frs : List (List Int)) : Prop where
  n : frs.length ≤ maxLen
  m : ∀ k, (frm frs k).length ≤ maxLen
end Go.Proofs.Ytdcodicoclecnaa
/- The functions' bodies, translated. Written by a program; no conditions. -/
namespace Go.Proofs.Ytdcodicoclecnaa
open Go.RowKit Lift

def crecord_newTape : ACode :=
 (.seq
 (.region false [⟨some 2, .box (.tmp 0), none, []⟩,
 ⟨some 4, .mv (.const (.pointer none)), none, []⟩,
 ⟨some 5, .mv (.const (.int .i64 0)), none, []⟩] [])
 (.seq
 (.seq
 (.region false [⟨some 12, .loadN 6 (.tmp 2), none, []⟩,
 ⟨some 13, .call (.func 27) [(.tmp 12)], none, []⟩,
 ⟨some 6, .mv (.tmp 13), none, []⟩] [12, 13])
 (.seq
 (.region false [⟨some 14, .mv (.tmp 6), none, []⟩,
 ⟨some 15, .bin .neq (.tmp 14) (.const (.int .i64 0)), none, []⟩] [14])
 (.cond (.tmp 15)
 (.seq
 (.region false [⟨some 16, .mv (.tmp 6), none, []⟩,
 ⟨some 4, .mv (.const (.pointer none)), none, []⟩,
 ⟨some 5, .mv (.tmp 16), none, []⟩] [16])
 .ret)
 .skip)))
 (.seq
 (.seq
 (.region false [⟨some 17, .mv (.tmp 1), none, []⟩,
 ⟨some 18, .len_ (.tmp 17), none, []⟩,
 ⟨some 19, .bin .gtr (.tmp 18) (.const (.int .i64 200)), none, []⟩] [17, 18])
 (.cond (.tmp 19)
 (.seq
 (.region false [⟨some 4, .mv (.const (.pointer none)), none, []⟩,
 ⟨some 5, .mv (.const (.int .i64 2)), none, []⟩] [])
 .ret)
 .skip))
 (.seq
 (.region false [⟨some 20, .loadN 6 (.tmp 2), none, []⟩,
 ⟨some 21, .mv (.tmp 1), none, []⟩,
 ⟨some 22, .build [(.val (.int .i64 0)), (.val (.int .i64 0)), (.val (.int .i64 0)), (.val (.int .i64 0)), (.val (.int .i64 0)), (.val (.slice none 0 0)), (.val (.slice none 0 0)), (.val (.slice none 0 0))] [(0, 6, (.tmp 20)), (6, 1, (.tmp 21))], none, []⟩,
 ⟨some 23, .box (.tmp 22), none, []⟩,
 ⟨some 7, .mv (.tmp 23), none, []⟩] [20, 21, 22, 23])
 (.seq
 (.region false [⟨some 8, .mv (.func 116), none, []⟩] [])
 (.seq
 (.seq
 (.region false [⟨some 24, .mv (.tmp 1), none, []⟩,
 ⟨some 25, .len_ (.tmp 24), none, []⟩,
 ⟨some 26, .mv (.const (.int .i64 0)), none, []⟩] [])
 (.block 0
 (.loop
 (.seq
 (.region false [⟨some 27, .bin .lss (.tmp 26) (.tmp 25), none, []⟩] [])
 (.seq
 (.cond (.tmp 27)
 .skip
 (.exit 0))
 (.seq
 (.block 1
 (.seq
 (.region false [⟨some 28, .iadS 1 (.tmp 24) (.tmp 26), none, []⟩,
 ⟨some 29, .load1 (.tmp 28), none, []⟩,
 ⟨some 10, .mv (.tmp 29), none, []⟩] [28, 29])
 (.seq
 (.region false [⟨some 11, .mv (.const (.int .i64 (-1))), none, []⟩] [])
 (.seq
 (.seq
 (.region false [⟨some 30, .mv (.tmp 10), none, []⟩,
 ⟨some 31, .len_ (.tmp 30), none, []⟩,
 ⟨some 32, .fad 0 (.tmp 2), none, []⟩,
 ⟨some 33, .load1 (.tmp 32), none, []⟩,
 ⟨some 34, .bin .eql (.tmp 31) (.tmp 33), none, []⟩,
 ⟨some 35, .mv (.tmp 34), none, []⟩,
 ⟨some 36, .mv (.tmp 10), (some (some 35, true)), []⟩,
 ⟨some 37, .mv (.tmp 8), (some (some 35, true)), []⟩,
 ⟨some 38, .call (.func 110) [(.tmp 36), (.tmp 37)], (some (some 35, true)), []⟩,
 ⟨some 39, .un .not (.tmp 38), (some (some 35, true)), []⟩,
 ⟨some 40, .pick (.tmp 35) (.tmp 39) (.const (.bool false)), none, []⟩] [30, 31, 32, 33, 34, 35, 36, 37, 38, 39])
 (.cond (.tmp 40)
 (.region true [⟨some 41, .fad 1 (.tmp 2), none, []⟩,
 ⟨some 42, .slA 4 1 (.tmp 41) none none, none, [0]⟩,
 ⟨some 43, .mv (.tmp 10), none, []⟩,
 ⟨some 44, .iadS 1 (.tmp 43) (.const (.int .i64 0)), none, [2]⟩,
 ⟨some 45, .load1 (.tmp 44), none, [3, 2]⟩,
 ⟨some 46, .call (.func 117) [(.tmp 42), (.tmp 45)], none, [1, 0, 4, 3, 2]⟩,
 ⟨some 11, .mv (.tmp 46), none, [5, 1, 0, 4, 3, 2]⟩] [41, 42, 43, 44, 45, 46])
 .skip))
 (.region false [⟨some 47, .mv (.tmp 7), none, []⟩,
 ⟨some 48, .mv (.tmp 7), none, []⟩,
 ⟨some 49, .nilc (.tmp 48), none, []⟩,
 ⟨some 50, .fad 7 (.tmp 49), none, []⟩,
 ⟨some 51, .load1 (.tmp 50), none, []⟩,
 ⟨some 52, .mv (.tmp 11), none, []⟩,
 ⟨some 53, .buildSl 1 1 [(.val (.int .i64 0))] [(0, 1, (.tmp 52))], none, []⟩,
 ⟨some 54, .app 1 8 (.tmp 51) (.tmp 53), none, []⟩,
 ⟨some 55, .nilc (.tmp 47), none, []⟩,
 ⟨some 56, .fad 7 (.tmp 55), none, []⟩,
 ⟨none, .store 1 (.tmp 56) (.tmp 54), none, []⟩] [47, 48, 49, 50, 51, 52, 53, 54, 55, 56])))))
 (.region false [⟨some 57, .bin .add (.tmp 26) (.const (.int .i64 1)), none, []⟩,
 ⟨some 26, .mv (.tmp 57), none, []⟩] [57])))))))
 (.seq
 (.region false [⟨some 58, .mv (.tmp 7), none, []⟩,
 ⟨some 4, .mv (.tmp 58), none, []⟩,
 ⟨some 5, .mv (.const (.int .i64 0)), none, []⟩] [58])
 .ret)))))))
set_option maxRecDepth 100000 in
theorem krecord_newTape : IsCode Try.prog 71 59 crecord_newTape [.tmp 4, .tmp 5] :=
 ⟨Try.f71, _, [40, 27, 19, 15, 0, 2, 6, 1, 26, 25, 24, 10, 8, 7, 11, 4, 5], Try.func71, rfl, by decide, rfl, by kernel_rfl, by kernel_rfl⟩
def cprecord_tape_good : ACode :=
 (.seq
 (.region false [⟨some 6, .mv (.tmp 0), none, []⟩,
 ⟨some 7, .nilc (.tmp 6), none, []⟩,
 ⟨some 8, .fad 7 (.tmp 7), none, []⟩,
 ⟨some 9, .load1 (.tmp 8), none, []⟩,
 ⟨some 10, .len_ (.tmp 9), none, []⟩,
 ⟨some 11, .mv (.const (.int .i64 0)), none, []⟩] [6, 7, 8])
 (.block 0
 (.loop
 (.seq
 (.region false [⟨some 12, .bin .lss (.tmp 11) (.tmp 10), none, []⟩] [])
 (.seq
 (.cond (.tmp 12)
 .skip
 (.exit 0))
 (.seq
 (.block 1
 (.seq
 (.region false [⟨some 13, .mv (.tmp 11), none, []⟩,
 ⟨some 14, .iadS 1 (.tmp 9) (.tmp 11), none, []⟩,
 ⟨some 15, .load1 (.tmp 14), none, []⟩,
 ⟨some 4, .mv (.tmp 13), none, []⟩,
 ⟨some 5, .mv (.tmp 15), none, []⟩] [13, 14, 15])
 (.seq
 (.region false [⟨some 16, .mv (.tmp 5), none, []⟩,
 ⟨some 17, .bin .geq (.tmp 16) (.const (.int .i64 0)), none, []⟩,
 ⟨some 18, .mv (.tmp 17), none, []⟩,
 ⟨some 19, .mv (.tmp 1), (some (some 18, true)), []⟩,
 ⟨some 20, .mv (.tmp 4), (some (some 18, true)), []⟩,
 ⟨some 21, .mv (.tmp 5), (some (some 18, true)), []⟩,
 ⟨some 22, .call (.tmp 19) [(.tmp 20), (.tmp 21)], (some (some 18, true)), []⟩,
 ⟨some 23, .un .not (.tmp 22), (some (some 18, true)), []⟩,
 ⟨some 24, .pick (.tmp 18) (.tmp 23) (.const (.bool false)), none, []⟩] [16, 17, 18, 19, 20, 21, 22, 23])
 (.cond (.tmp 24)
 .ret
 .skip))))
 (.region false [⟨some 25, .bin .add (.tmp 11) (.const (.int .i64 1)), none, []⟩,
 ⟨some 11, .mv (.tmp 25), none, []⟩] [25])))))))
set_option maxRecDepth 100000 in
theorem kprecord_tape_good : IsCode Try.prog 72 26 cprecord_tape_good [] :=
 ⟨Try.f72, _, [24, 12, 0, 11, 10, 9, 5, 1, 4], Try.func72, rfl, by decide, rfl, by kernel_rfl, by kernel_rfl⟩
def cprecord_tape_samples : ACode :=
 (.seq
 (.region false [⟨some 2, .box (.tmp 0), none, []⟩,
 ⟨some 4, .mv (.const (.nilFunc)), none, []⟩] [])
 (.seq
 (.region false [⟨some 6, .load1 (.tmp 2), none, []⟩,
 ⟨some 7, .nilc (.tmp 6), none, []⟩,
 ⟨some 8, .fad 0 (.tmp 7), none, []⟩,
 ⟨some 9, .fad 5 (.tmp 8), none, []⟩,
 ⟨some 10, .load1 (.tmp 9), none, []⟩,
 ⟨some 11, .mv (.tmp 1), none, []⟩,
 ⟨some 12, .iadS 9 (.tmp 10) (.tmp 11), none, []⟩,
 ⟨some 13, .loadN 9 (.tmp 12), none, []⟩,
 ⟨some 14, .build [(.val (.int .i64 0)), (.val (.int .i64 0)), (.val (.int .i64 0)), (.val (.bool false)), (.val (.int .i64 0)), (.val (.int .i64 0)), (.val (.int .i64 0)), (.val (.int .i64 0)), (.val (.int .i64 0))] [(0, 9, (.tmp 13))], none, []⟩,
 ⟨some 5, .mem [(.val (.int .i64 0)), (.val (.int .i64 0)), (.val (.int .i64 0)), (.val (.bool false)), (.val (.int .i64 0)), (.val (.int .i64 0)), (.val (.int .i64 0)), (.val (.int .i64 0)), (.val (.int .i64 0))], none, []⟩,
 ⟨none, .store 9 (.tmp 5) (.tmp 14), none, []⟩] [6, 7, 8, 9, 10, 11, 12, 13, 14])
 (.seq
 (.region false [⟨some 15, .mkfn 113 [] [(.tmp 2), (.tmp 5)], none, []⟩,
 ⟨some 4, .mv (.tmp 15), none, []⟩] [15])
 .ret)))
set_option maxRecDepth 100000 in
theorem kprecord_tape_samples : IsCode Try.prog 67 16 cprecord_tape_samples [.tmp 4] :=
 ⟨Try.f67, _, [0, 2, 1, 5, 4], Try.func67, rfl, by decide, rfl, by kernel_rfl, by kernel_rfl⟩
def cprecord_tape_samples_S1_B8 : ACode :=
 (.block 1
 (.seq
 (.region true [⟨some 10, .loadN 9 (.tmp 2), none, []⟩,
 ⟨some 11, .mv (.tmp 5), none, []⟩,
 ⟨some 12, .call (.func 77) [(.tmp 10), (.tmp 11)], none, [0, 1]⟩,
 ⟨some 13, .mv (.tmp 12), none, [2, 0, 1]⟩,
 ⟨some 14, .load1 (.tmp 3), (some (some 13, true)), [3, 2, 0, 1]⟩,
 ⟨some 15, .mv (.tmp 4), (some (some 13, true)), [3, 2, 0, 1]⟩,
 ⟨some 16, .loadN 9 (.tmp 2), (some (some 13, true)), [3, 2, 0, 1]⟩,
 ⟨some 17, .loadN 9 (.tmp 2), (some (some 13, true)), [3, 2, 0, 1]⟩,
 ⟨some 18, .load1 (.tmp 1), (some (some 13, true)), [3, 2, 0, 1]⟩,
 ⟨some 19, .nilc (.tmp 18), (some (some 13, true)), [8, 3, 2, 0, 1]⟩,
 ⟨some 20, .fad 6 (.tmp 19), (some (some 13, true)), [9, 8, 3, 2, 0, 1]⟩,
 ⟨some 21, .load1 (.tmp 20), (some (some 13, true)), [10, 9, 8, 3, 2, 0, 1]⟩,
 ⟨some 22, .mv (.tmp 4), (some (some 13, true)), [3, 2, 0, 1]⟩,
 ⟨some 23, .iadS 1 (.tmp 21) (.tmp 22), (some (some 13, true)), [11, 10, 9, 8, 3, 2, 0, 1, 12]⟩,
 ⟨some 24, .load1 (.tmp 23), (some (some 13, true)), [13, 11, 10, 9, 8, 3, 2, 0, 1, 12]⟩,
 ⟨some 25, .fad 0 (.tmp 2), (some (some 13, true)), [3, 2, 0, 1]⟩,
 ⟨some 26, .fad 0 (.tmp 25), (some (some 13, true)), [15, 3, 2, 0, 1]⟩,
 ⟨some 27, .load1 (.tmp 26), (some (some 13, true)), [16, 15, 3, 2, 0, 1]⟩,
 ⟨some 28, .iadS 1 (.tmp 24) (.tmp 27), (some (some 13, true)), [14, 13, 11, 10, 9, 8, 3, 2, 0, 1, 12, 17, 16, 15]⟩,
 ⟨some 29, .load1 (.tmp 28), (some (some 13, true)), [18, 14, 13, 11, 10, 9, 8, 3, 2, 0, 1, 12, 17, 16, 15]⟩,
 ⟨some 30, .call (.func 115) [(.tmp 17), (.tmp 29)], (some (some 13, true)), [7, 3, 2, 0, 1, 19, 18, 14, 13, 11, 10, 9, 8, 12, 17, 16, 15]⟩,
 ⟨some 31, .call (.func 114) [(.tmp 16), (.tmp 30)], (some (some 13, true)), [6, 3, 2, 0, 1, 20, 7, 19, 18, 14, 13, 11, 10, 9, 8, 12, 17, 16, 15]⟩,
 ⟨some 32, .call (.tmp 14) [(.tmp 15), (.tmp 31)], (some (some 13, true)), [4, 3, 2, 0, 1, 5, 21, 6, 20, 7, 19, 18, 14, 13, 11, 10, 9, 8, 12, 17, 16, 15]⟩,
 ⟨some 33, .un .not (.tmp 32), (some (some 13, true)), [22, 4, 3, 2, 0, 1, 5, 21, 6, 20, 7, 19, 18, 14, 13, 11, 10, 9, 8, 12, 17, 16, 15]⟩,
 ⟨some 34, .pick (.tmp 13) (.tmp 33) (.const (.bool false)), none, [3, 2, 0, 1, 23, 22, 4, 5, 21, 6, 20, 7, 19, 18, 14, 13, 11, 10, 9, 8, 12, 17, 16, 15]⟩] [10, 11, 12, 13, 14, 15, 16, 17, 18, 19, 20, 21, 22, 23, 24, 25, 26, 27, 28, 29, 30, 31, 32, 33])
 (.cond (.tmp 34)
 .ret
 .skip)))
def cprecord_tape_samples_S1 : ACode :=
 (.seq
 (.region false [⟨some 3, .box (.tmp 0), none, []⟩] [])
 (.seq
 (.region false [⟨some 6, .load1 (.tmp 1), none, []⟩,
 ⟨some 7, .mkfn 72 [(.tmp 6)] [], none, []⟩] [6])
 (.block 0
 (.rangeFunc (.tmp 7) [8, 9] [(4, 8), (5, 9)] cprecord_tape_samples_S1_B8))))
set_option maxRecDepth 100000 in
theorem kprecord_tape_samples_S1 : IsCode Try.prog 113 35 cprecord_tape_samples_S1 [] :=
 ⟨Try.f113, _, [34, 8, 9, 7, 0, 1, 2, 5, 3, 4], Try.func113, rfl, by decide, rfl, by kernel_rfl, by kernel_rfl⟩
def cprecord_tape_has : ACode :=
 (.seq
 (.region false [⟨some 4, .mv (.const (.bool false)), none, []⟩] [])
 (.seq
 (.region false [⟨some 5, .mv (.tmp 1), none, []⟩,
 ⟨some 6, .mv (.tmp 0), none, []⟩,
 ⟨some 7, .nilc (.tmp 6), none, []⟩,
 ⟨some 8, .fad 0 (.tmp 7), none, []⟩,
 ⟨some 9, .fad 5 (.tmp 8), none, []⟩,
 ⟨some 10, .load1 (.tmp 9), none, []⟩,
 ⟨some 11, .len_ (.tmp 10), none, []⟩,
 ⟨some 12, .bin .sub (.tmp 11) (.const (.int .i64 1)), none, []⟩,
 ⟨some 13, .call (.func 74) [(.tmp 5), (.const (.int .i64 0)), (.tmp 12)], none, []⟩,
 ⟨some 4, .mv (.tmp 13), none, []⟩] [5, 6, 7, 8, 9, 10, 11, 12, 13])
 .ret))
set_option maxRecDepth 100000 in
theorem kprecord_tape_has : IsCode Try.prog 112 14 cprecord_tape_has [.tmp 4] :=
 ⟨Try.f112, _, [1, 0, 4], Try.func112, rfl, by decide, rfl, by kernel_rfl, by kernel_rfl⟩
def crecord_withField : ACode :=
 (.seq
 (.region false [⟨some 3, .box (.tmp 0), none, []⟩,
 ⟨some 6, .mv (.const (.pointer none)), none, []⟩,
 ⟨some 7, .mv (.const (.int .i64 0)), none, []⟩] [])
 (.seq
 (.region false [⟨some 11, .loadN 6 (.tmp 3), none, []⟩,
 ⟨some 12, .mv (.tmp 1), none, []⟩,
 ⟨some 13, .call (.func 71) [(.tmp 11), (.tmp 12)], none, []⟩,
 ⟨some 10, .mv (.tmp 13), none, []⟩,
 ⟨some 14, .ext (.tmp 10) 0, none, []⟩,
 ⟨some 15, .ext (.tmp 10) 1, none, []⟩,
 ⟨some 8, .mem [(.val (.pointer none))], none, []⟩,
 ⟨none, .store 1 (.tmp 8) (.tmp 14), none, []⟩,
 ⟨some 9, .mv (.tmp 15), none, []⟩] [11, 12, 13, 10, 14, 15])
 (.seq
 (.seq
 (.region false [⟨some 16, .mv (.tmp 9), none, []⟩,
 ⟨some 17, .bin .neq (.tmp 16) (.const (.int .i64 0)), none, []⟩] [16])
 (.cond (.tmp 17)
 (.seq
 (.region false [⟨some 18, .mv (.tmp 9), none, []⟩,
 ⟨some 6, .mv (.const (.pointer none)), none, []⟩,
 ⟨some 7, .mv (.tmp 18), none, []⟩] [18])
 .ret)
 .skip))
 (.seq
 (.seq
 (.region false [⟨some 19, .mv (.tmp 2), none, []⟩,
 ⟨some 20, .mkfn 111 [] [(.tmp 8)], none, []⟩,
 ⟨some 21, .call (.func 110) [(.tmp 19), (.tmp 20)], none, []⟩] [19, 20])
 (.cond (.tmp 21)
 (.seq
 (.region false [⟨some 6, .mv (.const (.pointer none)), none, []⟩,
 ⟨some 7, .mv (.const (.int .i64 1)), none, []⟩] [])
 .ret)
 .skip))
 (.seq
 (.region false [⟨some 22, .load1 (.tmp 8), none, []⟩,
 ⟨some 6, .mv (.tmp 22), none, []⟩,
 ⟨some 7, .mv (.const (.int .i64 0)), none, []⟩] [22])
 .ret)))))
set_option maxRecDepth 100000 in
theorem krecord_withField : IsCode Try.prog 66 23 crecord_withField [.tmp 6, .tmp 7] :=
 ⟨Try.f66, _, [21, 17, 0, 3, 1, 9, 2, 8, 6, 7], Try.func66, rfl, by decide, rfl, by kernel_rfl, by kernel_rfl⟩
def crecord_withField_S1 : ACode :=
 (.seq
 (.region false [⟨some 3, .mv (.const (.bool false)), none, []⟩] [])
 (.seq
 (.region false [⟨some 4, .load1 (.tmp 1), none, []⟩,
 ⟨some 5, .mv (.tmp 0), none, []⟩,
 ⟨some 6, .call (.func 112) [(.tmp 4), (.tmp 5)], none, []⟩,
 ⟨some 7, .un .not (.tmp 6), none, []⟩,
 ⟨some 3, .mv (.tmp 7), none, []⟩] [4, 5, 6, 7])
 .ret))
set_option maxRecDepth 100000 in
theorem krecord_withField_S1 : IsCode Try.prog 111 8 crecord_withField_S1 [.tmp 3] :=
 ⟨Try.f111, _, [1, 0, 3], Try.func111, rfl, by decide, rfl, by kernel_rfl, by kernel_rfl⟩
end Go.Proofs.Ytdcodicoclecnaa
/- record: a new tape. No conditions. -/
namespace Go.Proofs.Ytdcodicoclecnaa
open Go.RowKit Lift

set_option maxRecDepth 100000 in
set_option maxHeartbeats 1000000 in
theorem newTape_err (l : Lay) (frs : List (List Int)) (hl : LayIn l) (he : ¬ (LayOk l ∧ frs.length ≤ 200)) (hf : FrIn frs) : AC Try.prog 71 [layD l, .list (rows frs)] [] [] (.tup [.val (.pointer none), dI (tpE l frs)]) := by
  refine krecord_newTape.ac (n0 := 0) (by simp) ⟨in_layD _ _, .list _, trivial⟩ trivial rfl ?_
  unfold crecord_newTape layD layC
  have hmax : maxLen = 9223372036854775807 := rfl
  have hn := hf.n
  have ck := check_ac l hl
  by_cases h1 : LayOk l
  · have h2 : ¬ frs.length ≤ 200 := fun h => he ⟨h1, h⟩
    rw [layE_ok h1] at ck
    rw [tpE_many h1 h2]
    have q : decide ((frs.length : Int) > 200) = true := decide_eq_true (by omega)
    (repeat' (first | (with_reducible first | refine thenQ_n ?_ | refine blockQ_n ?_ | refine thenQ_e ?_ | refine blockQ_t ?_ | refine blockQ_f (by decide) ?_) | apply aw_seq | apply aw_skip | apply aw_exit | apply aw_ret | apply aw_block | apply aw_condT rfl | apply aw_condF rfl | ((first | refine aw_hide fun K hK => aw_region ?_ | refine acall0 (ck) ?_ | refine ago_if (by omega) ?_ | skip); simp (disch := first | exact okY | omega) only [List.length, Nat.zero_add, Nat.reduceAdd, Nat.reduceMul, envOf, dI, ARun_none, AOpRun, aexec, D.isBot, FSt.ev, St.F, ↓eget_h, Bool.false_eq_true, Option.isSome, hget_n, or_self, ↓reduceIte, D.cells, AGo_ok, St.app, putO, eput_c, Nat.reduceBEq, eput_n, cond_false, hups, hput_n, List.map, ARun_nil, dropE_c, inL_n, dropE_n, eget_c, hget_c, beq_self_eq_true, cond_true, Nat.reduceLeDiff, List.drop, List.take, inL_c, isSh, Option.map, abin, bne_self_eq_false, rows_len, q, thenQ]) | subst hK))
    all_goals (refine end_q [] [] ?_ ?_ <;> repeat' (first | exact trivial | exact vr_val _ | apply vr_tup | apply And.intro))
  · rw [layE_no h1] at ck
    rw [tpE_no h1]
    (repeat' (first | (with_reducible first | refine thenQ_n ?_ | refine blockQ_n ?_ | refine thenQ_e ?_ | refine blockQ_t ?_ | refine blockQ_f (by decide) ?_) | apply aw_seq | apply aw_skip | apply aw_exit | apply aw_ret | apply aw_block | apply aw_condT rfl | apply aw_condF rfl | ((first | refine aw_hide fun K hK => aw_region ?_ | refine acall0 (ck) ?_ | refine ago_if (by omega) ?_ | skip); simp (disch := first | exact okY | omega) only [List.length, Nat.zero_add, Nat.reduceAdd, Nat.reduceMul, envOf, dI, ARun_none, AOpRun, aexec, D.isBot, FSt.ev, St.F, ↓eget_h, Bool.false_eq_true, Option.isSome, hget_n, or_self, ↓reduceIte, D.cells, AGo_ok, St.app, putO, eput_c, Nat.reduceBEq, eput_n, cond_false, hups, hput_n, List.map, ARun_nil, dropE_c, inL_n, dropE_n, eget_c, hget_c, beq_self_eq_true, cond_true, Nat.reduceLeDiff, List.drop, List.take, inL_c, isSh, Option.map, abin, Int.reduceBNe, thenQ]) | subst hK))
    all_goals (refine end_q [] [] ?_ ?_ <;> repeat' (first | exact trivial | exact vr_val _ | apply vr_tup | apply And.intro))
set_option maxRecDepth 100000 in
set_option maxHeartbeats 8000000 in
theorem newTape_ok (l : Lay) (frs : List (List Int)) (hl : LayIn l) (h1 : LayOk l) (h2 : frs.length ≤ 200) (hf : FrIn frs) : AC Try.prog 71 [layD l, .list (rows frs)] [] [(96, some (tpC l frs))] (.tup [.ptr 96 0, dI 0]) := by
  refine krecord_newTape.ac (n0 := 0) (by simp) ⟨in_layD _ _, .list _, trivial⟩ trivial rfl ?_
  unfold crecord_newTape layD layC
  have hmax : maxLen = 9223372036854775807 := rfl
  have w1 := h1.w1
  have w2 := h1.w2
  have ck := check_ac l hl
  rw [layE_ok h1] at ck
  have q : decide ((frs.length : Int) > 200) = false := decide_eq_false (by omega)
  (repeat' (first | (with_reducible first | refine thenQ_n ?_ | refine blockQ_n ?_ | refine thenQ_e ?_ | refine blockQ_t ?_ | refine blockQ_f (by decide) ?_) | apply aw_seq | apply aw_skip | apply aw_exit | apply aw_ret | apply aw_block | apply aw_condT rfl | apply aw_condF rfl | ((first | refine aw_hide fun K hK => aw_region ?_ | refine acall0 (ck) ?_ | refine ago_if (by omega) ?_ | skip); simp (disch := first | exact okY | omega) only [List.length, Nat.zero_add, Nat.reduceAdd, Nat.reduceMul, envOf, dI, ARun_none, AOpRun, aexec, D.isBot, FSt.ev, St.F, ↓eget_h, Bool.false_eq_true, Option.isSome, hget_n, or_self, ↓reduceIte, D.cells, AGo_ok, St.app, putO, eput_c, Nat.reduceBEq, eput_n, cond_false, hups, hput_n, List.map, ARun_nil, dropE_c, inL_n, dropE_n, eget_c, hget_c, beq_self_eq_true, cond_true, Nat.reduceLeDiff, List.drop, List.take, inL_c, isSh, Option.map, abin, bne_self_eq_false, rows_len, q, fillD, ne_eq, not_true_eq_false, Nat.reduceGT, splice, List.nil_append, List.cons_append, hput_c, Int.reduceNeg]) | subst hK))
  refine aw_loop (fun k : Nat => ⟨[(1, .list (rows frs)), (2, .ptr 0 0), (7, .ptr 40 0), (8, .fn 116 [] []), (24, .list (rows frs)), (25, dI frs.length), (26, dI k)],
    [(0, [dI l.words, dI l.s0, dI l.s1, dI l.s2, dI l.s3, .list (fls l.fl)]), (40, [dI l.words, dI l.s0, dI l.s1, dI l.s2, dI l.s3, .list (fls l.fl), .list (rows frs), .vec 48 k 1]), (48, icells (subsK l frs k))], 100⟩) (fun k => k ≤ frs.length) (fun k => frs.length - k) ⟨0, by omega, ?_⟩ ?_
  · refine wk_q [] [(0, 0), (40, 112), (48, 900)] ?_ ?_ <;> repeat' (first | exact trivial | exact vr_val _ | exact vr_list _ | exact vr_ptr _ _ _ rfl | exact vr_nilv _ _ _ rfl | apply vr_fn | refine And.intro ⟨_, rfl, .inl ⟨_, rfl, by decide, ?_⟩⟩ ?_ | refine And.intro ⟨_, rfl, .inr ⟨rfl, rfl, of_decide_eq_true (by kernel_rfl)⟩⟩ ?_ | apply And.intro)
  intro k hk
  by_cases hk2 : k < frs.length
  case neg =>
    obtain rfl : k = frs.length := by omega
    have hl2 := subsK_len l frs frs.length
    (have hg : (987654321 : Nat) - 987654321 = 0 := rfl; have hr := hg; repeat' (first | (with_reducible first | refine thenQ_n ?_ | refine blockQ_n ?_ | refine thenQ_e ?_ | refine blockQ_t ?_ | refine blockQ_f (by decide) ?_) | apply aw_seq | apply aw_skip | apply aw_exit | apply aw_ret | apply aw_block | apply aw_condT rfl | apply aw_condF rfl | (refine aw_cond rfl (fun hg => ?_) (fun hg => ?_) <;> (try (have hq := hg; simp only [Bool.not_eq_true', Bool.not_eq_false', Bool.and_eq_true, Bool.and_eq_false_iff, Bool.or_eq_true, Bool.or_eq_false_iff, decide_eq_true_eq, decide_eq_false_iff_not, bne_iff_ne, beq_iff_eq, beq_eq_false_iff_ne, bne_eq_false_iff_eq, ne_eq, Int.not_lt, Int.not_le, Decidable.not_not] at hq)) <;> (try (have hr := hg; simp only [decide_eq_true_eq, decide_eq_false_iff_not] at hr)) <;> (try (exfalso; omega))) | ((first | refine aw_hide fun K hK => aw_region ?_ | refine ago_if (by omega) ?_ | skip); simp (disch := first | exact okY | omega) only [List.length, Nat.zero_add, Nat.reduceMul, Nat.reduceAdd, dI, ARun_none, AOpRun, aexec, FSt.ev, St.F, eget_c, Nat.reduceBEq, ↓eget_h, cond_false, isSh, Bool.false_eq_true, ↓reduceIte, Option.map, abin, AGo_ok, St.app, putO, eput_c, eput_n, hups, List.map, ARun_nil, dropE_c, inL_n, dropE_n, hr, decide_false, inL_c, beq_self_eq_true, cond_true]) | subst hK))
    refine end_q [48] [(96, 40)] ?_ ?_ <;> repeat' (first | exact trivial | exact vr_val _ | exact vr_list _ | exact vr_ptr _ _ _ rfl | apply vr_tup | refine vr_fl _ _ _ _ _ (by decide) rfl ?_ ?_ ?_ ?_ | refine And.intro ⟨_, rfl, _, rfl, by decide, ?_⟩ ?_ | apply And.intro)
    all_goals first | exact ints_one _ | exact (ints_len _).trans hl2 | exact ints_flat _ | exact icells_in _ | (rw [Nat.mul_one, ic_take _ _ hl2]; exact ints_flat _) | (rw [Nat.mul_one, icells_len]; omega)
  have g1 := rows_gd frs k hk2
  have ki : (k : Int) < (frs.length : Int) := by omega
  have hfm := hf.m k
  have hss := subsK_succ l frs k
  have hsl := subsK_len l frs k
  have hsub : subF l (frm frs k) = if frOk l (frm frs k) then idx4 l ((frm frs k)[0]?.getD 0) else -1 := rfl
  rw [show frs[k]?.getD [] = frm frs k from rfl] at g1
  generalize frm frs k = fr at *
  generalize subF l fr = sv at *
  have hit : (icells (subsK l frs k)).take k = icells (subsK l frs k) := ic_take _ _ hsl
  refine aw_seq (aw_region ?_)
  simp (disch := first | exact okY | omega) only [thenQ, Int.reduceNeg, dI, List.length, Nat.zero_add, Nat.reduceMul, Nat.reduceAdd, ARun_none, AOpRun, aexec, FSt.ev, St.F, eget_c, Nat.reduceBEq, ↓eget_h, cond_false, isSh, Bool.false_eq_true, ↓reduceIte, Option.map, abin, ki, decide_true, AGo_ok, St.app, putO, eput_c, eput_n, hups, List.map, ARun_nil, dropE_c, inL_n, dropE_n]
  refine aw_seq (aw_condT rfl ?_)
  refine aw_skip (aw_seq (aw_block (aw_seq (aw_region ?_))))
  simp (disch := first | exact okY | omega) only [thenQ, Int.reduceNeg, List.length, Nat.zero_add, Nat.reduceAdd, Nat.reduceMul, ARun_none, AOpRun, aexec, FSt.ev, St.F, eget_c, Nat.reduceBEq, ↓eget_h, cond_false, Int.natCast_nonneg, rows_all, and_self, ↓reduceIte, opt1, Option.map, Int.toNat_natCast, g1, AGo_ok, St.app, putO, eput_c, eput_n, hups, List.map, run1, List.getElem?_cons_zero, ARun_nil, dropE_c, inL_c, inL_n, beq_self_eq_true, cond_true, dropE_n]
  refine aw_seq (aw_region ?_)
  simp (disch := first | exact okY | omega) only [thenQ, List.length, Nat.zero_add, Nat.reduceMul, Nat.reduceAdd, Int.reduceNeg, ARun_none, AOpRun, aexec, FSt.ev, AGo_ok, St.app, putO, eput_c, Nat.reduceBEq, eput_n, cond_false, hups, List.map, ARun_nil, dropE_c, inL_n, dropE_n]
  refine aw_cut ⟨[(1, .list (rows frs)), (2, .ptr 0 0), (7, .ptr 40 0), (8, .fn 116 [] []), (11, dI sv), (24, .list (rows frs)), (25, dI frs.length), (26, dI k)],
    [(0, [dI l.words, dI l.s0, dI l.s1, dI l.s2, dI l.s3, .list (fls l.fl)]), (40, [dI l.words, dI l.s0, dI l.s1, dI l.s2, dI l.s3, .list (fls l.fl), .list (rows frs), .vec 48 k 1]), (48, icells (subsK l frs k))], 300⟩ ?_ ?_
  · by_cases hlen : (fr.length : Int) = l.words
    case neg =>
      have e : sv = -1 := by rw [hsub, if_neg fun h => hlen h.1]
      have q1 : ((fr.length : Int) == l.words) = false := by simp only [beq_eq_false_iff_ne]; exact hlen
      rw [e]
      (repeat' (first | (with_reducible first | refine thenQ_n ?_ | refine blockQ_n ?_ | refine thenQ_e ?_ | refine blockQ_t ?_ | refine blockQ_f (by decide) ?_) | apply aw_seq | apply aw_skip | apply aw_exit | apply aw_ret | apply aw_block | apply aw_condT rfl | apply aw_condF rfl | ((first | refine aw_hide fun K hK => aw_region ?_ | refine ago_if (by omega) ?_ | skip); simp (disch := first | exact okY | omega) only [List.length, Nat.zero_add, Nat.reduceAdd, Nat.reduceMul, Int.reduceNeg, ARun_none, AOpRun, aexec, FSt.ev, St.F, eget_c, Nat.reduceBEq, ↓eget_h, cond_false, AGo_ok, St.app, putO, eput_c, eput_n, hups, List.map, ints_len, Option.map, run1, hget_c, beq_self_eq_true, hget_n, cond_true, List.getElem?_cons_zero, isSh, Bool.false_eq_true, ↓reduceIte, abin, q1, ARun_some, AG_ft, ARun_nil, dropE_c, inL_c, inL_n, dropE_n, dI]) | subst hK))
      refine wk_q [] [(0, 0), (40, 40), (48, 48)] ?_ ?_ <;> repeat' (first | exact trivial | exact vr_val _ | exact vr_list _ | exact vr_vec _ _ _ _ rfl | exact vr_ptr _ _ _ rfl | apply vr_fn | refine And.intro ⟨_, rfl, .inl ⟨_, rfl, by decide, ?_⟩⟩ ?_ | apply And.intro | exact vrl_flat _ (by first | exact icells_in _ | exact rcells_in _ | exact scells_in _ | exact bcells_in _ | assumption))
    have q1 : ((fr.length : Int) == l.words) = true := by simp only [beq_iff_eq]; exact hlen
    have cf := cfunc_ac fr (by omega)
    cases ha : fr.all wOk with
    | false =>
      have e : sv = -1 := by rw [hsub, if_neg fun h => by have := h.2; rw [ha] at this; cases this]
      rw [ha] at cf
      rw [e]
      (repeat' (first | (with_reducible first | refine thenQ_n ?_ | refine blockQ_n ?_ | refine thenQ_e ?_ | refine blockQ_t ?_ | refine blockQ_f (by decide) ?_) | apply aw_seq | apply aw_skip | apply aw_exit | apply aw_ret | apply aw_block | apply aw_condT rfl | apply aw_condF rfl | ((first | refine aw_hide fun K hK => aw_region ?_ | refine acall0 (cf) ?_ | refine ago_if (by omega) ?_ | skip); simp (disch := first | exact okY | omega) only [List.length, Nat.zero_add, Nat.reduceAdd, Nat.reduceMul, Int.reduceNeg, ARun_none, AOpRun, aexec, FSt.ev, St.F, eget_c, Nat.reduceBEq, ↓eget_h, cond_false, AGo_ok, St.app, putO, eput_c, eput_n, hups, List.map, ints_len, Option.map, run1, hget_c, beq_self_eq_true, hget_n, cond_true, List.getElem?_cons_zero, isSh, Bool.false_eq_true, ↓reduceIte, abin, q1, ARun_some, AG_tt, dB, Bool.not_false, Bool.not_true, ARun_nil, dropE_c, inL_c, inL_n, dropE_n, dI]) | subst hK))
      refine wk_q [] [(0, 0), (40, 40), (48, 48)] ?_ ?_ <;> repeat' (first | exact trivial | exact vr_val _ | exact vr_list _ | exact vr_vec _ _ _ _ rfl | exact vr_ptr _ _ _ rfl | apply vr_fn | refine And.intro ⟨_, rfl, .inl ⟨_, rfl, by decide, ?_⟩⟩ ?_ | apply And.intro | exact vrl_flat _ (by first | exact icells_in _ | exact rcells_in _ | exact scells_in _ | exact bcells_in _ | assumption))
    | true =>
      have e : sv = idx4 l (fr[0]?.getD 0) := by rw [hsub, if_pos ⟨hlen, ha⟩]
      rw [ha] at cf
      have ix := index_ac (sync l) (fr[0]?.getD 0) (by simp [sync])
      rw [idx_sync, ← e] at ix
      have vw : ∀ c1 c2, Vw (hget [(0, [.val (.int .i64 l.words), .val (.int .i64 l.s0), .val (.int .i64 l.s1), .val (.int .i64 l.s2), .val (.int .i64 l.s3), .list (fls l.fl)]), (40, c1), (48, c2)]) [0] (.own 0 1 4 1) (.list (ints (sync l))) := fun c1 c2 => own_ints (sync l) (by simp) (c := layC l) rfl (by simp [sync]) (by simp [layC]) rfl (layC_in l)
      have g0 := ints_gd fr 0 (by omega)
      (repeat' (first | (with_reducible first | refine thenQ_n ?_ | refine blockQ_n ?_ | refine thenQ_e ?_ | refine blockQ_t ?_ | refine blockQ_f (by decide) ?_) | apply aw_seq | apply aw_skip | apply aw_exit | apply aw_ret | apply aw_block | apply aw_condT rfl | apply aw_condF rfl | ((first | refine aw_hide fun K hK => aw_region ?_ | refine acall0 (cf) ?_ | refine acall (ix) [0] ⟨vw _ _, .refl _, trivial⟩ (.inr (.val _)) (by simp only [List.mem_cons, List.not_mem_nil, or_false, forall_eq_or_imp, forall_eq]; first | exact ⟨_, rfl⟩ | exact ⟨⟨_, rfl⟩, ⟨_, rfl⟩⟩) (by kernel_rfl) ?_ | refine ago_if (by omega) ?_ | skip); simp (disch := first | exact okY | omega) only [List.length, Nat.zero_add, Nat.reduceAdd, Nat.reduceMul, Int.reduceNeg, ARun_none, AOpRun, aexec, FSt.ev, St.F, eget_c, Nat.reduceBEq, ↓eget_h, cond_false, AGo_ok, St.app, putO, eput_c, eput_n, hups, List.map, ints_len, Option.map, run1, hget_c, beq_self_eq_true, hget_n, cond_true, List.getElem?_cons_zero, isSh, Bool.false_eq_true, ↓reduceIte, abin, q1, ARun_some, AG_tt, dB, Bool.not_true, Bool.not_false, ARun_nil, dropE_c, inL_c, inL_n, dropE_n, asI, cast_lit, Int.le_refl, Int.reduceLE, Nat.mul_one, Nat.reduceLeDiff, Int.reduceLT, or_self, and_self, Int.toNat_zero, Int.reduceSub, Int.reduceToNat, ints_all, opt1, g0, dI]) | subst hK))
      refine wk_q [] [(0, 0), (40, 40), (48, 48)] ?_ ?_ <;> repeat' (first | exact trivial | exact vr_val _ | exact vr_list _ | exact vr_vec _ _ _ _ rfl | exact vr_ptr _ _ _ rfl | apply vr_fn | refine And.intro ⟨_, rfl, .inl ⟨_, rfl, by decide, ?_⟩⟩ ?_ | apply And.intro | exact vrl_flat _ (by first | exact icells_in _ | exact rcells_in _ | exact scells_in _ | exact bcells_in _ | assumption))
  · have hic : (icells (subsK l frs k)).length = k := by rw [icells_len, hsl]
    have e : icells (subsK l frs (k + 1)) = icells (subsK l frs k) ++ [.val (.int .i64 sv)] := by rw [hss, ← ic_app]
    have hcin : ∀ y ∈ icells (subsK l frs k) ++ [.val (.int .i64 sv)], In (fun _ => False) y := by rw [← e]; exact icells_in _
    (repeat' (first | (with_reducible first | refine thenQ_n ?_ | refine blockQ_n ?_ | refine thenQ_e ?_ | refine blockQ_t ?_ | refine blockQ_f (by decide) ?_) | apply aw_seq | apply aw_skip | apply aw_exit | apply aw_ret | apply aw_block | apply aw_condT rfl | apply aw_condF rfl | ((first | refine aw_hide fun K hK => aw_region ?_ | refine ago_if (by omega) ?_ | skip); simp (disch := first | exact okY | omega) only [List.length, Nat.zero_add, Nat.reduceAdd, Nat.reduceMul, dI, ARun_none, AOpRun, aexec, FSt.ev, St.F, eget_c, Nat.reduceBEq, ↓eget_h, cond_false, AGo_ok, St.app, putO, eput_c, eput_n, hups, List.map, Option.map, run1, hget_c, ↓hget_h, List.getElem?_cons_succ, List.getElem?_cons_zero, Option.isSome, hget_n, Bool.false_eq_true, ↓reduceIte, fillD, D.isBot, D.cells, ne_eq, not_true_eq_false, Nat.reduceGT, or_self, splice, List.take, List.nil_append, List.drop, List.append_nil, hput_c, hput_n, base, Nat.mul_one, hic, Nat.le_refl, and_self, hit, elems, List.all, D.leaf, Bool.and_true, and_true, ups, List.cons_append, hdel_c, beq_self_eq_true, hdel_n, cond_true, ARun_nil, dropE_c, inL_c, inL_n, dropE_n, isSh, abin, fits]) | subst hK))
    refine ⟨k + 1, by omega, by omega, ?_⟩
    rw [e]
    refine wk_q [] [(0, 0), (40, 40), (48, 356)] ?_ ?_ <;> repeat' (first | exact trivial | exact vr_val _ | exact vr_list _ | exact vr_vec _ _ _ _ rfl | exact vr_ptr _ _ _ rfl | apply vr_fn | refine And.intro ⟨_, rfl, .inl ⟨_, rfl, by decide, ?_⟩⟩ ?_ | apply And.intro | exact vrl_flat _ (by first | exact icells_in _ | exact rcells_in _ | exact scells_in _ | exact bcells_in _ | assumption))
end Go.Proofs.Ytdcodicoclecnaa
/- record: the loop over the good frames of a tape, whatever its body does. No conditions. -/
namespace Go.Proofs.Ytdcodicoclecnaa.Lift
open Go Go.RowKit

theorem nle {a b : Nat} (h : Nat.ble a b = true) : a ≤ b := Nat.le_of_ble_eq_true h
theorem nlt {a b : Nat} (h : Nat.ble (a + 1) b = true) : a < b := Nat.le_of_ble_eq_true h
theorem In.mono {S T : Nat → Prop} {d : D} (h : In S d) (hT : ∀ g, S g → T g) : In T d := by
  induction h with
  | bot => exact .bot
  | val v => exact .val v
  | agg l _ ih => exact .agg l fun d hd => ih d hd
  | tup l _ ih => exact .tup l fun d hd => ih d hd
  | list l => exact .list l
  | at_ l => exact .at_ l
  | own g off len sz h => exact .own g off len sz (hT g h)
  | cap0 => exact .cap0
  | ptr g off h => exact .ptr g off (hT g h)
  | vec g len sz h => exact .vec g len sz (hT g h)
  | fn f k l _ _ ih1 ih2 => exact .fn f k l (fun d hd => ih1 d hd) fun d hd => ih2 d hd
  | yld g r k h _ ih => exact .yld g r k (hT g h) fun d hd => ih d hd
  | yref g h => exact .yref g (hT g h)
def LowH (n : Nat) (h : Hp) : Prop := (∀ g c, hget h g = some c → g < n ∧ ∀ d ∈ c, In (· < n) d) ∧ hpY h = true
theorem LowH.cons {n g : Nat} {c : List D} {h : Hp} (hg : g < n) (hc : ∀ d ∈ c, In (· < n) d) (hy : c.all (noY 9) = true) (h1 : LowH n h) : LowH n ((g, c) :: h) := by
  refine ⟨fun g' c' h2 => ?_, by simp only [hpY, List.all_cons, hy, Bool.true_and]; exact h1.2⟩
  simp only [hget] at h2
  split at h2
  · rename_i he; cases h2; subst he; exact ⟨hg, hc⟩
  · exact h1.1 g' c' h2
theorem LowH.nil {n : Nat} : LowH n [] := ⟨fun g c h => by simp [hget] at h, rfl⟩
theorem LowH.get {n m : Nat} {h : Hp} (h1 : LowH n h) (hm : n ≤ m) : ∀ g c, hget h g = some c → g < m ∧ ∀ d ∈ c, In (· < m) d := fun g c hc =>
  ⟨Nat.lt_of_lt_of_le (h1.1 g c hc).1 hm, fun d hd => ((h1.1 g c hc).2 d hd).mono fun x hx => Nat.lt_of_lt_of_le hx hm⟩
end Go.Proofs.Ytdcodicoclecnaa.Lift
namespace Go.Proofs.Ytdcodicoclecnaa
open Go Go.RowKit Lift

set_option maxRecDepth 100000 in
set_option maxHeartbeats 4000000 in
theorem good_hit {n : Nat} {ps : List Nat} {asg : List (Nat × Nat)} {cb : ACode} {r : Loop} (hr : LoopIs Try.prog n ps asg cb r) (hps : ps.length = 2) (l : Lay) (frs : List (List Int)) (hn : frs.length ≤ 200)
    (pin : List Nat) (hpin : ∀ g ∈ pin, g < 1000) (k : List D) (hk : kOK k = true) (hkp : ∀ d ∈ k, In (· ∈ pin) d) (h96 : 96 ∈ pin) (hp : Nat → Hp) (hlow : ∀ i, LowH 1000 (hp i)) {Q : AExit → St → Prop} {env' : Env}
    (hno : ∀ i, i < frs.length → ¬ 0 ≤ subF l (frm frs i) → hp (i + 1) = hp i)
    (hb : ∀ i, i < frs.length → 0 ≤ subF l (frm frs i) → AWb true Try.prog n (1000 :: pin) cb (fun e s => e = .norm ∧ Wk (1000 :: pin) s ⟨[], (96, tpC l frs) :: hp (i + 1), 1300⟩) ⟨bodyE k ps [dI i, dI (subF l (frm frs i))] asg, (96, tpC l frs) :: hp i, 1300⟩)
    (hQ : Q .norm ⟨env', (96, tpC l frs) :: hp frs.length, 1100⟩) : AWb false Try.prog 26 pin cprecord_tape_good (RangeQ Q env') ⟨envOf 0 [.ptr 96 0, .yld 1000 r k], (96, tpC l frs) :: hp 0, 1008⟩ := by
  have hmax : maxLen = 9223372036854775807 := rfl
  have hL : ∀ i, LowH 1000 ((96, tpC l frs) :: hp i) := fun i => (hlow i).cons (by omega) (tpC_in _ l frs) rfl
  have hpre : ∀ m, 1000 ≤ m → ∀ g ∈ pin, g < m := fun m hm g hg => Nat.lt_of_lt_of_le (hpin g hg) hm
  have hkl : ∀ m, 1001 ≤ m → In (· < m) (.yld 1000 r k) := fun m hm => .yld _ _ _ (by show 1000 < m; omega) fun d hd => (hkp d hd).mono fun g hg => hpre m (by omega) g hg
  refine aw_post (Q := fun e s => e = .norm ∧ s.hp = (96, tpC l frs) :: hp frs.length) ?_ ?_
  case refine_2 =>
    rintro e s ⟨rfl, hs⟩
    exact ⟨⟨[], (96, tpC l frs) :: hp frs.length, 1100⟩, wk_low (hpre _ (nle rfl)) hs.symm trivial (by rw [hs]; exact (hL _).get (nle rfl)), rangeQ (.inl rfl) (hL _).2 hQ⟩
  have hsl := subsK_len l frs frs.length
  unfold cprecord_tape_good
  unfold tpC at *
  refine aw_seq (aw_region ?_)
  simp (disch := first | exact okY | omega) only [thenQ, dI, List.length, Nat.zero_add, Nat.reduceAdd, Nat.reduceMul, envOf, ARun_none, AOpRun, aexec, FSt.ev, St.F, ↓eget_h, AGo_ok, St.app, putO, eput_c, Nat.reduceBEq, eput_n, cond_false, hups, List.map, eget_c, Option.map, run1, hget_c, beq_self_eq_true, cond_true, List.getElem?_cons_succ, List.getElem?_cons_zero, ints_len, hsl, ARun_nil, dropE_c, inL_c, inL_n, dropE_n]
  refine aw_block (aw_loop (fun i : Nat => ⟨[(0, .ptr 96 0), (1, .yld 1000 r k), (9, .list (ints (subsK l frs frs.length))), (10, dI frs.length), (11, dI i)], (96, tpC l frs) :: hp i, 1100⟩) (fun i => i ≤ frs.length) (fun i => frs.length - i) ⟨0, by omega, ?_⟩ ?_)
  · exact wk_low (hpre _ (nle rfl)) rfl ⟨rfl, .ptr _ _ (nlt rfl), rfl, hkl _ (nle rfl), rfl, .list _, rfl, .val _, rfl, .val _, trivial⟩ ((hL 0).get (nle rfl))
  intro i hi
  unfold tpC
  refine aw_seq (aw_region ?_)
  by_cases hi2 : i < frs.length
  case neg =>
    obtain rfl : i = frs.length := by omega
    simp (disch := first | exact okY | omega) only [thenQ, dI, List.length, Nat.zero_add, Nat.reduceMul, Nat.reduceAdd, ARun_none, AOpRun, aexec, FSt.ev, St.F, eget_c, Nat.reduceBEq, ↓eget_h, cond_false, isSh, Bool.false_eq_true, ↓reduceIte, Option.map, abin, Int.lt_irrefl, decide_false, AGo_ok, St.app, putO, eput_c, eput_n, hups, List.map, ARun_nil, dropE_c, inL_n, dropE_n]
    refine aw_seq (aw_condF rfl ?_)
    refine aw_exit ?_
    simp only [thenQ, blockQ, if_true, if_false, Nat.reduceEqDiff, reduceCtorEq]
    exact ⟨trivial, trivial⟩
  have ki : (i : Int) < (frs.length : Int) := by omega
  simp (disch := first | exact okY | omega) only [thenQ, dI, List.length, Nat.zero_add, Nat.reduceMul, Nat.reduceAdd, ARun_none, AOpRun, aexec, FSt.ev, St.F, eget_c, Nat.reduceBEq, ↓eget_h, cond_false, isSh, Bool.false_eq_true, ↓reduceIte, Option.map, abin, ki, decide_true, AGo_ok, St.app, putO, eput_c, eput_n, hups, List.map, ARun_nil, dropE_c, inL_n, dropE_n]
  refine aw_seq (aw_condT rfl ?_)
  have g1 := ints_gd (subsK l frs frs.length) i (by omega)
  rw [subsK_get l frs frs.length i hi2] at g1
  refine aw_skip (aw_seq (aw_block (aw_seq (aw_region ?_))))
  simp (disch := first | exact okY | omega) only [thenQ, List.length, Nat.zero_add, Nat.reduceAdd, Nat.reduceMul, ARun_none, AOpRun, aexec, FSt.ev, St.F, eget_c, Nat.reduceBEq, ↓eget_h, cond_false, AGo_ok, St.app, putO, eput_c, eput_n, hups, List.map, Int.natCast_nonneg, ints_all, and_self, ↓reduceIte, opt1, Option.map, Int.toNat_natCast, g1, run1, List.getElem?_cons_zero, ARun_nil, dropE_c, inL_c, inL_n, beq_self_eq_true, cond_true, dropE_n]
  by_cases hs : 0 ≤ subF l (frm frs i)
  case neg =>
    have q : decide (subF l (frm frs i) ≥ 0) = false := decide_eq_false hs
    refine aw_seq (aw_region ?_)
    simp (disch := first | exact okY | omega) only [thenQ, List.length, Nat.zero_add, Nat.reduceAdd, Nat.reduceMul, ARun_none, AOpRun, aexec, FSt.ev, St.F, eget_c, Nat.reduceBEq, ↓eget_h, cond_false, AGo_ok, St.app, putO, eput_c, eput_n, hups, List.map, isSh, Bool.false_eq_true, ↓reduceIte, Option.map, abin, q, ARun_some, AG_ft, ARun_nil, dropE_c, inL_c, inL_n, beq_self_eq_true, cond_true, dropE_n]
    refine aw_condF rfl (aw_skip ?_)
    simp only [thenQ, blockQ, if_true, if_false, Nat.reduceEqDiff, reduceCtorEq]
    refine aw_region ?_
    simp (disch := first | exact okY | omega) only [thenQ, List.length, Nat.zero_add, Nat.reduceAdd, Nat.reduceMul, ARun_none, AOpRun, aexec, FSt.ev, St.F, eget_c, Nat.reduceBEq, ↓eget_h, cond_false, isSh, Bool.false_eq_true, ↓reduceIte, Option.map, abin, fits, AGo_ok, St.app, putO, eput_c, eput_n, hups, List.map, beq_self_eq_true, cond_true, ARun_nil, dropE_c, inL_c, inL_n, dropE_n]
    refine ⟨i + 1, by omega, by omega, ?_⟩
    rw [hno i hi2 hs]
    exact wk_low (hpre _ (nle rfl)) rfl ⟨rfl, .ptr _ _ (nlt rfl), rfl, hkl _ (nle rfl), rfl, .list _, rfl, .val _, rfl, .val _, trivial⟩ ((hL i).get (nle rfl))
  have q : decide (subF l (frm frs i) ≥ 0) = true := decide_eq_true hs
  refine aw_seq (aw_region_yieldG hr [⟨some 16, .mv (.tmp 5), none, []⟩, ⟨some 17, .bin .geq (.tmp 16) (.const (.int .i64 0)), none, []⟩, ⟨some 18, .mv (.tmp 17), none, []⟩, ⟨some 19, .mv (.tmp 1), (some (some 18, true)), []⟩, ⟨some 20, .mv (.tmp 4), (some (some 18, true)), []⟩, ⟨some 21, .mv (.tmp 5), (some (some 18, true)), []⟩]
    [⟨some 23, .un .not (.tmp 22), (some (some 18, true)), []⟩, ⟨some 24, .pick (.tmp 18) (.tmp 23) (.const (.bool false)), none, []⟩] ?_)
  simp (disch := first | exact okY | omega) only [List.length, Nat.zero_add, Nat.reduceAdd, Nat.reduceMul, ARun_none, AOpRun, aexec, FSt.ev, St.F, eget_c, Nat.reduceBEq, ↓eget_h, cond_false, AGo_ok, St.app, putO, eput_c, eput_n, hups, List.map, isSh, Bool.false_eq_true, ↓reduceIte, Option.map, abin, q, ARun_some, AG_tt, ARun_nil]
  refine yieldKG (1000 :: pin) [(0, .ptr 96 0), (1, .yld 1000 r k), (9, .list (ints (subsK l frs frs.length))), (10, dI frs.length), (11, dI i), (18, dB true)] [dI i, dI (subF l (frm frs i))] rfl rfl rfl hr hps.symm rfl hk (hL i).2 (fun g hg => List.mem_cons_of_mem _ hg)
    ⟨.inr ⟨rfl, .ptr _ _ (List.mem_cons_of_mem _ h96)⟩, .inr ⟨rfl, .yld _ _ _ (List.mem_cons_self ..) fun d hd => (hkp d hd).mono fun g hg => List.mem_cons_of_mem _ hg⟩, .inr ⟨rfl, .list _⟩, .inr ⟨rfl, .val _⟩, .inr ⟨rfl, .val _⟩, .inr ⟨rfl, .val _⟩, trivial⟩ ?_
  refine aw_wk (wk_up (m := 1300) (by decide)) (aw_post (hb i hi2 hs) ?_)
  rintro e s ⟨rfl, hw⟩
  refine ⟨_, hw, yieldQ (hL (i + 1)).2 (nle rfl) ?_⟩
  simp (disch := first | exact okY | omega) only [Nat.reduceAdd, Nat.reduceMul, Nat.reduceSub, thenQ, List.length, Nat.zero_add, putO, dI, dB, eput_c, Nat.reduceBEq, eput_n, cond_false, ARun_some, eget_c, ↓eget_h, AG_tt, AOpRun, aexec, FSt.ev, St.F, Bool.not_true, AGo_ok, St.app, hups, List.map, ARun_none, ↓reduceIte, ARun_nil, dropE_c, inL_c, inL_n, beq_self_eq_true, cond_true, dropE_n]
  refine aw_condF rfl (aw_skip ?_)
  simp only [thenQ, blockQ, if_true, if_false, Nat.reduceEqDiff, reduceCtorEq]
  refine aw_region ?_
  simp (disch := first | exact okY | omega) only [thenQ, List.length, Nat.zero_add, Nat.reduceAdd, Nat.reduceMul, ARun_none, AOpRun, aexec, FSt.ev, St.F, eget_c, Nat.reduceBEq, ↓eget_h, cond_false, isSh, Bool.false_eq_true, ↓reduceIte, Option.map, abin, fits, AGo_ok, St.app, putO, eput_c, eput_n, hups, List.map, beq_self_eq_true, cond_true, ARun_nil, dropE_c, inL_c, inL_n, dropE_n]
  refine ⟨i + 1, by omega, by omega, ?_⟩
  exact wk_low (hpre _ (nle rfl)) rfl ⟨rfl, .ptr _ _ (nlt rfl), rfl, hkl _ (nle rfl), rfl, .list _, rfl, .val _, rfl, .val _, trivial⟩ ((hL (i + 1)).get (nle rfl))
end Go.Proofs.Ytdcodicoclecnaa
