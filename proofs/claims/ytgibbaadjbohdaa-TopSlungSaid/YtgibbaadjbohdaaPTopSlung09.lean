/- Texts of the law TopSlung, part 9. No conditions. -/
import Derived.Test.YtgibbaadjbohdaaPTopSlung08
import Derived.Test.YtgibbaadjbohdaaRows
/- The functions' bodies, translated. Written by a program; no conditions. -/
namespace Go.Proofs.Ytgibbaadjbohdaa
open Go.RowKit Lift

/-- sling_CheckHoist -/
def csling_CheckHoist : ACode :=
  (.seq
   (.region false [⟨some 1, .box (.tmp 0), none, []⟩,
     ⟨some 2, .mv (.const (.int .i64 0)), none, []⟩] [])
  (.seq
   (.region false [⟨some 4, .fad 1 (.tmp 1), none, []⟩,
     ⟨some 5, .fad 0 (.tmp 4), none, []⟩,
     ⟨some 6, .load1 (.tmp 5), none, []⟩,
     ⟨some 3, .mv (.tmp 6), none, []⟩] [4, 5, 6])
  (.seq
   (.seq
    (.region true [⟨some 7, .fad 0 (.tmp 1), none, []⟩,
      ⟨some 8, .load1 (.tmp 7), none, [0]⟩,
      ⟨some 9, .call (.func 50) [(.tmp 8), (.const (.int .i64 1)), (.const (.int .i64 100))], none, [1, 0]⟩,
      ⟨some 10, .un .not (.tmp 9), none, [2, 1, 0]⟩,
      ⟨some 11, .mv (.tmp 10), none, [3, 2, 1, 0]⟩,
      ⟨some 12, .fad 1 (.tmp 1), (some (some 11, false)), [4, 3, 2, 1, 0]⟩,
      ⟨some 13, .loadN 3 (.tmp 12), (some (some 11, false)), [5, 4, 3, 2, 1, 0]⟩,
      ⟨some 14, .call (.func 110) [(.tmp 13)], (some (some 11, false)), [6, 5, 4, 3, 2, 1, 0]⟩,
      ⟨some 15, .bin .neq (.tmp 14) (.const (.int .i64 0)), (some (some 11, false)), [7, 6, 5, 4, 3, 2, 1, 0]⟩,
      ⟨some 16, .pick (.tmp 11) (.const (.bool true)) (.tmp 15), none, [4, 3, 2, 1, 0, 8, 7, 6, 5]⟩,
      ⟨some 17, .mv (.tmp 16), none, [9, 4, 3, 2, 1, 0, 8, 7, 6, 5]⟩,
      ⟨some 18, .mv (.tmp 3), (some (some 17, false)), [10, 9, 4, 3, 2, 1, 0, 8, 7, 6, 5]⟩,
      ⟨some 19, .iadS 1 (.tmp 18) (.const (.int .i64 0)), (some (some 17, false)), [11, 10, 9, 4, 3, 2, 1, 0, 8, 7, 6, 5]⟩,
      ⟨some 20, .load1 (.tmp 19), (some (some 17, false)), [12, 11, 10, 9, 4, 3, 2, 1, 0, 8, 7, 6, 5]⟩,
      ⟨some 21, .bin .gtr (.tmp 20) (.const (.int .i64 0)), (some (some 17, false)), [13, 12, 11, 10, 9, 4, 3, 2, 1, 0, 8, 7, 6, 5]⟩,
      ⟨some 22, .pick (.tmp 17) (.const (.bool true)) (.tmp 21), none, [10, 9, 4, 3, 2, 1, 0, 8, 7, 6, 5, 14, 13, 12, 11]⟩,
      ⟨some 23, .mv (.tmp 22), none, [15, 10, 9, 4, 3, 2, 1, 0, 8, 7, 6, 5, 14, 13, 12, 11]⟩,
      ⟨some 24, .mv (.tmp 3), (some (some 23, false)), [16, 15, 10, 9, 4, 3, 2, 1, 0, 8, 7, 6, 5, 14, 13, 12, 11]⟩,
      ⟨some 25, .mv (.tmp 3), (some (some 23, false)), [16, 15, 10, 9, 4, 3, 2, 1, 0, 8, 7, 6, 5, 14, 13, 12, 11]⟩,
      ⟨some 26, .len_ (.tmp 25), (some (some 23, false)), [18, 16, 15, 10, 9, 4, 3, 2, 1, 0, 8, 7, 6, 5, 14, 13, 12, 11]⟩,
      ⟨some 27, .bin .sub (.tmp 26) (.const (.int .i64 1)), (some (some 23, false)), [19, 18, 16, 15, 10, 9, 4, 3, 2, 1, 0, 8, 7, 6, 5, 14, 13, 12, 11]⟩,
      ⟨some 28, .iadS 1 (.tmp 24) (.tmp 27), (some (some 23, false)), [17, 16, 15, 10, 9, 4, 3, 2, 1, 0, 8, 7, 6, 5, 14, 13, 12, 11, 20, 19, 18]⟩,
      ⟨some 29, .load1 (.tmp 28), (some (some 23, false)), [21, 17, 16, 15, 10, 9, 4, 3, 2, 1, 0, 8, 7, 6, 5, 14, 13, 12, 11, 20, 19, 18]⟩,
      ⟨some 30, .fad 0 (.tmp 1), (some (some 23, false)), [16, 15, 10, 9, 4, 3, 2, 1, 0, 8, 7, 6, 5, 14, 13, 12, 11]⟩,
      ⟨some 31, .load1 (.tmp 30), (some (some 23, false)), [23, 16, 15, 10, 9, 4, 3, 2, 1, 0, 8, 7, 6, 5, 14, 13, 12, 11]⟩,
      ⟨some 32, .bin .lss (.tmp 29) (.tmp 31), (some (some 23, false)), [22, 21, 17, 16, 15, 10, 9, 4, 3, 2, 1, 0, 8, 7, 6, 5, 14, 13, 12, 11, 20, 19, 18, 24, 23]⟩,
      ⟨some 33, .pick (.tmp 23) (.const (.bool true)) (.tmp 32), none, [16, 15, 10, 9, 4, 3, 2, 1, 0, 8, 7, 6, 5, 14, 13, 12, 11, 25, 22, 21, 17, 20, 19, 18, 24, 23]⟩,
      ⟨some 34, .mv (.tmp 33), none, [26, 16, 15, 10, 9, 4, 3, 2, 1, 0, 8, 7, 6, 5, 14, 13, 12, 11, 25, 22, 21, 17, 20, 19, 18, 24, 23]⟩,
      ⟨some 35, .fad 4 (.tmp 1), (some (some 34, false)), [27, 26, 16, 15, 10, 9, 4, 3, 2, 1, 0, 8, 7, 6, 5, 14, 13, 12, 11, 25, 22, 21, 17, 20, 19, 18, 24, 23]⟩,
      ⟨some 36, .load1 (.tmp 35), (some (some 34, false)), [28, 27, 26, 16, 15, 10, 9, 4, 3, 2, 1, 0, 8, 7, 6, 5, 14, 13, 12, 11, 25, 22, 21, 17, 20, 19, 18, 24, 23]⟩,
      ⟨some 37, .call (.func 50) [(.tmp 36), (.const (.int .i64 0)), (.const (.int .i64 100))], (some (some 34, false)), [29, 28, 27, 26, 16, 15, 10, 9, 4, 3, 2, 1, 0, 8, 7, 6, 5, 14, 13, 12, 11, 25, 22, 21, 17, 20, 19, 18, 24, 23]⟩,
      ⟨some 38, .un .not (.tmp 37), (some (some 34, false)), [30, 29, 28, 27, 26, 16, 15, 10, 9, 4, 3, 2, 1, 0, 8, 7, 6, 5, 14, 13, 12, 11, 25, 22, 21, 17, 20, 19, 18, 24, 23]⟩,
      ⟨some 39, .pick (.tmp 34) (.const (.bool true)) (.tmp 38), none, [27, 26, 16, 15, 10, 9, 4, 3, 2, 1, 0, 8, 7, 6, 5, 14, 13, 12, 11, 25, 22, 21, 17, 20, 19, 18, 24, 23, 31, 30, 29, 28]⟩] [7, 8, 9, 10, 11, 12, 13, 14, 15, 16, 17, 18, 19, 20, 21, 22, 23, 24, 25, 26, 27, 28, 29, 30, 31, 32, 33, 34, 35, 36, 37, 38])
   (.cond (.tmp 39)
     (.seq
      (.region false [⟨some 2, .mv (.const (.int .i64 71)), none, []⟩] [])
     .ret)
     .skip))
  (.seq
   (.region false [⟨some 2, .mv (.const (.int .i64 0)), none, []⟩] [])
  .ret))))
set_option maxRecDepth 100000 in
theorem ksling_CheckHoist : IsCode Try.prog 89 40 csling_CheckHoist [.tmp 2] :=
  ⟨Try.f89, _, [39, 0, 1, 3, 2], Try.func89, rfl, by decide, rfl, by kernel_rfl, by kernel_rfl⟩
/-- sling_newWinch -/
def csling_newWinch : ACode :=
  (.seq
   (.region false [⟨some 2, .box (.tmp 0), none, []⟩,
     ⟨some 3, .box (.tmp 1), none, []⟩,
     ⟨some 4, .mv (.const (.pointer none)), none, []⟩,
     ⟨some 5, .mv (.const (.bool false)), none, []⟩,
     ⟨some 6, .mv (.const (.int .i64 0)), none, []⟩] [])
  (.seq
   (.seq
    (.region false [⟨some 10, .loadN 5 (.tmp 2), none, []⟩,
      ⟨some 11, .call (.func 89) [(.tmp 10)], none, []⟩,
      ⟨some 7, .mv (.tmp 11), none, []⟩] [10, 11])
   (.seq
    (.region false [⟨some 12, .mv (.tmp 7), none, []⟩,
      ⟨some 13, .bin .neq (.tmp 12) (.const (.int .i64 0)), none, []⟩] [12])
   (.cond (.tmp 13)
     (.seq
      (.region false [⟨some 14, .mv (.tmp 7), none, []⟩,
        ⟨some 4, .mv (.const (.pointer none)), none, []⟩,
        ⟨some 5, .mv (.const (.bool false)), none, []⟩,
        ⟨some 6, .mv (.tmp 14), none, []⟩] [14])
     .ret)
     .skip)))
  (.seq
   (.seq
    (.region false [⟨some 15, .loadN 2 (.tmp 3), none, []⟩,
      ⟨some 16, .buildSl 2 1 [(.val (.int .i64 0)), (.val (.int .i64 0))] [(0, 2, (.tmp 15))], none, []⟩,
      ⟨some 17, .call (.func 77) [(.tmp 16)], none, []⟩,
      ⟨some 8, .mv (.tmp 17), none, []⟩] [15, 16, 17])
   (.seq
    (.region false [⟨some 18, .mv (.tmp 8), none, []⟩,
      ⟨some 19, .bin .neq (.tmp 18) (.const (.int .i64 0)), none, []⟩] [18])
   (.cond (.tmp 19)
     (.seq
      (.region false [⟨some 20, .mv (.tmp 8), none, []⟩,
        ⟨some 4, .mv (.const (.pointer none)), none, []⟩,
        ⟨some 5, .mv (.const (.bool false)), none, []⟩,
        ⟨some 6, .mv (.tmp 20), none, []⟩] [20])
     .ret)
     .skip)))
  (.seq
   (.region false [⟨some 21, .fad 1 (.tmp 2), none, []⟩,
     ⟨some 22, .fad 1 (.tmp 21), none, []⟩,
     ⟨some 23, .load1 (.tmp 22), none, []⟩,
     ⟨some 9, .mv (.tmp 23), none, []⟩] [21, 22, 23])
  (.seq
   (.region true [⟨some 24, .loadN 5 (.tmp 2), none, []⟩,
     ⟨some 25, .loadN 2 (.tmp 3), none, []⟩,
     ⟨some 26, .build [(.val (.int .i64 0)), (.val (.slice none 0 0)), (.val (.slice none 0 0)), (.val (.slice none 0 0)), (.val (.int .i64 0)), (.val (.int .i64 0)), (.val (.int .i64 0)), (.val (.int .i64 0)), (.val (.int .i64 0)), (.val (.int .i64 0)), (.val (.int .i64 0)), (.val (.bool false)), (.val (.bool false))] [(0, 5, (.tmp 24)), (5, 2, (.tmp 25))], none, [0, 1]⟩,
     ⟨some 27, .box (.tmp 26), none, [2, 0, 1]⟩,
     ⟨some 28, .fad 0 (.tmp 3), none, []⟩,
     ⟨some 29, .load1 (.tmp 28), none, [4]⟩,
     ⟨some 30, .mv (.tmp 9), none, []⟩,
     ⟨some 31, .iadS 1 (.tmp 30) (.const (.int .i64 0)), none, [6]⟩,
     ⟨some 32, .load1 (.tmp 31), none, [7, 6]⟩,
     ⟨some 33, .bin .geq (.tmp 29) (.tmp 32), none, [5, 4, 8, 7, 6]⟩,
     ⟨some 34, .mv (.tmp 33), none, [9, 5, 4, 8, 7, 6]⟩,
     ⟨some 35, .fad 1 (.tmp 3), (some (some 34, true)), [10, 9, 5, 4, 8, 7, 6]⟩,
     ⟨some 36, .load1 (.tmp 35), (some (some 34, true)), [11, 10, 9, 5, 4, 8, 7, 6]⟩,
     ⟨some 37, .mv (.tmp 9), (some (some 34, true)), [10, 9, 5, 4, 8, 7, 6]⟩,
     ⟨some 38, .mv (.tmp 9), (some (some 34, true)), [10, 9, 5, 4, 8, 7, 6]⟩,
     ⟨some 39, .len_ (.tmp 38), (some (some 34, true)), [14, 10, 9, 5, 4, 8, 7, 6]⟩,
     ⟨some 40, .bin .sub (.tmp 39) (.const (.int .i64 1)), (some (some 34, true)), [15, 14, 10, 9, 5, 4, 8, 7, 6]⟩,
     ⟨some 41, .iadS 1 (.tmp 37) (.tmp 40), (some (some 34, true)), [13, 10, 9, 5, 4, 8, 7, 6, 16, 15, 14]⟩,
     ⟨some 42, .load1 (.tmp 41), (some (some 34, true)), [17, 13, 10, 9, 5, 4, 8, 7, 6, 16, 15, 14]⟩,
     ⟨some 43, .bin .leq (.tmp 36) (.tmp 42), (some (some 34, true)), [12, 11, 10, 9, 5, 4, 8, 7, 6, 18, 17, 13, 16, 15, 14]⟩,
     ⟨some 44, .pick (.tmp 34) (.tmp 43) (.const (.bool false)), none, [10, 9, 5, 4, 8, 7, 6, 19, 12, 11, 18, 17, 13, 16, 15, 14]⟩,
     ⟨some 4, .mv (.tmp 27), none, [3, 2, 0, 1, 10, 9, 5, 4, 8, 7, 6]⟩,
     ⟨some 5, .mv (.tmp 44), none, [20, 10, 9, 5, 4, 8, 7, 6, 19, 12, 11, 18, 17, 13, 16, 15, 14, 21, 3, 2, 0, 1]⟩,
     ⟨some 6, .mv (.const (.int .i64 0)), none, [22, 20, 10, 9, 5, 4, 8, 7, 6, 19, 12, 11, 18, 17, 13, 16, 15, 14, 21, 3, 2, 0, 1]⟩] [24, 25, 26, 27, 28, 29, 30, 31, 32, 33, 34, 35, 36, 37, 38, 39, 40, 41, 42, 43, 44])
  .ret)))))
set_option maxRecDepth 100000 in
theorem ksling_newWinch : IsCode Try.prog 48 45 csling_newWinch [.tmp 4, .tmp 5, .tmp 6] :=
  ⟨Try.f48, _, [19, 13, 0, 1, 2, 7, 3, 8, 9, 4, 5, 6], Try.func48, rfl, by decide, rfl, by kernel_rfl, by kernel_rfl⟩
/-- psling_winch_carries -/
def cpsling_winch_carries : ACode :=
  (.seq
   (.region false [⟨some 4, .box (.tmp 1), none, []⟩,
     ⟨some 6, .mv (.const (.bool false)), none, []⟩] [])
  (.seq
   (.seq
    (.region false [⟨some 9, .mv (.tmp 2), none, []⟩,
      ⟨some 10, .bin .eql (.tmp 9) (.const (.int .i64 0)), none, []⟩] [9])
   (.cond (.tmp 10)
     (.seq
      (.region false [⟨some 6, .mv (.const (.bool true)), none, []⟩] [])
     .ret)
     .skip))
  (.seq
   (.region true [⟨some 12, .mv (.tmp 0), none, []⟩,
     ⟨some 13, .nilc (.tmp 12), none, [0]⟩,
     ⟨some 14, .fad 0 (.tmp 13), none, [1, 0]⟩,
     ⟨some 15, .fad 1 (.tmp 14), none, [2, 1, 0]⟩,
     ⟨some 16, .loadN 3 (.tmp 15), none, [3, 2, 1, 0]⟩,
     ⟨some 17, .loadN 2 (.tmp 4), none, []⟩,
     ⟨some 18, .mv (.tmp 0), none, []⟩,
     ⟨some 19, .nilc (.tmp 18), none, [6]⟩,
     ⟨some 20, .fad 5 (.tmp 19), none, [7, 6]⟩,
     ⟨some 21, .loadN 2 (.tmp 20), none, [8, 7, 6]⟩,
     ⟨some 22, .call (.func 33) [(.tmp 16), (.tmp 17), (.tmp 21)], none, [4, 3, 2, 1, 0, 5, 9, 8, 7, 6]⟩,
     ⟨some 11, .mv (.tmp 22), none, [10, 4, 3, 2, 1, 0, 5, 9, 8, 7, 6]⟩,
     ⟨some 23, .ext (.tmp 11) 0, none, [11, 10, 4, 3, 2, 1, 0, 5, 9, 8, 7, 6]⟩,
     ⟨some 24, .ext (.tmp 11) 1, none, [11, 10, 4, 3, 2, 1, 0, 5, 9, 8, 7, 6]⟩,
     ⟨some 7, .mem [(.val (.int .i64 0)), (.val (.int .i64 0))], none, []⟩,
     ⟨none, .store 2 (.tmp 7) (.tmp 23), none, [14, 12, 11, 10, 4, 3, 2, 1, 0, 5, 9, 8, 7, 6]⟩,
     ⟨some 8, .mv (.tmp 24), none, [13, 11, 10, 4, 3, 2, 1, 0, 5, 9, 8, 7, 6, 15, 14, 12]⟩] [12, 13, 14, 15, 16, 17, 18, 19, 20, 21, 22, 11, 23, 24])
  (.seq
   (.region false [⟨some 25, .mv (.tmp 8), none, []⟩,
     ⟨some 26, .bin .eql (.tmp 25) (.const (.int .i64 0)), none, []⟩,
     ⟨some 27, .mv (.tmp 26), none, []⟩,
     ⟨some 28, .fad 0 (.tmp 7), (some (some 27, true)), []⟩,
     ⟨some 29, .load1 (.tmp 28), (some (some 27, true)), []⟩,
     ⟨some 30, .mv (.tmp 2), (some (some 27, true)), []⟩,
     ⟨some 31, .bin .geq (.tmp 29) (.tmp 30), (some (some 27, true)), []⟩,
     ⟨some 32, .pick (.tmp 27) (.tmp 31) (.const (.bool false)), none, []⟩,
     ⟨some 6, .mv (.tmp 32), none, []⟩] [25, 26, 27, 28, 29, 30, 31, 32])
  .ret))))
set_option maxRecDepth 100000 in
theorem kpsling_winch_carries : IsCode Try.prog 51 33 cpsling_winch_carries [.tmp 6] :=
  ⟨Try.f51, _, [10, 1, 2, 0, 4, 8, 7, 6], Try.func51, rfl, by decide, rfl, by kernel_rfl, by kernel_rfl⟩
/-- psling_winch_out -/
def cpsling_winch_out : ACode :=
  (.seq
   (.region false [⟨some 4, .mv (.const (.bool false)), none, []⟩] [])
  (.seq
   (.seq
    (.region true [⟨some 5, .mv (.tmp 0), none, []⟩,
      ⟨some 6, .nilc (.tmp 5), none, [0]⟩,
      ⟨some 7, .fad 7 (.tmp 6), none, [1, 0]⟩,
      ⟨some 8, .fad 0 (.tmp 7), none, [2, 1, 0]⟩,
      ⟨some 9, .load1 (.tmp 8), none, [3, 2, 1, 0]⟩,
      ⟨some 10, .mv (.tmp 1), none, []⟩,
      ⟨some 11, .bin .add (.tmp 9) (.tmp 10), none, [4, 3, 2, 1, 0, 5]⟩,
      ⟨some 12, .mv (.tmp 0), none, []⟩,
      ⟨some 13, .nilc (.tmp 12), none, [7]⟩,
      ⟨some 14, .fad 0 (.tmp 13), none, [8, 7]⟩,
      ⟨some 15, .fad 0 (.tmp 14), none, [9, 8, 7]⟩,
      ⟨some 16, .load1 (.tmp 15), none, [10, 9, 8, 7]⟩,
      ⟨some 17, .call (.func 50) [(.tmp 11), (.const (.int .i64 0)), (.tmp 16)], none, [6, 4, 3, 2, 1, 0, 5, 11, 10, 9, 8, 7]⟩,
      ⟨some 18, .un .not (.tmp 17), none, [12, 6, 4, 3, 2, 1, 0, 5, 11, 10, 9, 8, 7]⟩,
      ⟨some 19, .mv (.tmp 18), none, [13, 12, 6, 4, 3, 2, 1, 0, 5, 11, 10, 9, 8, 7]⟩,
      ⟨some 20, .mv (.tmp 0), (some (some 19, false)), [14, 13, 12, 6, 4, 3, 2, 1, 0, 5, 11, 10, 9, 8, 7]⟩,
      ⟨some 21, .mv (.tmp 0), (some (some 19, false)), [14, 13, 12, 6, 4, 3, 2, 1, 0, 5, 11, 10, 9, 8, 7]⟩,
      ⟨some 22, .nilc (.tmp 21), (some (some 19, false)), [16, 14, 13, 12, 6, 4, 3, 2, 1, 0, 5, 11, 10, 9, 8, 7]⟩,
      ⟨some 23, .fad 7 (.tmp 22), (some (some 19, false)), [17, 16, 14, 13, 12, 6, 4, 3, 2, 1, 0, 5, 11, 10, 9, 8, 7]⟩,
      ⟨some 24, .fad 0 (.tmp 23), (some (some 19, false)), [18, 17, 16, 14, 13, 12, 6, 4, 3, 2, 1, 0, 5, 11, 10, 9, 8, 7]⟩,
      ⟨some 25, .load1 (.tmp 24), (some (some 19, false)), [19, 18, 17, 16, 14, 13, 12, 6, 4, 3, 2, 1, 0, 5, 11, 10, 9, 8, 7]⟩,
      ⟨some 26, .mv (.tmp 1), (some (some 19, false)), [14, 13, 12, 6, 4, 3, 2, 1, 0, 5, 11, 10, 9, 8, 7]⟩,
      ⟨some 27, .bin .add (.tmp 25) (.tmp 26), (some (some 19, false)), [20, 19, 18, 17, 16, 14, 13, 12, 6, 4, 3, 2, 1, 0, 5, 11, 10, 9, 8, 7, 21]⟩,
      ⟨some 28, .call (.func 52) [(.tmp 27)], (some (some 19, false)), [22, 20, 19, 18, 17, 16, 14, 13, 12, 6, 4, 3, 2, 1, 0, 5, 11, 10, 9, 8, 7, 21]⟩,
      ⟨some 29, .mv (.tmp 0), (some (some 19, false)), [14, 13, 12, 6, 4, 3, 2, 1, 0, 5, 11, 10, 9, 8, 7]⟩,
      ⟨some 30, .nilc (.tmp 29), (some (some 19, false)), [24, 14, 13, 12, 6, 4, 3, 2, 1, 0, 5, 11, 10, 9, 8, 7]⟩,
      ⟨some 31, .fad 7 (.tmp 30), (some (some 19, false)), [25, 24, 14, 13, 12, 6, 4, 3, 2, 1, 0, 5, 11, 10, 9, 8, 7]⟩,
      ⟨some 32, .fad 1 (.tmp 31), (some (some 19, false)), [26, 25, 24, 14, 13, 12, 6, 4, 3, 2, 1, 0, 5, 11, 10, 9, 8, 7]⟩,
      ⟨some 33, .load1 (.tmp 32), (some (some 19, false)), [27, 26, 25, 24, 14, 13, 12, 6, 4, 3, 2, 1, 0, 5, 11, 10, 9, 8, 7]⟩,
      ⟨some 34, .call (.func 51) [(.tmp 20), (.tmp 28), (.tmp 33)], (some (some 19, false)), [15, 14, 13, 12, 6, 4, 3, 2, 1, 0, 5, 11, 10, 9, 8, 7, 23, 22, 20, 19, 18, 17, 16, 21, 28, 27, 26, 25, 24]⟩,
      ⟨some 35, .un .not (.tmp 34), (some (some 19, false)), [29, 15, 14, 13, 12, 6, 4, 3, 2, 1, 0, 5, 11, 10, 9, 8, 7, 23, 22, 20, 19, 18, 17, 16, 21, 28, 27, 26, 25, 24]⟩,
      ⟨some 36, .pick (.tmp 19) (.const (.bool true)) (.tmp 35), none, [14, 13, 12, 6, 4, 3, 2, 1, 0, 5, 11, 10, 9, 8, 7, 30, 29, 15, 23, 22, 20, 19, 18, 17, 16, 21, 28, 27, 26, 25, 24]⟩] [5, 6, 7, 8, 9, 10, 11, 12, 13, 14, 15, 16, 17, 18, 19, 20, 21, 22, 23, 24, 25, 26, 27, 28, 29, 30, 31, 32, 33, 34, 35])
   (.cond (.tmp 36)
     (.seq
      (.region false [⟨some 4, .mv (.const (.bool false)), none, []⟩] [])
     .ret)
     .skip))
  (.seq
   (.region false [⟨some 37, .mv (.tmp 0), none, []⟩,
     ⟨some 38, .nilc (.tmp 37), none, []⟩,
     ⟨some 39, .fad 7 (.tmp 38), none, []⟩,
     ⟨some 40, .fad 0 (.tmp 39), none, []⟩,
     ⟨some 41, .load1 (.tmp 40), none, []⟩,
     ⟨some 42, .mv (.tmp 1), none, []⟩,
     ⟨some 43, .bin .add (.tmp 41) (.tmp 42), none, []⟩,
     ⟨some 44, .nilc (.tmp 37), none, []⟩,
     ⟨some 45, .fad 7 (.tmp 44), none, []⟩,
     ⟨some 46, .fad 0 (.tmp 45), none, []⟩,
     ⟨none, .store 1 (.tmp 46) (.tmp 43), none, []⟩] [37, 38, 39, 40, 41, 42, 43, 44, 45, 46])
  (.seq
   (.region false [⟨some 4, .mv (.const (.bool true)), none, []⟩] [])
  .ret))))
set_option maxRecDepth 100000 in
theorem kpsling_winch_out : IsCode Try.prog 90 47 cpsling_winch_out [.tmp 4] :=
  ⟨Try.f90, _, [36, 0, 1, 4], Try.func90, rfl, by decide, rfl, by kernel_rfl, by kernel_rfl⟩
/-- psling_winch_do -/
def cpsling_winch_do : ACode :=
  (.seq
   (.region false [⟨some 3, .box (.tmp 1), none, []⟩,
     ⟨some 4, .mv (.const (.bool false)), none, []⟩] [])
  (.seq
   (.region false [⟨some 5, .mv (.tmp 0), none, []⟩,
     ⟨some 6, .nilc (.tmp 5), none, []⟩,
     ⟨some 7, .fad 7 (.tmp 6), none, []⟩,
     ⟨some 8, .fad 2 (.tmp 7), none, []⟩,
     ⟨some 9, .load1 (.tmp 8), none, []⟩,
     ⟨some 10, .bin .add (.tmp 9) (.const (.int .i64 1)), none, []⟩,
     ⟨some 11, .nilc (.tmp 5), none, []⟩,
     ⟨some 12, .fad 7 (.tmp 11), none, []⟩,
     ⟨some 13, .fad 2 (.tmp 12), none, []⟩,
     ⟨none, .store 1 (.tmp 13) (.tmp 10), none, []⟩] [5, 6, 7, 8, 9, 10, 11, 12, 13])
  (.seq
   (.block 0
     (.seq
      (.region false [⟨some 15, .mv (.tmp 0), none, []⟩,
        ⟨some 16, .nilc (.tmp 15), none, []⟩,
        ⟨some 17, .fad 7 (.tmp 16), none, []⟩,
        ⟨some 18, .fad 4 (.tmp 17), none, []⟩,
        ⟨some 19, .load1 (.tmp 18), none, []⟩,
        ⟨some 14, .mv (.tmp 19), none, []⟩] [15, 16, 17, 18, 19])
     (.cond (.tmp 14)
       (.seq
        (.region false [⟨some 4, .mv (.const (.bool false)), none, []⟩] [])
       .ret)
       (.seq
        (.region false [⟨some 21, .fad 0 (.tmp 3), none, []⟩,
          ⟨some 22, .load1 (.tmp 21), none, []⟩,
          ⟨some 23, .bin .eql (.tmp 22) (.const (.int .i64 1)), none, []⟩,
          ⟨some 20, .mv (.tmp 23), none, []⟩] [21, 22, 23])
       (.cond (.tmp 20)
         (.seq
          (.region true [⟨some 24, .fad 1 (.tmp 3), none, []⟩,
            ⟨some 25, .load1 (.tmp 24), none, [0]⟩,
            ⟨some 26, .mv (.tmp 0), none, []⟩,
            ⟨some 27, .nilc (.tmp 26), none, [2]⟩,
            ⟨some 28, .fad 0 (.tmp 27), none, [3, 2]⟩,
            ⟨some 29, .fad 0 (.tmp 28), none, [4, 3, 2]⟩,
            ⟨some 30, .load1 (.tmp 29), none, [5, 4, 3, 2]⟩,
            ⟨some 31, .call (.func 50) [(.tmp 25), (.const (.int .i64 1)), (.tmp 30)], none, [1, 0, 6, 5, 4, 3, 2]⟩,
            ⟨some 32, .mv (.tmp 31), none, [7, 1, 0, 6, 5, 4, 3, 2]⟩,
            ⟨some 33, .mv (.tmp 0), (some (some 32, true)), [8, 7, 1, 0, 6, 5, 4, 3, 2]⟩,
            ⟨some 34, .fad 1 (.tmp 3), (some (some 32, true)), [8, 7, 1, 0, 6, 5, 4, 3, 2]⟩,
            ⟨some 35, .load1 (.tmp 34), (some (some 32, true)), [10, 8, 7, 1, 0, 6, 5, 4, 3, 2]⟩,
            ⟨some 36, .call (.func 90) [(.tmp 33), (.tmp 35)], (some (some 32, true)), [9, 8, 7, 1, 0, 6, 5, 4, 3, 2, 11, 10]⟩,
            ⟨some 37, .pick (.tmp 32) (.tmp 36) (.const (.bool false)), none, [8, 7, 1, 0, 6, 5, 4, 3, 2, 12, 9, 11, 10]⟩,
            ⟨some 4, .mv (.tmp 37), none, [13, 8, 7, 1, 0, 6, 5, 4, 3, 2, 12, 9, 11, 10]⟩] [24, 25, 26, 27, 28, 29, 30, 31, 32, 33, 34, 35, 36, 37])
         .ret)
         (.seq
          (.region false [⟨some 39, .fad 0 (.tmp 3), none, []⟩,
            ⟨some 40, .load1 (.tmp 39), none, []⟩,
            ⟨some 41, .bin .eql (.tmp 40) (.const (.int .i64 2)), none, []⟩,
            ⟨some 38, .mv (.tmp 41), none, []⟩] [39, 40, 41])
         (.cond (.tmp 38)
           (.seq
            (.region true [⟨some 42, .fad 1 (.tmp 3), none, []⟩,
              ⟨some 43, .load1 (.tmp 42), none, [0]⟩,
              ⟨some 44, .mv (.tmp 0), none, []⟩,
              ⟨some 45, .nilc (.tmp 44), none, [2]⟩,
              ⟨some 46, .fad 0 (.tmp 45), none, [3, 2]⟩,
              ⟨some 47, .fad 0 (.tmp 46), none, [4, 3, 2]⟩,
              ⟨some 48, .load1 (.tmp 47), none, [5, 4, 3, 2]⟩,
              ⟨some 49, .call (.func 50) [(.tmp 43), (.const (.int .i64 1)), (.tmp 48)], none, [1, 0, 6, 5, 4, 3, 2]⟩,
              ⟨some 50, .mv (.tmp 49), none, [7, 1, 0, 6, 5, 4, 3, 2]⟩,
              ⟨some 51, .mv (.tmp 0), (some (some 50, true)), [8, 7, 1, 0, 6, 5, 4, 3, 2]⟩,
              ⟨some 52, .fad 1 (.tmp 3), (some (some 50, true)), [8, 7, 1, 0, 6, 5, 4, 3, 2]⟩,
              ⟨some 53, .load1 (.tmp 52), (some (some 50, true)), [10, 8, 7, 1, 0, 6, 5, 4, 3, 2]⟩,
              ⟨some 54, .un .neg (.tmp 53), (some (some 50, true)), [11, 10, 8, 7, 1, 0, 6, 5, 4, 3, 2]⟩,
              ⟨some 55, .call (.func 90) [(.tmp 51), (.tmp 54)], (some (some 50, true)), [9, 8, 7, 1, 0, 6, 5, 4, 3, 2, 12, 11, 10]⟩,
              ⟨some 56, .pick (.tmp 50) (.tmp 55) (.const (.bool false)), none, [8, 7, 1, 0, 6, 5, 4, 3, 2, 13, 9, 12, 11, 10]⟩,
              ⟨some 4, .mv (.tmp 56), none, [14, 8, 7, 1, 0, 6, 5, 4, 3, 2, 13, 9, 12, 11, 10]⟩] [42, 43, 44, 45, 46, 47, 48, 49, 50, 51, 52, 53, 54, 55, 56])
           .ret)
           (.seq
            (.region false [⟨some 58, .fad 0 (.tmp 3), none, []⟩,
              ⟨some 59, .load1 (.tmp 58), none, []⟩,
              ⟨some 60, .bin .eql (.tmp 59) (.const (.int .i64 4)), none, []⟩,
              ⟨some 57, .mv (.tmp 60), none, []⟩] [58, 59, 60])
           (.cond (.tmp 57)
             (.seq
              (.seq
               (.region true [⟨some 61, .mv (.tmp 0), none, []⟩,
                 ⟨some 62, .nilc (.tmp 61), none, [0]⟩,
                 ⟨some 63, .fad 7 (.tmp 62), none, [1, 0]⟩,
                 ⟨some 64, .fad 1 (.tmp 63), none, [2, 1, 0]⟩,
                 ⟨some 65, .load1 (.tmp 64), none, [3, 2, 1, 0]⟩,
                 ⟨some 66, .bin .gtr (.tmp 65) (.const (.int .i64 0)), none, [4, 3, 2, 1, 0]⟩,
                 ⟨some 67, .mv (.tmp 66), none, [5, 4, 3, 2, 1, 0]⟩,
                 ⟨some 68, .mv (.tmp 0), (some (some 67, false)), [6, 5, 4, 3, 2, 1, 0]⟩,
                 ⟨some 69, .nilc (.tmp 68), (some (some 67, false)), [7, 6, 5, 4, 3, 2, 1, 0]⟩,
                 ⟨some 70, .fad 7 (.tmp 69), (some (some 67, false)), [8, 7, 6, 5, 4, 3, 2, 1, 0]⟩,
                 ⟨some 71, .fad 0 (.tmp 70), (some (some 67, false)), [9, 8, 7, 6, 5, 4, 3, 2, 1, 0]⟩,
                 ⟨some 72, .load1 (.tmp 71), (some (some 67, false)), [10, 9, 8, 7, 6, 5, 4, 3, 2, 1, 0]⟩,
                 ⟨some 73, .bin .eql (.tmp 72) (.const (.int .i64 0)), (some (some 67, false)), [11, 10, 9, 8, 7, 6, 5, 4, 3, 2, 1, 0]⟩,
                 ⟨some 74, .pick (.tmp 67) (.const (.bool true)) (.tmp 73), none, [6, 5, 4, 3, 2, 1, 0, 12, 11, 10, 9, 8, 7]⟩,
                 ⟨some 75, .mv (.tmp 74), none, [13, 6, 5, 4, 3, 2, 1, 0, 12, 11, 10, 9, 8, 7]⟩,
                 ⟨some 76, .mv (.tmp 0), (some (some 75, false)), [14, 13, 6, 5, 4, 3, 2, 1, 0, 12, 11, 10, 9, 8, 7]⟩,
                 ⟨some 77, .nilc (.tmp 76), (some (some 75, false)), [15, 14, 13, 6, 5, 4, 3, 2, 1, 0, 12, 11, 10, 9, 8, 7]⟩,
                 ⟨some 78, .fad 12 (.tmp 77), (some (some 75, false)), [16, 15, 14, 13, 6, 5, 4, 3, 2, 1, 0, 12, 11, 10, 9, 8, 7]⟩,
                 ⟨some 79, .load1 (.tmp 78), (some (some 75, false)), [17, 16, 15, 14, 13, 6, 5, 4, 3, 2, 1, 0, 12, 11, 10, 9, 8, 7]⟩,
                 ⟨some 80, .un .not (.tmp 79), (some (some 75, false)), [18, 17, 16, 15, 14, 13, 6, 5, 4, 3, 2, 1, 0, 12, 11, 10, 9, 8, 7]⟩,
                 ⟨some 81, .pick (.tmp 75) (.const (.bool true)) (.tmp 80), none, [14, 13, 6, 5, 4, 3, 2, 1, 0, 12, 11, 10, 9, 8, 7, 19, 18, 17, 16, 15]⟩,
                 ⟨some 82, .mv (.tmp 81), none, [20, 14, 13, 6, 5, 4, 3, 2, 1, 0, 12, 11, 10, 9, 8, 7, 19, 18, 17, 16, 15]⟩,
                 ⟨some 83, .mv (.tmp 0), (some (some 82, false)), [21, 20, 14, 13, 6, 5, 4, 3, 2, 1, 0, 12, 11, 10, 9, 8, 7, 19, 18, 17, 16, 15]⟩,
                 ⟨some 84, .nilc (.tmp 83), (some (some 82, false)), [22, 21, 20, 14, 13, 6, 5, 4, 3, 2, 1, 0, 12, 11, 10, 9, 8, 7, 19, 18, 17, 16, 15]⟩,
                 ⟨some 85, .fad 7 (.tmp 84), (some (some 82, false)), [23, 22, 21, 20, 14, 13, 6, 5, 4, 3, 2, 1, 0, 12, 11, 10, 9, 8, 7, 19, 18, 17, 16, 15]⟩,
                 ⟨some 86, .fad 2 (.tmp 85), (some (some 82, false)), [24, 23, 22, 21, 20, 14, 13, 6, 5, 4, 3, 2, 1, 0, 12, 11, 10, 9, 8, 7, 19, 18, 17, 16, 15]⟩,
                 ⟨some 87, .load1 (.tmp 86), (some (some 82, false)), [25, 24, 23, 22, 21, 20, 14, 13, 6, 5, 4, 3, 2, 1, 0, 12, 11, 10, 9, 8, 7, 19, 18, 17, 16, 15]⟩,
                 ⟨some 88, .mv (.tmp 0), (some (some 82, false)), [21, 20, 14, 13, 6, 5, 4, 3, 2, 1, 0, 12, 11, 10, 9, 8, 7, 19, 18, 17, 16, 15]⟩,
                 ⟨some 89, .nilc (.tmp 88), (some (some 82, false)), [27, 21, 20, 14, 13, 6, 5, 4, 3, 2, 1, 0, 12, 11, 10, 9, 8, 7, 19, 18, 17, 16, 15]⟩,
                 ⟨some 90, .fad 0 (.tmp 89), (some (some 82, false)), [28, 27, 21, 20, 14, 13, 6, 5, 4, 3, 2, 1, 0, 12, 11, 10, 9, 8, 7, 19, 18, 17, 16, 15]⟩,
                 ⟨some 91, .fad 4 (.tmp 90), (some (some 82, false)), [29, 28, 27, 21, 20, 14, 13, 6, 5, 4, 3, 2, 1, 0, 12, 11, 10, 9, 8, 7, 19, 18, 17, 16, 15]⟩,
                 ⟨some 92, .load1 (.tmp 91), (some (some 82, false)), [30, 29, 28, 27, 21, 20, 14, 13, 6, 5, 4, 3, 2, 1, 0, 12, 11, 10, 9, 8, 7, 19, 18, 17, 16, 15]⟩,
                 ⟨some 93, .bin .gtr (.tmp 87) (.tmp 92), (some (some 82, false)), [26, 25, 24, 23, 22, 21, 20, 14, 13, 6, 5, 4, 3, 2, 1, 0, 12, 11, 10, 9, 8, 7, 19, 18, 17, 16, 15, 31, 30, 29, 28, 27]⟩,
                 ⟨some 94, .pick (.tmp 82) (.const (.bool true)) (.tmp 93), none, [21, 20, 14, 13, 6, 5, 4, 3, 2, 1, 0, 12, 11, 10, 9, 8, 7, 19, 18, 17, 16, 15, 32, 26, 25, 24, 23, 22, 31, 30, 29, 28, 27]⟩,
                 ⟨some 95, .mv (.tmp 94), none, [33, 21, 20, 14, 13, 6, 5, 4, 3, 2, 1, 0, 12, 11, 10, 9, 8, 7, 19, 18, 17, 16, 15, 32, 26, 25, 24, 23, 22, 31, 30, 29, 28, 27]⟩,
                 ⟨some 96, .fad 1 (.tmp 3), (some (some 95, false)), [34, 33, 21, 20, 14, 13, 6, 5, 4, 3, 2, 1, 0, 12, 11, 10, 9, 8, 7, 19, 18, 17, 16, 15, 32, 26, 25, 24, 23, 22, 31, 30, 29, 28, 27]⟩,
                 ⟨some 97, .load1 (.tmp 96), (some (some 95, false)), [35, 34, 33, 21, 20, 14, 13, 6, 5, 4, 3, 2, 1, 0, 12, 11, 10, 9, 8, 7, 19, 18, 17, 16, 15, 32, 26, 25, 24, 23, 22, 31, 30, 29, 28, 27]⟩,
                 ⟨some 98, .call (.func 50) [(.tmp 97), (.const (.int .i64 1)), (.const (.int .i64 100000))], (some (some 95, false)), [36, 35, 34, 33, 21, 20, 14, 13, 6, 5, 4, 3, 2, 1, 0, 12, 11, 10, 9, 8, 7, 19, 18, 17, 16, 15, 32, 26, 25, 24, 23, 22, 31, 30, 29, 28, 27]⟩,
                 ⟨some 99, .un .not (.tmp 98), (some (some 95, false)), [37, 36, 35, 34, 33, 21, 20, 14, 13, 6, 5, 4, 3, 2, 1, 0, 12, 11, 10, 9, 8, 7, 19, 18, 17, 16, 15, 32, 26, 25, 24, 23, 22, 31, 30, 29, 28, 27]⟩,
                 ⟨some 100, .pick (.tmp 95) (.const (.bool true)) (.tmp 99), none, [34, 33, 21, 20, 14, 13, 6, 5, 4, 3, 2, 1, 0, 12, 11, 10, 9, 8, 7, 19, 18, 17, 16, 15, 32, 26, 25, 24, 23, 22, 31, 30, 29, 28, 27, 38, 37, 36, 35]⟩,
                 ⟨some 101, .mv (.tmp 100), none, [39, 34, 33, 21, 20, 14, 13, 6, 5, 4, 3, 2, 1, 0, 12, 11, 10, 9, 8, 7, 19, 18, 17, 16, 15, 32, 26, 25, 24, 23, 22, 31, 30, 29, 28, 27, 38, 37, 36, 35]⟩,
                 ⟨some 102, .mv (.tmp 0), (some (some 101, false)), [40, 39, 34, 33, 21, 20, 14, 13, 6, 5, 4, 3, 2, 1, 0, 12, 11, 10, 9, 8, 7, 19, 18, 17, 16, 15, 32, 26, 25, 24, 23, 22, 31, 30, 29, 28, 27, 38, 37, 36, 35]⟩,
                 ⟨some 103, .mv (.tmp 0), (some (some 101, false)), [40, 39, 34, 33, 21, 20, 14, 13, 6, 5, 4, 3, 2, 1, 0, 12, 11, 10, 9, 8, 7, 19, 18, 17, 16, 15, 32, 26, 25, 24, 23, 22, 31, 30, 29, 28, 27, 38, 37, 36, 35]⟩,
                 ⟨some 104, .nilc (.tmp 103), (some (some 101, false)), [42, 40, 39, 34, 33, 21, 20, 14, 13, 6, 5, 4, 3, 2, 1, 0, 12, 11, 10, 9, 8, 7, 19, 18, 17, 16, 15, 32, 26, 25, 24, 23, 22, 31, 30, 29, 28, 27, 38, 37, 36, 35]⟩,
                 ⟨some 105, .fad 7 (.tmp 104), (some (some 101, false)), [43, 42, 40, 39, 34, 33, 21, 20, 14, 13, 6, 5, 4, 3, 2, 1, 0, 12, 11, 10, 9, 8, 7, 19, 18, 17, 16, 15, 32, 26, 25, 24, 23, 22, 31, 30, 29, 28, 27, 38, 37, 36, 35]⟩,
                 ⟨some 106, .fad 0 (.tmp 105), (some (some 101, false)), [44, 43, 42, 40, 39, 34, 33, 21, 20, 14, 13, 6, 5, 4, 3, 2, 1, 0, 12, 11, 10, 9, 8, 7, 19, 18, 17, 16, 15, 32, 26, 25, 24, 23, 22, 31, 30, 29, 28, 27, 38, 37, 36, 35]⟩,
                 ⟨some 107, .load1 (.tmp 106), (some (some 101, false)), [45, 44, 43, 42, 40, 39, 34, 33, 21, 20, 14, 13, 6, 5, 4, 3, 2, 1, 0, 12, 11, 10, 9, 8, 7, 19, 18, 17, 16, 15, 32, 26, 25, 24, 23, 22, 31, 30, 29, 28, 27, 38, 37, 36, 35]⟩,
                 ⟨some 108, .call (.func 52) [(.tmp 107)], (some (some 101, false)), [46, 45, 44, 43, 42, 40, 39, 34, 33, 21, 20, 14, 13, 6, 5, 4, 3, 2, 1, 0, 12, 11, 10, 9, 8, 7, 19, 18, 17, 16, 15, 32, 26, 25, 24, 23, 22, 31, 30, 29, 28, 27, 38, 37, 36, 35]⟩,
                 ⟨some 109, .fad 1 (.tmp 3), (some (some 101, false)), [40, 39, 34, 33, 21, 20, 14, 13, 6, 5, 4, 3, 2, 1, 0, 12, 11, 10, 9, 8, 7, 19, 18, 17, 16, 15, 32, 26, 25, 24, 23, 22, 31, 30, 29, 28, 27, 38, 37, 36, 35]⟩,
                 ⟨some 110, .load1 (.tmp 109), (some (some 101, false)), [48, 40, 39, 34, 33, 21, 20, 14, 13, 6, 5, 4, 3, 2, 1, 0, 12, 11, 10, 9, 8, 7, 19, 18, 17, 16, 15, 32, 26, 25, 24, 23, 22, 31, 30, 29, 28, 27, 38, 37, 36, 35]⟩,
                 ⟨some 111, .call (.func 51) [(.tmp 102), (.tmp 108), (.tmp 110)], (some (some 101, false)), [41, 40, 39, 34, 33, 21, 20, 14, 13, 6, 5, 4, 3, 2, 1, 0, 12, 11, 10, 9, 8, 7, 19, 18, 17, 16, 15, 32, 26, 25, 24, 23, 22, 31, 30, 29, 28, 27, 38, 37, 36, 35, 47, 46, 45, 44, 43, 42, 49, 48]⟩,
                 ⟨some 112, .un .not (.tmp 111), (some (some 101, false)), [50, 41, 40, 39, 34, 33, 21, 20, 14, 13, 6, 5, 4, 3, 2, 1, 0, 12, 11, 10, 9, 8, 7, 19, 18, 17, 16, 15, 32, 26, 25, 24, 23, 22, 31, 30, 29, 28, 27, 38, 37, 36, 35, 47, 46, 45, 44, 43, 42, 49, 48]⟩,
                 ⟨some 113, .pick (.tmp 101) (.const (.bool true)) (.tmp 112), none, [40, 39, 34, 33, 21, 20, 14, 13, 6, 5, 4, 3, 2, 1, 0, 12, 11, 10, 9, 8, 7, 19, 18, 17, 16, 15, 32, 26, 25, 24, 23, 22, 31, 30, 29, 28, 27, 38, 37, 36, 35, 51, 50, 41, 47, 46, 45, 44, 43, 42, 49, 48]⟩] [61, 62, 63, 64, 65, 66, 67, 68, 69, 70, 71, 72, 73, 74, 75, 76, 77, 78, 79, 80, 81, 82, 83, 84, 85, 86, 87, 88, 89, 90, 91, 92, 93, 94, 95, 96, 97, 98, 99, 100, 101, 102, 103, 104, 105, 106, 107, 108, 109, 110, 111, 112])
              (.cond (.tmp 113)
                (.seq
                 (.region false [⟨some 4, .mv (.const (.bool false)), none, []⟩] [])
                .ret)
                .skip))
             (.region false [⟨some 114, .mv (.tmp 0), none, []⟩,
               ⟨some 115, .fad 1 (.tmp 3), none, []⟩,
               ⟨some 116, .load1 (.tmp 115), none, []⟩,
               ⟨some 117, .nilc (.tmp 114), none, []⟩,
               ⟨some 118, .fad 7 (.tmp 117), none, []⟩,
               ⟨some 119, .fad 1 (.tmp 118), none, []⟩,
               ⟨none, .store 1 (.tmp 119) (.tmp 116), none, []⟩] [114, 115, 116, 117, 118, 119]))
             (.seq
              (.region false [⟨some 121, .fad 1 (.tmp 3), none, []⟩,
                ⟨some 122, .load1 (.tmp 121), none, []⟩,
                ⟨some 123, .bin .neq (.tmp 122) (.const (.int .i64 0)), none, []⟩,
                ⟨some 120, .mv (.tmp 123), none, []⟩] [121, 122, 123])
             (.cond (.tmp 120)
               (.seq
                (.region false [⟨some 4, .mv (.const (.bool false)), none, []⟩] [])
               .ret)
               (.seq
                (.region false [⟨some 125, .fad 0 (.tmp 3), none, []⟩,
                  ⟨some 126, .load1 (.tmp 125), none, []⟩,
                  ⟨some 127, .bin .eql (.tmp 126) (.const (.int .i64 3)), none, []⟩,
                  ⟨some 128, .mv (.tmp 127), none, []⟩,
                  ⟨some 129, .mv (.tmp 0), (some (some 128, true)), []⟩,
                  ⟨some 130, .nilc (.tmp 129), (some (some 128, true)), []⟩,
                  ⟨some 131, .fad 7 (.tmp 130), (some (some 128, true)), []⟩,
                  ⟨some 132, .fad 0 (.tmp 131), (some (some 128, true)), []⟩,
                  ⟨some 133, .load1 (.tmp 132), (some (some 128, true)), []⟩,
                  ⟨some 134, .bin .gtr (.tmp 133) (.const (.int .i64 0)), (some (some 128, true)), []⟩,
                  ⟨some 135, .pick (.tmp 128) (.tmp 134) (.const (.bool false)), none, []⟩,
                  ⟨some 124, .mv (.tmp 135), none, []⟩] [125, 126, 127, 128, 129, 130, 131, 132, 133, 134, 135])
               (.cond (.tmp 124)
                 (.region false [⟨some 136, .mv (.tmp 0), none, []⟩,
                   ⟨some 137, .mv (.tmp 0), none, []⟩,
                   ⟨some 138, .nilc (.tmp 136), none, []⟩,
                   ⟨some 139, .fad 7 (.tmp 138), none, []⟩,
                   ⟨some 140, .fad 2 (.tmp 139), none, []⟩,
                   ⟨none, .store 1 (.tmp 140) (.const (.int .i64 0)), none, []⟩,
                   ⟨some 141, .nilc (.tmp 137), none, []⟩,
                   ⟨some 142, .fad 12 (.tmp 141), none, []⟩,
                   ⟨none, .store 1 (.tmp 142) (.const (.bool true)), none, []⟩] [136, 137, 138, 139, 140, 141, 142])
                 (.seq
                  (.region false [⟨some 144, .fad 0 (.tmp 3), none, []⟩,
                    ⟨some 145, .load1 (.tmp 144), none, []⟩,
                    ⟨some 146, .bin .eql (.tmp 145) (.const (.int .i64 5)), none, []⟩,
                    ⟨some 147, .mv (.tmp 146), none, []⟩,
                    ⟨some 148, .mv (.tmp 0), (some (some 147, true)), []⟩,
                    ⟨some 149, .nilc (.tmp 148), (some (some 147, true)), []⟩,
                    ⟨some 150, .fad 7 (.tmp 149), (some (some 147, true)), []⟩,
                    ⟨some 151, .fad 1 (.tmp 150), (some (some 147, true)), []⟩,
                    ⟨some 152, .load1 (.tmp 151), (some (some 147, true)), []⟩,
                    ⟨some 153, .bin .gtr (.tmp 152) (.const (.int .i64 0)), (some (some 147, true)), []⟩,
                    ⟨some 154, .pick (.tmp 147) (.tmp 153) (.const (.bool false)), none, []⟩,
                    ⟨some 143, .mv (.tmp 154), none, []⟩] [144, 145, 146, 147, 148, 149, 150, 151, 152, 153, 154])
                 (.cond (.tmp 143)
                   (.seq
                    (.region false [⟨some 155, .mv (.tmp 0), none, []⟩,
                      ⟨some 156, .nilc (.tmp 155), none, []⟩,
                      ⟨some 157, .fad 7 (.tmp 156), none, []⟩,
                      ⟨some 158, .fad 1 (.tmp 157), none, []⟩,
                      ⟨none, .store 1 (.tmp 158) (.const (.int .i64 0)), none, []⟩] [155, 156, 157, 158])
                   (.region false [⟨some 159, .mv (.tmp 0), none, []⟩,
                     ⟨some 160, .nilc (.tmp 159), none, []⟩,
                     ⟨some 161, .fad 7 (.tmp 160), none, []⟩,
                     ⟨some 162, .fad 3 (.tmp 161), none, []⟩,
                     ⟨some 163, .load1 (.tmp 162), none, []⟩,
                     ⟨some 164, .bin .add (.tmp 163) (.const (.int .i64 1)), none, []⟩,
                     ⟨some 165, .nilc (.tmp 159), none, []⟩,
                     ⟨some 166, .fad 7 (.tmp 165), none, []⟩,
                     ⟨some 167, .fad 3 (.tmp 166), none, []⟩,
                     ⟨none, .store 1 (.tmp 167) (.tmp 164), none, []⟩] [159, 160, 161, 162, 163, 164, 165, 166, 167]))
                   (.seq
                    (.region false [⟨some 169, .fad 0 (.tmp 3), none, []⟩,
                      ⟨some 170, .load1 (.tmp 169), none, []⟩,
                      ⟨some 171, .bin .eql (.tmp 170) (.const (.int .i64 6)), none, []⟩,
                      ⟨some 168, .mv (.tmp 171), none, []⟩] [169, 170, 171])
                   (.cond (.tmp 168)
                     (.region false [⟨some 172, .mv (.tmp 0), none, []⟩,
                       ⟨some 173, .mv (.tmp 0), none, []⟩,
                       ⟨some 174, .mv (.tmp 0), none, []⟩,
                       ⟨some 175, .nilc (.tmp 172), none, []⟩,
                       ⟨some 176, .fad 7 (.tmp 175), none, []⟩,
                       ⟨some 177, .fad 0 (.tmp 176), none, []⟩,
                       ⟨none, .store 1 (.tmp 177) (.const (.int .i64 0)), none, []⟩,
                       ⟨some 178, .nilc (.tmp 173), none, []⟩,
                       ⟨some 179, .fad 7 (.tmp 178), none, []⟩,
                       ⟨some 180, .fad 1 (.tmp 179), none, []⟩,
                       ⟨none, .store 1 (.tmp 180) (.const (.int .i64 0)), none, []⟩,
                       ⟨some 181, .nilc (.tmp 174), none, []⟩,
                       ⟨some 182, .fad 7 (.tmp 181), none, []⟩,
                       ⟨some 183, .fad 4 (.tmp 182), none, []⟩,
                       ⟨none, .store 1 (.tmp 183) (.const (.bool true)), none, []⟩] [172, 173, 174, 175, 176, 177, 178, 179, 180, 181, 182, 183])
                     (.seq
                      (.region false [⟨some 4, .mv (.const (.bool false)), none, []⟩] [])
                     .ret))))))))))))))))))
  (.seq
   (.region false [⟨some 4, .mv (.const (.bool true)), none, []⟩] [])
  .ret))))
set_option maxRecDepth 100000 in
theorem kpsling_winch_do : IsCode Try.prog 49 184 cpsling_winch_do [.tmp 4] :=
  ⟨Try.f49, _, [168, 143, 124, 120, 113, 57, 38, 20, 14, 1, 0, 3, 4], Try.func49, rfl, by decide, rfl, by kernel_rfl, by kernel_rfl⟩
/-- sling_at -/
def csling_at : ACode :=
  (.seq
   (.region false [⟨some 2, .mem [(.val (.int .i64 0)), (.val (.int .i64 0))], none, []⟩] [])
  (.seq
   (.region false [⟨some 3, .mv (.tmp 0), none, []⟩,
     ⟨some 4, .mv (.tmp 0), none, []⟩,
     ⟨some 5, .build [(.val (.int .i64 0)), (.val (.int .i64 0))] [(0, 1, (.tmp 3)), (1, 1, (.tmp 4))], none, []⟩,
     ⟨none, .store 2 (.tmp 2) (.tmp 5), none, []⟩] [3, 4, 5])
  .ret))
set_option maxRecDepth 100000 in
theorem ksling_at : IsCode Try.prog 52 6 csling_at [.cellN 2 2] :=
  ⟨Try.f52, _, [0, 2], Try.func52, rfl, by decide, rfl, by kernel_rfl, by kernel_rfl⟩
/-- sling_Haul -/
def csling_Haul : ACode :=
  (.seq
   (.region false [⟨some 3, .box (.tmp 0), none, []⟩,
     ⟨some 4, .box (.tmp 1), none, []⟩,
     ⟨some 6, .mem [(.val (.int .i64 0)), (.val (.int .i64 0)), (.val (.int .i64 0)), (.val (.int .i64 0)), (.val (.bool false))], none, []⟩,
     ⟨some 7, .mv (.const (.int .i64 0)), none, []⟩,
     ⟨some 8, .mv (.const (.int .i64 0)), none, []⟩] [])
  (.seq
   (.region false [⟨some 14, .loadN 5 (.tmp 3), none, []⟩,
     ⟨some 15, .loadN 2 (.tmp 4), none, []⟩,
     ⟨some 16, .call (.func 48) [(.tmp 14), (.tmp 15)], none, []⟩,
     ⟨some 13, .mv (.tmp 16), none, []⟩,
     ⟨some 17, .ext (.tmp 13) 0, none, []⟩,
     ⟨some 18, .ext (.tmp 13) 1, none, []⟩,
     ⟨some 19, .ext (.tmp 13) 2, none, []⟩,
     ⟨some 9, .mv (.tmp 17), none, []⟩,
     ⟨some 10, .mv (.tmp 18), none, []⟩,
     ⟨some 8, .mv (.tmp 19), none, []⟩] [14, 15, 16, 13, 17, 18, 19])
  (.seq
   (.block 0
     (.seq
      (.region false [⟨some 21, .mv (.tmp 8), none, []⟩,
        ⟨some 22, .bin .neq (.tmp 21) (.const (.int .i64 0)), none, []⟩,
        ⟨some 20, .mv (.tmp 22), none, []⟩] [21, 22])
     (.cond (.tmp 20)
       (.seq
        (.region false [⟨some 23, .build [(.val (.int .i64 0)), (.val (.int .i64 0)), (.val (.int .i64 0)), (.val (.int .i64 0)), (.val (.bool false))] [], none, []⟩,
          ⟨some 24, .mv (.tmp 8), none, []⟩,
          ⟨none, .store 5 (.tmp 6) (.tmp 23), none, []⟩,
          ⟨some 7, .mv (.const (.int .i64 0)), none, []⟩,
          ⟨some 8, .mv (.tmp 24), none, []⟩] [23, 24])
       .ret)
       (.seq
        (.region false [⟨some 26, .mv (.tmp 2), none, []⟩,
          ⟨some 27, .len_ (.tmp 26), none, []⟩,
          ⟨some 28, .bin .gtr (.tmp 27) (.const (.int .i64 100)), none, []⟩,
          ⟨some 25, .mv (.tmp 28), none, []⟩] [26, 27, 28])
       (.cond (.tmp 25)
         (.seq
          (.region false [⟨some 29, .build [(.val (.int .i64 0)), (.val (.int .i64 0)), (.val (.int .i64 0)), (.val (.int .i64 0)), (.val (.bool false))] [], none, []⟩,
            ⟨none, .store 5 (.tmp 6) (.tmp 29), none, []⟩,
            ⟨some 7, .mv (.const (.int .i64 0)), none, []⟩,
            ⟨some 8, .mv (.const (.int .i64 2)), none, []⟩] [29])
         .ret)
         (.seq
          (.region false [⟨some 31, .mv (.tmp 10), none, []⟩,
            ⟨some 32, .un .not (.tmp 31), none, []⟩,
            ⟨some 30, .mv (.tmp 32), none, []⟩] [31, 32])
         (.cond (.tmp 30)
           (.seq
            (.region false [⟨some 33, .build [(.val (.int .i64 0)), (.val (.int .i64 0)), (.val (.int .i64 0)), (.val (.int .i64 0)), (.val (.bool false))] [], none, []⟩,
              ⟨none, .store 5 (.tmp 6) (.tmp 33), none, []⟩,
              ⟨some 7, .mv (.const (.int .i64 0)), none, []⟩,
              ⟨some 8, .mv (.const (.int .i64 1)), none, []⟩] [33])
           .ret)
           .skip)))))))
  (.seq
   (.seq
    (.region false [⟨some 34, .mv (.tmp 2), none, []⟩,
      ⟨some 35, .len_ (.tmp 34), none, []⟩,
      ⟨some 36, .mv (.const (.int .i64 0)), none, []⟩] [])
   (.block 1
     (.loop
       (.seq
        (.region false [⟨some 37, .bin .lss (.tmp 36) (.tmp 35), none, []⟩] [])
       (.seq
        (.cond (.tmp 37)
          .skip
          (.exit 1))
       (.seq
        (.block 2
          (.seq
           (.region false [⟨some 38, .mv (.tmp 36), none, []⟩,
             ⟨some 39, .iadS 2 (.tmp 34) (.tmp 36), none, []⟩,
             ⟨some 40, .loadN 2 (.tmp 39), none, []⟩,
             ⟨some 12, .mem [(.val (.int .i64 0)), (.val (.int .i64 0))], none, []⟩,
             ⟨some 11, .mv (.tmp 38), none, []⟩,
             ⟨none, .store 2 (.tmp 12) (.tmp 40), none, []⟩] [38, 39, 40])
          (.seq
           (.region false [⟨some 41, .mv (.tmp 9), none, []⟩,
             ⟨some 42, .loadN 2 (.tmp 12), none, []⟩,
             ⟨some 43, .call (.func 49) [(.tmp 41), (.tmp 42)], none, []⟩,
             ⟨some 44, .un .not (.tmp 43), none, []⟩] [41, 42, 43])
          (.cond (.tmp 44)
            (.seq
             (.region false [⟨some 45, .build [(.val (.int .i64 0)), (.val (.int .i64 0)), (.val (.int .i64 0)), (.val (.int .i64 0)), (.val (.bool false))] [], none, []⟩,
               ⟨some 46, .mv (.tmp 11), none, []⟩,
               ⟨none, .store 5 (.tmp 6) (.tmp 45), none, []⟩,
               ⟨some 7, .mv (.tmp 46), none, []⟩,
               ⟨some 8, .mv (.const (.int .i64 72)), none, []⟩] [45, 46])
            .ret)
            .skip))))
       (.region false [⟨some 47, .bin .add (.tmp 36) (.const (.int .i64 1)), none, []⟩,
         ⟨some 36, .mv (.tmp 47), none, []⟩] [47])))))))
  (.seq
   (.region false [⟨some 48, .mv (.tmp 9), none, []⟩,
     ⟨some 49, .nilc (.tmp 48), none, []⟩,
     ⟨some 50, .fad 7 (.tmp 49), none, []⟩,
     ⟨some 51, .loadN 5 (.tmp 50), none, []⟩,
     ⟨none, .store 5 (.tmp 6) (.tmp 51), none, []⟩,
     ⟨some 7, .mv (.const (.int .i64 0)), none, []⟩,
     ⟨some 8, .mv (.const (.int .i64 0)), none, []⟩] [48, 49, 50, 51])
  .ret)))))
set_option maxRecDepth 100000 in
theorem ksling_Haul : IsCode Try.prog 20 52 csling_Haul [.cellN 6 5, .tmp 7, .tmp 8] :=
  ⟨Try.f20, _, [44, 37, 30, 25, 20, 0, 1, 3, 4, 8, 6, 2, 10, 36, 35, 34, 9, 12, 11, 7], Try.func20, rfl, by decide, rfl, by kernel_rfl, by kernel_rfl⟩
/-- sling_Carries -/
def csling_Carries : ACode :=
  (.seq
   (.region false [⟨some 4, .box (.tmp 0), none, []⟩,
     ⟨some 5, .box (.tmp 1), none, []⟩,
     ⟨some 8, .mv (.const (.bool false)), none, []⟩,
     ⟨some 9, .mv (.const (.int .i64 0)), none, []⟩] [])
  (.seq
   (.region false [⟨some 14, .loadN 5 (.tmp 4), none, []⟩,
     ⟨some 15, .loadN 2 (.tmp 5), none, []⟩,
     ⟨some 16, .call (.func 48) [(.tmp 14), (.tmp 15)], none, []⟩,
     ⟨some 13, .mv (.tmp 16), none, []⟩,
     ⟨some 17, .ext (.tmp 13) 0, none, []⟩,
     ⟨some 18, .ext (.tmp 13) 1, none, []⟩,
     ⟨some 19, .ext (.tmp 13) 2, none, []⟩,
     ⟨some 10, .mv (.tmp 17), none, []⟩,
     ⟨some 11, .mv (.tmp 18), none, []⟩,
     ⟨some 12, .mv (.tmp 19), none, []⟩] [14, 15, 16, 13, 17, 18, 19])
  (.seq
   (.block 0
     (.seq
      (.region false [⟨some 21, .mv (.tmp 12), none, []⟩,
        ⟨some 22, .bin .neq (.tmp 21) (.const (.int .i64 0)), none, []⟩,
        ⟨some 20, .mv (.tmp 22), none, []⟩] [21, 22])
     (.cond (.tmp 20)
       (.seq
        (.region false [⟨some 23, .mv (.tmp 12), none, []⟩,
          ⟨some 8, .mv (.const (.bool false)), none, []⟩,
          ⟨some 9, .mv (.tmp 23), none, []⟩] [23])
       .ret)
       (.seq
        (.seq
         (.region false [⟨some 25, .mv (.tmp 11), none, []⟩,
           ⟨some 26, .un .not (.tmp 25), none, []⟩,
           ⟨some 24, .mv (.tmp 26), none, []⟩] [25, 26])
        (.cond (.tmp 24)
          .skip
          (.seq
           (.region false [⟨some 27, .mv (.tmp 2), none, []⟩,
             ⟨some 28, .fad 0 (.tmp 4), none, []⟩,
             ⟨some 29, .load1 (.tmp 28), none, []⟩,
             ⟨some 30, .call (.func 50) [(.tmp 27), (.const (.int .i64 0)), (.tmp 29)], none, []⟩,
             ⟨some 31, .un .not (.tmp 30), none, []⟩,
             ⟨some 24, .mv (.tmp 31), none, []⟩] [27, 28, 29, 30, 31])
          (.cond (.tmp 24)
            .skip
            (.region false [⟨some 32, .mv (.tmp 3), none, []⟩,
              ⟨some 33, .call (.func 50) [(.tmp 32), (.const (.int .i64 1)), (.const (.int .i64 100000))], none, []⟩,
              ⟨some 34, .un .not (.tmp 33), none, []⟩,
              ⟨some 24, .mv (.tmp 34), none, []⟩] [32, 33, 34])))))
       (.cond (.tmp 24)
         (.seq
          (.region false [⟨some 8, .mv (.const (.bool false)), none, []⟩,
            ⟨some 9, .mv (.const (.int .i64 1)), none, []⟩] [])
         .ret)
         .skip)))))
  (.seq
   (.region false [⟨some 35, .mv (.tmp 10), none, []⟩,
     ⟨some 36, .mv (.tmp 2), none, []⟩,
     ⟨some 37, .call (.func 52) [(.tmp 36)], none, []⟩,
     ⟨some 38, .mv (.tmp 3), none, []⟩,
     ⟨some 39, .call (.func 51) [(.tmp 35), (.tmp 37), (.tmp 38)], none, []⟩,
     ⟨some 8, .mv (.tmp 39), none, []⟩,
     ⟨some 9, .mv (.const (.int .i64 0)), none, []⟩] [35, 36, 37, 38, 39])
  .ret))))
set_option maxRecDepth 100000 in
theorem ksling_Carries : IsCode Try.prog 21 40 csling_Carries [.tmp 8, .tmp 9] :=
  ⟨Try.f21, _, [24, 20, 0, 1, 4, 5, 12, 11, 2, 3, 10, 8, 9], Try.func21, rfl, by decide, rfl, by kernel_rfl, by kernel_rfl⟩
end Go.Proofs.Ytgibbaadjbohdaa
/- The functions' bodies, translated. Written by a program; no conditions. -/
namespace Go.Proofs.Ytgibbaadjbohdaa
open Go.RowKit Lift

/-- sling_within -/
def csling_within : ACode :=
  (.seq
   (.region false [⟨some 6, .mv (.const (.bool false)), none, []⟩] [])
  (.seq
   (.region false [⟨some 7, .mv (.tmp 0), none, []⟩,
     ⟨some 8, .mv (.tmp 1), none, []⟩,
     ⟨some 9, .bin .geq (.tmp 7) (.tmp 8), none, []⟩,
     ⟨some 10, .mv (.tmp 9), none, []⟩,
     ⟨some 11, .mv (.tmp 0), (some (some 10, true)), []⟩,
     ⟨some 12, .mv (.tmp 2), (some (some 10, true)), []⟩,
     ⟨some 13, .bin .leq (.tmp 11) (.tmp 12), (some (some 10, true)), []⟩,
     ⟨some 14, .pick (.tmp 10) (.tmp 13) (.const (.bool false)), none, []⟩,
     ⟨some 6, .mv (.tmp 14), none, []⟩] [7, 8, 9, 10, 11, 12, 13, 14])
  .ret))
set_option maxRecDepth 100000 in
theorem ksling_within : IsCode Try.prog 50 15 csling_within [.tmp 6] :=
  ⟨Try.f50, _, [0, 1, 2, 6], Try.func50, rfl, by decide, rfl, by kernel_rfl, by kernel_rfl⟩
end Go.Proofs.Ytgibbaadjbohdaa
/- Loads that swing, in numbers: bounds, sums, lowest terms. No conditions. -/
namespace Go.Proofs.Ytgibbaadjbohdaa

structure Slg where
  num : Int
  damp : Int
  den : Int
structure OkS (s : Slg) : Prop where
  d1 : 1 ≤ s.den
  d2 : s.den ≤ 4
  n1 : 0 ≤ s.num
  n2 : s.num ≤ 2 * s.den
  p1 : 0 ≤ s.damp
  p2 : s.damp ≤ s.den
def tk (s : Slg) (x : Int × Int × Int) (g : Int) : Int × Int × Int :=
  (s.den * x.1 + (s.den * x.2.1 - s.num * x.1 - s.damp * x.2.1 + g * (x.2.2 * s.den)), s.den * x.2.1 - s.num * x.1 - s.damp * x.2.1 + g * (x.2.2 * s.den), x.2.2 * s.den)
def run (s : Slg) (x : Int × Int × Int) (gs : List Int) : Int × Int × Int := gs.foldl (tk s) x
def ab (x : Int) : Int := if x < 0 then -x else x
def capN : Int := 1000000000000000
/-! ### sums of swings -/
/-! ### lowest terms -/
/-! ### which fraction is less -/
/-! ### the parts of a displacement -/
/-- the i-th number of a start and gusts, alone -/
def unitI (i : Nat) : Int × Int × Int := (if i = 0 then 1 else 0, if i = 1 then 1 else 0, 1)
def gustI (i t : Nat) : Int := if i = t + 2 then 1 else 0
def rowI (n i : Nat) : List Int := (List.range n).map (gustI i)
def part (s : Slg) (n i : Nat) : Int := (run s (unitI i) (rowI n i)).1
/-! ### sets -/
structure SetS where
  s : Slg
  b0 : Int × Int
  b1 : Int × Int
  g : Int × Int
structure OkX (x : SetS) : Prop where
  s : OkS x.s
  a1 : -1000 ≤ x.b0.1
  a2 : x.b0.1 ≤ x.b0.2
  a3 : x.b0.2 ≤ 1000
  v1 : -1000 ≤ x.b1.1
  v2 : x.b1.1 ≤ x.b1.2
  v3 : x.b1.2 ≤ 1000
  g1 : -100 ≤ x.g.1
  g2 : x.g.1 ≤ x.g.2
  g3 : x.g.2 ≤ 100
end Go.Proofs.Ytgibbaadjbohdaa
/- sling: the small functions. No conditions. -/
set_option linter.unusedSimpArgs false
set_option linter.unusedVariables false
namespace Go.Proofs.Ytgibbaadjbohdaa
open Go.RowKit Lift

theorem in_agg2 (S : Nat → Prop) (a b : Value) : In S (.agg [.val a, .val b]) := .agg _ (by intro d hd; simp at hd; rcases hd with rfl | rfl <;> exact .val _)
set_option maxRecDepth 100000 in
set_option maxHeartbeats 1000000 in
theorem slwithin_ac (n a b : Int) : AC Try.prog 50 [dI n, dI a, dI b] [] [] (dB (wI n a b)) := by
  refine ksling_within.ac (n0 := 0) (by simp) ⟨.val _, .val _, .val _, trivial⟩ trivial rfl ?_
  unfold csling_within dI dB wI
  (have hg : (987654321 : Nat) - 987654321 = 0 := rfl; have hr := hg; repeat' (first | refine aw_seq ?_ | (refine aw_skip ?_; try simp only [thenQ, blockQ, if_true, if_false, Nat.reduceEqDiff, reduceCtorEq]) | (refine aw_exit ?_; try simp only [thenQ, blockQ, if_true, if_false, Nat.reduceEqDiff, reduceCtorEq]) | refine aw_ret ?_ | refine aw_block ?_ | refine aw_condT rfl ?_ | refine aw_condF rfl ?_ | (refine aw_cond rfl (fun hg => ?_) (fun hg => ?_) <;> (try (have hq := hg; simp only [Bool.not_eq_true', Bool.not_eq_false', Bool.and_eq_true, Bool.and_eq_false_iff, Bool.or_eq_true, Bool.or_eq_false_iff, decide_eq_true_eq, decide_eq_false_iff_not, bne_iff_ne, beq_iff_eq, beq_eq_false_iff_ne, bne_eq_false_iff_eq, ne_eq, Int.not_lt, Int.not_le, Decidable.not_not] at hq)) <;> (try (have hr := hg; simp only [decide_eq_true_eq, decide_eq_false_iff_not] at hr)) <;> (try (exfalso; omega))) | (refine ag_bool (fun hg => ?_) (fun hg => ?_) <;> (try (have hq := hg; simp only [Bool.not_eq_true', Bool.not_eq_false', Bool.and_eq_true, Bool.and_eq_false_iff, Bool.or_eq_true, Bool.or_eq_false_iff, decide_eq_true_eq, decide_eq_false_iff_not, bne_iff_ne, beq_iff_eq, beq_eq_false_iff_ne, bne_eq_false_iff_eq, ne_eq, Int.not_lt, Int.not_le, Decidable.not_not] at hq)) <;> (try (have hr := hg; simp only [decide_eq_true_eq, decide_eq_false_iff_not] at hr)) <;> (try (exfalso; omega)) <;> simp (config := {maxSteps := 10000000}) (disch := first | exact okYes (by kernel_rfl) | omega) only [ARun_nil, ARun_none, ARun_some, ARun_skip, AOpRun, AGo_f, AGo_ok, AG_tt, AG_ff, AG_tf, AG_ft, AG_un, aexec, run1, asI, elems, base, opt1, fillD, splice, abin, ash, isSh, foldI, mn2, mx2, ↓eget_h, eget_c, eget_n, eput_c, eput_n, putO, ↓hget_h, hget_c, hget_n, hput_c, hput_n, hdel_c, hdel_n, hups, cond_true, cond_false,  ups, St.F, St.app, FSt.ev, dropE_c, dropE_n, inL_c, inL_n, envOf, thenQ, blockQ, D.isBot, D.isAgg, D.cells, D.leaf, scalarEq, eqCells, isB, Option.map, List.map, List.length, List.all, List.append, List.take, List.drop, List.cons_append, List.nil_append, List.append_nil, Option.isSome, List.getElem?_cons_zero, List.getElem?_cons_succ, if_true, if_false, true_and, and_true, Bool.not_true, Bool.not_false, Bool.true_or, Bool.false_or, Bool.or_true, Bool.or_false, Bool.false_eq_true, ↓reduceIte, Nat.reduceAdd, Nat.reduceMul, Nat.reduceEqDiff, Nat.reduceBEq, Nat.reduceSub, Nat.zero_add, Nat.reduceLeDiff, Nat.reduceGT, Nat.reduceLT, Nat.reduceBNe, okLog_f, reduceCtorEq, or_self, or_false, false_or, or_true, true_or, and_self, and_false, false_and, not_true_eq_false, not_false_eq_true, ne_eq, Bool.and_true, Bool.true_and, Bool.and_false, Bool.false_and, decide_eq_true_eq, decide_true, decide_false, Int.reduceBEq, Int.reduceBNe, Int.reduceLT, Int.reduceLE, Int.reduceAdd, Int.reduceSub, Int.reduceMul, Int.reduceNeg, Int.reduceEq, Int.toNat_zero, Int.reduceToNat, Int.zero_lt_one, Nat.zero_le, Int.le_refl, beq_self_eq_true, bne_self_eq_false, cast_lit, fits, wrap_in, Int.toNat_natCast, Int.natCast_nonneg, ge_iff_le, hg, hr]) | ((first | refine aw_region ?_ | refine ago_if (by omega) ?_ | skip); simp (config := {maxSteps := 10000000}) (disch := first | exact okYes (by kernel_rfl) | omega) only [ARun_nil, ARun_none, ARun_some, ARun_skip, AOpRun, AGo_f, AGo_ok, AG_tt, AG_ff, AG_tf, AG_ft, AG_un, aexec, run1, asI, elems, base, opt1, fillD, splice, abin, ash, isSh, foldI, mn2, mx2, ↓eget_h, eget_c, eget_n, eput_c, eput_n, putO, ↓hget_h, hget_c, hget_n, hput_c, hput_n, hdel_c, hdel_n, hups, cond_true, cond_false,  ups, St.F, St.app, FSt.ev, dropE_c, dropE_n, inL_c, inL_n, envOf, thenQ, blockQ, D.isBot, D.isAgg, D.cells, D.leaf, scalarEq, eqCells, isB, Option.map, List.map, List.length, List.all, List.append, List.take, List.drop, List.cons_append, List.nil_append, List.append_nil, Option.isSome, List.getElem?_cons_zero, List.getElem?_cons_succ, if_true, if_false, true_and, and_true, Bool.not_true, Bool.not_false, Bool.true_or, Bool.false_or, Bool.or_true, Bool.or_false, Bool.false_eq_true, ↓reduceIte, Nat.reduceAdd, Nat.reduceMul, Nat.reduceEqDiff, Nat.reduceBEq, Nat.reduceSub, Nat.zero_add, Nat.reduceLeDiff, Nat.reduceGT, Nat.reduceLT, Nat.reduceBNe, okLog_f, reduceCtorEq, or_self, or_false, false_or, or_true, true_or, and_self, and_false, false_and, not_true_eq_false, not_false_eq_true, ne_eq, Bool.and_true, Bool.true_and, Bool.and_false, Bool.false_and, decide_eq_true_eq, decide_true, decide_false, Int.reduceBEq, Int.reduceBNe, Int.reduceLT, Int.reduceLE, Int.reduceAdd, Int.reduceSub, Int.reduceMul, Int.reduceNeg, Int.reduceEq, Int.toNat_zero, Int.reduceToNat, Int.zero_lt_one, Nat.zero_le, Int.le_refl, beq_self_eq_true, bne_self_eq_false, cast_lit, fits, wrap_in, Int.toNat_natCast, Int.natCast_nonneg, ge_iff_le, hg, hr])))
  all_goals (refine end_to [] [] (by first | exact .inl rfl | exact .inr rfl) rfl (by kernel_rfl) (by kernel_rfl) (by kernel_rfl) ?_ ?_ <;> repeat' (first | exact trivial | exact vr_val _ | exact vr_list _ | exact vr_at _ | exact vr_nil | exact vr_cap0 | exact vr_vec _ _ _ _ rfl | exact vr_own _ _ _ _ _ rfl | exact vr_ptr _ _ _ rfl | exact vr_nilv _ _ _ rfl | exact vr_bot _ | exact vr_cap0v _ _ _ rfl | exact vr_cap0l | apply vr_agg | apply vr_tup | apply vr_fn | refine vr_yld _ _ _ rfl ?_ | exact Ren.bot _ | exact Ren.val _ | exact Ren.list _ | exact Ren.at_ _ | exact Ren.ptr _ _ _ rfl | refine Ren.yld _ _ _ _ _ rfl rfl (RenL.get ?_).2 (fun _ _ _ h => h) | refine vr_fl _ _ _ _ _ (by decide) rfl ?_ ?_ ?_ ?_ | refine And.intro ⟨_, rfl, .inl ⟨_, rfl, by decide, ?_⟩⟩ ?_ | refine And.intro ⟨_, rfl, _, rfl, by decide, ?_⟩ ?_ | refine And.intro ⟨_, rfl, .inr ⟨rfl, rfl, of_decide_eq_true (by kernel_rfl)⟩⟩ ?_ | apply And.intro | refine vr_valq ?_ | refine vr_listq ?_ | exact vrl_flat _ (by first | exact icells_in _ | exact rcells_in _ | exact scells_in _ | exact bcells_in _ | assumption) | fail))
structure Small (x : Int × Int × Int) : Prop where
  a1 : -capN ≤ x.1
  a2 : x.1 ≤ capN
  v1 : -capN ≤ x.2.1
  v2 : x.2.1 ≤ capN
  d1 : 1 ≤ x.2.2
  d2 : x.2.2 ≤ 4294967296
end Go.Proofs.Ytgibbaadjbohdaa
/- sling: fractions and lists. No conditions. -/
namespace Go.Proofs.Ytgibbaadjbohdaa
open Go.RowKit Lift

/-- a fraction: below what it is divided by, and small -/
structure Fra (x : Int × Int) : Prop where
  d1 : 1 ≤ x.2
  d2 : x.2 ≤ 4294967296
  n1 : -4000000000000000 ≤ x.1
  n2 : x.1 ≤ 4000000000000000
end Go.Proofs.Ytgibbaadjbohdaa
/- The checks of boxes, on abstract values: both sides. No conditions. -/
set_option linter.unusedSimpArgs false
set_option linter.unusedVariables false
namespace Go.Proofs.Ytgibbaadjbohdaa
open Go.RowKit Lift

theorem bwithin_ac (n a b : Int) : AC Try.prog 74 [dI n, dI a, dI b] [] [] (dB (decide (a ≤ n) && decide (n ≤ b))) := by
  refine kspans_within.ac (n0 := 0) (by simp) ⟨.val _, .val _, .val _, trivial⟩ trivial rfl ?_
  unfold cspans_within
  refine aw_seq (aw_region ?_)
  simp (config := {maxSteps := 10000000}) (disch := first | exact okYes (by kernel_rfl) | omega) only [thenQ, List.map, dB, List.length, Nat.zero_add, Nat.reduceMul, envOf, dI, Nat.reduceAdd, ARun_none, AOpRun, aexec, FSt.ev, AGo_ok, St.app, putO, eput_c, Nat.reduceBEq, eput_n, cond_false, hups, ARun_nil, dropE_c, inL_n, dropE_n]
  refine aw_seq (aw_region ?_)
  by_cases h1 : a ≤ n
  · have h1' : n ≥ a := h1
    simp (config := {maxSteps := 10000000}) (disch := first | exact okYes (by kernel_rfl) | omega) only [thenQ, h1', decide_true, Bool.true_and, List.length, Nat.zero_add, Nat.reduceAdd, Nat.reduceMul, ARun_none, AOpRun, aexec, FSt.ev, St.F, ↓eget_h, AGo_ok, St.app, putO, eput_c, Nat.reduceBEq, eput_n, cond_false, hups, List.map, eget_c, isSh, Bool.false_eq_true, ↓reduceIte, Option.map, abin, ARun_some, AG_tt, beq_self_eq_true, cond_true, ARun_nil, dropE_c, inL_c, inL_n, dropE_n]
    refine aw_ret ?_
    refine end_to [] [] (by first | exact .inl rfl | exact .inr rfl) rfl (by kernel_rfl) (by kernel_rfl) (by kernel_rfl) ?_ ?_ <;> repeat' (first | exact trivial | exact vr_val _)
  · have h1' : ¬ n ≥ a := h1
    simp (config := {maxSteps := 10000000}) (disch := first | exact okYes (by kernel_rfl) | omega) only [thenQ, h1', decide_false, Bool.false_and, List.length, Nat.zero_add, Nat.reduceAdd, Nat.reduceMul, ARun_none, AOpRun, aexec, FSt.ev, St.F, ↓eget_h, AGo_ok, St.app, putO, eput_c, Nat.reduceBEq, eput_n, cond_false, hups, List.map, eget_c, isSh, Bool.false_eq_true, ↓reduceIte, Option.map, abin, ARun_some, AG_ft, beq_self_eq_true, cond_true, ARun_nil, dropE_c, inL_c, inL_n, dropE_n]
    refine aw_ret ?_
    refine end_to [] [] (by first | exact .inl rfl | exact .inr rfl) rfl (by kernel_rfl) (by kernel_rfl) (by kernel_rfl) ?_ ?_ <;> repeat' (first | exact trivial | exact vr_val _)
theorem valid_ac (x : Int × Int) : AC Try.prog 82 [spD x] [] [] (dB (okS x)) := by
  refine kspans_valid.ac (n0 := 0) (by simp) ⟨.agg _ (by intro d hd; simp at hd; rcases hd with rfl | rfl <;> exact .val _), trivial⟩ trivial rfl ?_
  unfold cspans_valid
  refine aw_seq (aw_region ?_)
  simp (config := {maxSteps := 10000000}) (disch := first | exact okYes (by kernel_rfl) | omega) only [thenQ, List.map, Int.reduceNeg, List.length, Nat.zero_add, Nat.reduceAdd, Nat.reduceMul, envOf, spD, ARun_none, AOpRun, aexec, D.isBot, FSt.ev, St.F, ↓eget_h, Bool.false_eq_true, Option.isSome, hget_n, or_self, ↓reduceIte, D.cells, AGo_ok, St.app, putO, eput_c, Nat.reduceBEq, eput_n, cond_false, hups, hput_n, ARun_nil, dropE_c, inL_n, dropE_n]
  refine aw_seq (aw_region ?_)
  simp (config := {maxSteps := 10000000}) (disch := first | exact okYes (by kernel_rfl) | omega) only [thenQ, List.length, Nat.zero_add, Nat.reduceAdd, Nat.reduceMul, Int.reduceNeg, ARun_none, AOpRun, aexec, FSt.ev, St.F, eget_c, Nat.reduceBEq, ↓eget_h, cond_false, AGo_ok, St.app, putO, eput_c, eput_n, hups, List.map, Option.map, run1, hget_c, beq_self_eq_true, hget_n, cond_true, List.getElem?_cons_zero, List.getElem?_cons_succ]
  refine acall0 (bwithin_ac x.1 (-1000000) x.2) ?_
  by_cases h1 : (decide (-1000000 ≤ x.1) && decide (x.1 ≤ x.2)) = true
  · simp (config := {maxSteps := 10000000}) (disch := first | exact okYes (by kernel_rfl) | omega) only [dB, Nat.reduceAdd, St.app, putO, Int.reduceNeg, h1, eput_c, Nat.reduceBEq, eput_n, cond_false, hups, ARun_none, AOpRun, aexec, FSt.ev, St.F, eget_c, ↓eget_h, AGo_ok, List.map, ARun_some, AG_tt, Nat.zero_add, Option.map, run1, hget_c, beq_self_eq_true, hget_n, cond_true, List.getElem?_cons_succ, List.getElem?_cons_zero, isSh, Bool.false_eq_true, ↓reduceIte, abin, ARun_nil, dropE_c, inL_c, inL_n, dropE_n]
    refine aw_ret ?_
    have e : okS x = decide (x.2 ≤ 1000000) := by unfold okS; rw [h1]; rfl
    rw [e]
    refine end_to [] [] (by first | exact .inl rfl | exact .inr rfl) rfl (by kernel_rfl) (by kernel_rfl) (by kernel_rfl) ?_ ?_ <;> repeat' (first | exact trivial | exact vr_val _)
  · have h1' : (decide (-1000000 ≤ x.1) && decide (x.1 ≤ x.2)) = false := by simpa using h1
    simp (config := {maxSteps := 10000000}) (disch := first | exact okYes (by kernel_rfl) | omega) only [dB, Nat.reduceAdd, St.app, putO, Int.reduceNeg, h1', eput_c, Nat.reduceBEq, eput_n, cond_false, hups, ARun_none, AOpRun, aexec, FSt.ev, St.F, eget_c, ↓eget_h, AGo_ok, List.map, ARun_some, AG_ft, Bool.false_eq_true, ↓reduceIte, beq_self_eq_true, cond_true, ARun_nil, dropE_c, inL_c, inL_n, dropE_n]
    refine aw_ret ?_
    have e : okS x = false := by unfold okS; rw [h1']; rfl
    rw [e]
    refine end_to [] [] (by first | exact .inl rfl | exact .inr rfl) rfl (by kernel_rfl) (by kernel_rfl) (by kernel_rfl) ?_ ?_ <;> repeat' (first | exact trivial | exact vr_val _)
theorem spanned1_ac (x : Int × Int) : AC Try.prog 81 [spD x] [] [] (dB (!okS x)) := by
  refine kspans_spanned_S1.ac (n0 := 0) (by simp) ⟨.agg _ (by intro d hd; simp at hd; rcases hd with rfl | rfl <;> exact .val _), trivial⟩ trivial rfl ?_
  unfold cspans_spanned_S1
  refine aw_seq (aw_region ?_)
  simp (config := {maxSteps := 10000000}) (disch := first | exact okYes (by kernel_rfl) | omega) only [thenQ, List.map, List.length, Nat.zero_add, Nat.reduceAdd, Nat.reduceMul, envOf, spD, ARun_none, AOpRun, aexec, D.isBot, FSt.ev, St.F, ↓eget_h, Bool.false_eq_true, Option.isSome, hget_n, or_self, ↓reduceIte, D.cells, AGo_ok, St.app, putO, eput_c, Nat.reduceBEq, eput_n, cond_false, hups, hput_n, ARun_nil, dropE_c, inL_n, dropE_n]
  refine aw_seq (aw_region ?_)
  simp (config := {maxSteps := 10000000}) (disch := first | exact okYes (by kernel_rfl) | omega) only [thenQ, List.length, Nat.zero_add, Nat.reduceAdd, Nat.reduceMul, ARun_none, AOpRun, aexec, FSt.ev, St.F, eget_c, Nat.reduceBEq, ↓eget_h, cond_false, hget_c, beq_self_eq_true, hget_n, cond_true, Nat.reduceLeDiff, ↓reduceIte, List.drop, List.take, AGo_ok, St.app, putO, eput_c, eput_n, hups, List.map]
  refine acall0 (valid_ac x) ?_
  simp (config := {maxSteps := 10000000}) (disch := first | exact okYes (by kernel_rfl) | omega) only [dB, Nat.reduceAdd, St.app, putO, eput_c, Nat.reduceBEq, eput_n, cond_false, hups, ARun_none, AOpRun, aexec, FSt.ev, St.F, eget_c, ↓eget_h, AGo_ok, List.map, beq_self_eq_true, cond_true, ARun_nil, dropE_c, inL_c, inL_n, dropE_n]
  refine aw_ret ?_
  refine end_to [] [] (by first | exact .inl rfl | exact .inr rfl) rfl (by kernel_rfl) (by kernel_rfl) (by kernel_rfl) ?_ ?_ <;> repeat' (first | exact trivial | exact vr_val _)
/-- the number of the first span that is not right -/
def badAt : Bx → Nat → Option Nat
  | [], _ => none
  | x :: b, k => if okS x = true then badAt b (k + 1) else some k
theorem badAt_none : ∀ (b : Bx) (k : Nat), badAt b k = none ↔ b.all okS = true
  | [], k => by simp [badAt]
  | x :: b, k => by
    unfold badAt
    have := badAt_none b (k + 1)
    by_cases h : okS x = true
    · rw [if_pos h, this]; simp [h]
    · rw [if_neg h]; simp [h]
theorem badAt_drop (b : Bx) (k : Nat) (h : k < b.length) : badAt (b.drop k) k = if okS (lo b k, hi b k) = true then badAt (b.drop (k + 1)) (k + 1) else some k := by
  have : b[k] = (lo b k, hi b k) := by simp [lo, hi, h]
  rw [List.drop_eq_getElem_cons h, this]
  rfl
def idxD : Option Nat → D
  | none => .val (.int .i64 (-1))
  | some k => .val (.int .i64 k)
set_option maxHeartbeats 1000000 in
theorem bindex_ac (b : Bx) (hl : b.length ≤ 1000) : AC Try.prog 118 [.list (sps b), .fn 81 [] []] [] [] (idxD (badAt b 0)) := by
  refine kslices_IndexFunc_L_L_Japi_Span_Kapi_Span_J.ac (n0 := 0) (by simp) ⟨.list _, .fn _ _ _ (by simp) (by simp), trivial⟩ trivial rfl ?_
  unfold cslices_IndexFunc_L_L_Japi_Span_Kapi_Span_J
  refine aw_seq (aw_region ?_)
  simp (config := {maxSteps := 10000000}) (disch := first | exact okYes (by kernel_rfl) | omega) only [thenQ, List.map, Int.reduceNeg, List.length, Nat.zero_add, Nat.reduceMul, envOf, ARun_none, AOpRun, aexec, FSt.ev, AGo_ok, St.app, putO, eput_c, Nat.reduceBEq, eput_n, cond_false, hups, ARun_nil, dropE_c, inL_n, dropE_n]
  refine aw_seq (aw_seq (aw_region ?_))
  simp (config := {maxSteps := 10000000}) (disch := first | exact okYes (by kernel_rfl) | omega) only [thenQ, Int.reduceNeg, List.length, Nat.zero_add, Nat.reduceAdd, Nat.reduceMul, ARun_none, AOpRun, aexec, FSt.ev, St.F, ↓eget_h, AGo_ok, St.app, putO, eput_c, Nat.reduceBEq, eput_n, cond_false, hups, List.map, eget_c, sps_len, ARun_nil, dropE_c, inL_c, inL_n, beq_self_eq_true, cond_true, dropE_n]
  refine aw_block (aw_loop (fun k : Nat => ⟨[(0, .list (sps b)), (1, .fn 81 [] []), (7, .val (.int .i64 b.length)), (8, .val (.int .i64 k))], [], 64⟩) (fun k => k ≤ b.length ∧ badAt b 0 = badAt (b.drop k) k) (fun k => b.length - k) ⟨0, ⟨by omega, rfl⟩, ?_⟩ ?_)
  · refine wk_to [] [] (by kernel_rfl) (by kernel_rfl) (by kernel_rfl) (by kernel_rfl) (by kernel_rfl) ?_ ?_ <;> repeat' (first | exact trivial | exact vr_val _ | exact vr_list _ | apply vr_fn | apply And.intro)
  · rintro k ⟨hk, hb⟩
    refine aw_seq (aw_region ?_)
    simp (config := {maxSteps := 10000000}) (disch := first | exact okYes (by kernel_rfl) | omega) only [thenQ, Int.reduceNeg, List.length, Nat.zero_add, Nat.reduceMul, Nat.reduceAdd, ARun_none, AOpRun, aexec, FSt.ev, St.F, eget_c, Nat.reduceBEq, ↓eget_h, cond_false, isSh, Bool.false_eq_true, ↓reduceIte, Option.map, abin, AGo_ok, St.app, putO, eput_c, eput_n, hups, List.map, ARun_nil, dropE_c, inL_n, dropE_n]
    refine aw_seq (aw_cond rfl (fun hc => ?_) (fun hc => ?_))
    · have hk' : k < b.length := by have := of_decide_eq_true hc; omega
      refine aw_skip (aw_seq (aw_block (aw_seq (aw_region ?_))))
      simp (config := {maxSteps := 10000000}) (disch := first | exact okYes (by kernel_rfl) | omega) only [thenQ, Int.reduceNeg, List.length, Nat.zero_add, Nat.reduceAdd, Nat.reduceMul, ARun_none, AOpRun, aexec, FSt.ev, St.F, eget_c, Nat.reduceBEq, ↓eget_h, cond_false, AGo_ok, St.app, putO, eput_c, eput_n, hups, List.map, ARun_nil, dropE_c, inL_c, inL_n, beq_self_eq_true, cond_true, dropE_n]
      refine aw_seq (aw_region ?_)
      simp (config := {maxSteps := 10000000}) (disch := first | exact okYes (by kernel_rfl) | omega) only [thenQ, Int.reduceNeg, List.length, Nat.zero_add, Nat.reduceAdd, Nat.reduceMul, ARun_none, AOpRun, aexec, FSt.ev, St.F, eget_c, Nat.reduceBEq, ↓eget_h, cond_false, AGo_ok, St.app, putO, eput_c, eput_n, hups, List.map, Int.natCast_nonneg, sps_all, and_self, ↓reduceIte, opt1, Option.map, Int.toNat_natCast, sps_gd b k hk', Nat.reduceLeDiff, List.take]
      refine acall0 (spanned1_ac (lo b k, hi b k)) ?_
      simp (config := {maxSteps := 10000000}) (disch := first | exact okYes (by kernel_rfl) | omega) only [Int.reduceNeg, Nat.reduceAdd, St.app, putO, dB, eput_c, Nat.reduceBEq, eput_n, cond_false, hups, ARun_nil, dropE_c, inL_c, inL_n, beq_self_eq_true, cond_true, dropE_n]
      rw [badAt_drop b k hk'] at hb
      refine aw_cond rfl (fun hc => ?_) (fun hc => ?_)
      · have hn : okS (lo b k, hi b k) = false := by simpa using hc
        rw [hn] at hb
        refine aw_seq (aw_region ?_)
        simp (config := {maxSteps := 10000000}) (disch := first | exact okYes (by kernel_rfl) | omega) only [thenQ, Int.reduceNeg, List.length, Nat.zero_add, Nat.reduceAdd, Nat.reduceMul, ARun_none, AOpRun, aexec, FSt.ev, St.F, eget_c, Nat.reduceBEq, ↓eget_h, cond_false, AGo_ok, St.app, putO, eput_c, eput_n, hups, List.map, ARun_nil, dropE_c, inL_c, inL_n, beq_self_eq_true, cond_true, dropE_n]
        refine aw_ret ?_
        rw [hb]
        simp only [Bool.false_eq_true, if_false, idxD]
        refine end_to [] [] (by first | exact .inl rfl | exact .inr rfl) rfl (by kernel_rfl) (by kernel_rfl) (by kernel_rfl) ?_ ?_ <;> repeat' (first | exact trivial | exact vr_val _)
      · have hn : okS (lo b k, hi b k) = true := by simpa using hc
        rw [hn, if_pos rfl] at hb
        refine aw_skip (aw_region ?_)
        simp (config := {maxSteps := 10000000}) (disch := first | exact okYes (by kernel_rfl) | omega) only [thenQ, List.length, Nat.zero_add, Nat.reduceAdd, Nat.reduceMul, ARun_none, AOpRun, aexec, FSt.ev, St.F, eget_c, Nat.reduceBEq, ↓eget_h, cond_false, isSh, Bool.false_eq_true, ↓reduceIte, Option.map, abin, fits, AGo_ok, St.app, putO, eput_c, eput_n, hups, List.map, beq_self_eq_true, cond_true, ARun_nil, dropE_c, inL_c, inL_n, dropE_n]
        refine ⟨k + 1, ⟨hk', hb⟩, by omega, ?_⟩
        refine wk_to [] [] (by kernel_rfl) (by kernel_rfl) (by kernel_rfl) (by kernel_rfl) (by kernel_rfl) ?_ ?_ <;> repeat' (first | exact trivial | exact vr_val _ | exact vr_list _ | apply vr_fn | apply And.intro)
    · have hk' : k = b.length := by have := of_decide_eq_false hc; omega
      subst hk'
      refine aw_exit (aw_seq (aw_region ?_))
      simp (config := {maxSteps := 10000000}) (disch := first | exact okYes (by kernel_rfl) | omega) only [thenQ, List.length, Nat.zero_add, Nat.reduceMul, Nat.reduceAdd, Int.reduceNeg, ARun_none, AOpRun, aexec, FSt.ev, AGo_ok, St.app, putO, eput_c, Nat.reduceBEq, eput_n, cond_false, hups, List.map, ARun_nil, dropE_c, inL_n, dropE_n]
      refine aw_ret ?_
      rw [hb, List.drop_length]
      refine end_to [] [] (by first | exact .inl rfl | exact .inr rfl) rfl (by kernel_rfl) (by kernel_rfl) (by kernel_rfl) ?_ ?_ <;> repeat' (first | exact trivial | exact vr_val _)
theorem bcontains_ac (b : Bx) (hl : b.length ≤ 1000) : AC Try.prog 80 [.list (sps b), .fn 81 [] []] [] [] (dB (!b.all okS)) := by
  refine kslices_ContainsFunc_L_L_Japi_Span_Kapi_Span_J.ac (n0 := 0) (by simp) ⟨.list _, .fn _ _ _ (by simp) (by simp), trivial⟩ trivial rfl ?_
  unfold cslices_ContainsFunc_L_L_Japi_Span_Kapi_Span_J
  refine aw_seq (aw_region ?_)
  simp (config := {maxSteps := 10000000}) (disch := first | exact okYes (by kernel_rfl) | omega) only [thenQ, List.map, List.length, Nat.zero_add, Nat.reduceMul, envOf, ARun_none, AOpRun, aexec, FSt.ev, AGo_ok, St.app, putO, eput_c, Nat.reduceBEq, eput_n, cond_false, hups, ARun_nil, dropE_c, inL_n, dropE_n]
  refine aw_seq (aw_region ?_)
  simp (config := {maxSteps := 10000000}) (disch := first | exact okYes (by kernel_rfl) | omega) only [thenQ, List.length, Nat.zero_add, Nat.reduceAdd, Nat.reduceMul, ARun_none, AOpRun, aexec, FSt.ev, St.F, ↓eget_h, AGo_ok, St.app, putO, eput_c, Nat.reduceBEq, eput_n, cond_false, hups, List.map, eget_c]
  refine acall0 (bindex_ac b hl) ?_
  have hb := badAt_none b 0
  cases hi : badAt b 0 with
  | none =>
    have h1 : b.all okS = true := hb.1 hi
    simp (config := {maxSteps := 10000000}) (disch := first | exact okYes (by kernel_rfl) | omega) only [Nat.reduceAdd, St.app, putO, idxD, Int.reduceNeg, eput_c, Nat.reduceBEq, eput_n, cond_false, hups, ARun_none, AOpRun, aexec, FSt.ev, St.F, eget_c, ↓eget_h, isSh, Bool.false_eq_true, ↓reduceIte, Option.map, abin, AGo_ok, List.map, beq_self_eq_true, cond_true, ARun_nil, dropE_c, inL_c, inL_n, dropE_n]
    refine aw_ret ?_
    rw [h1]
    refine end_to [] [] (by first | exact .inl rfl | exact .inr rfl) rfl (by kernel_rfl) (by kernel_rfl) (by kernel_rfl) ?_ ?_ <;> repeat' (first | exact trivial | exact vr_val _)
  | some k =>
    have h1 : b.all okS = false := by
      rw [hi] at hb
      cases h : b.all okS with
      | false => rfl
      | true => rw [h] at hb; simp at hb
    have h2 : ((k : Int) ≥ 0) := by omega
    simp (config := {maxSteps := 10000000}) (disch := first | exact okYes (by kernel_rfl) | omega) only [Nat.reduceAdd, St.app, putO, idxD, eput_c, Nat.reduceBEq, eput_n, cond_false, hups, ARun_none, AOpRun, aexec, FSt.ev, St.F, eget_c, ↓eget_h, isSh, Bool.false_eq_true, ↓reduceIte, Option.map, abin, h2, decide_true, AGo_ok, List.map, beq_self_eq_true, cond_true, ARun_nil, dropE_c, inL_c, inL_n, dropE_n]
    refine aw_ret ?_
    rw [h1]
    refine end_to [] [] (by first | exact .inl rfl | exact .inr rfl) rfl (by kernel_rfl) (by kernel_rfl) (by kernel_rfl) ?_ ?_ <;> repeat' (first | exact trivial | exact vr_val _)
theorem spanned_ac (b : Bx) (hl : b.length ≤ 1000) : AC Try.prog 44 [.list (sps b)] [] [] (dI (if b.all okS = true then 0 else 10)) := by
  refine kspans_spanned.ac (n0 := 0) (by simp) ⟨.list _, trivial⟩ trivial rfl ?_
  unfold cspans_spanned
  refine aw_seq (aw_region ?_)
  simp (config := {maxSteps := 10000000}) (disch := first | exact okYes (by kernel_rfl) | omega) only [thenQ, List.map, List.length, Nat.zero_add, Nat.reduceMul, envOf, ARun_none, AOpRun, aexec, FSt.ev, AGo_ok, St.app, putO, eput_c, Nat.reduceBEq, eput_n, cond_false, hups, ARun_nil, dropE_c, inL_n, dropE_n]
  refine aw_seq (aw_seq (aw_region ?_))
  simp (config := {maxSteps := 10000000}) (disch := first | exact okYes (by kernel_rfl) | omega) only [thenQ, List.length, Nat.zero_add, Nat.reduceAdd, Nat.reduceMul, ARun_none, AOpRun, aexec, FSt.ev, St.F, ↓eget_h, AGo_ok, St.app, putO, eput_c, Nat.reduceBEq, eput_n, cond_false, hups, List.map, eget_c]
  refine acall0 (bcontains_ac b hl) ?_
  simp (config := {maxSteps := 10000000}) (disch := first | exact okYes (by kernel_rfl) | omega) only [Nat.reduceAdd, St.app, putO, dB, eput_c, Nat.reduceBEq, eput_n, cond_false, hups, ARun_nil, dropE_c, inL_c, inL_n, beq_self_eq_true, cond_true, dropE_n]
  refine aw_cond rfl (fun hc => ?_) (fun hc => ?_)
  · have h1 : ¬ b.all okS = true := by simpa using hc
    refine aw_seq (aw_region ?_)
    simp (config := {maxSteps := 10000000}) (disch := first | exact okYes (by kernel_rfl) | omega) only [thenQ, List.length, Nat.zero_add, Nat.reduceMul, Nat.reduceAdd, ARun_none, AOpRun, aexec, FSt.ev, AGo_ok, St.app, putO, eput_c, Nat.reduceBEq, beq_self_eq_true, eput_n, cond_false, cond_true, hups, List.map, ARun_nil, dropE_c, inL_n, dropE_n]
    refine aw_ret ?_
    rw [if_neg h1]
    refine end_to [] [] (by first | exact .inl rfl | exact .inr rfl) rfl (by kernel_rfl) (by kernel_rfl) (by kernel_rfl) ?_ ?_ <;> repeat' (first | exact trivial | exact vr_val _)
  · have h1 : b.all okS = true := by simpa using hc
    refine aw_skip (aw_seq (aw_region ?_))
    simp (config := {maxSteps := 10000000}) (disch := first | exact okYes (by kernel_rfl) | omega) only [thenQ, List.length, Nat.zero_add, Nat.reduceMul, Nat.reduceAdd, ARun_none, AOpRun, aexec, FSt.ev, AGo_ok, St.app, putO, eput_c, Nat.reduceBEq, beq_self_eq_true, eput_n, cond_false, cond_true, hups, List.map, ARun_nil, dropE_c, inL_n, dropE_n]
    refine aw_ret ?_
    rw [if_pos h1]
    refine end_to [] [] (by first | exact .inl rfl | exact .inr rfl) rfl (by kernel_rfl) (by kernel_rfl) (by kernel_rfl) ?_ ?_ <;> repeat' (first | exact trivial | exact vr_val _)
theorem check_ac (b : Bx) : AC Try.prog 77 [.list (sps b)] [] [] (dI (boxE b)) := by
  refine kspans_Check.ac (n0 := 0) (by simp) ⟨.list _, trivial⟩ trivial rfl ?_
  unfold cspans_Check
  refine aw_seq (aw_region ?_)
  simp (config := {maxSteps := 10000000}) (disch := first | exact okYes (by kernel_rfl) | omega) only [thenQ, List.map, List.length, Nat.zero_add, Nat.reduceMul, envOf, ARun_none, AOpRun, aexec, FSt.ev, AGo_ok, St.app, putO, eput_c, Nat.reduceBEq, eput_n, cond_false, hups, ARun_nil, dropE_c, inL_n, dropE_n]
  refine aw_seq (aw_seq (aw_region ?_))
  simp (config := {maxSteps := 10000000}) (disch := first | exact okYes (by kernel_rfl) | omega) only [thenQ, List.length, Nat.zero_add, Nat.reduceAdd, Nat.reduceMul, ARun_none, AOpRun, aexec, FSt.ev, St.F, ↓eget_h, AGo_ok, St.app, putO, eput_c, Nat.reduceBEq, eput_n, cond_false, hups, List.map, eget_c, sps_len]
  refine acall0 (bwithin_ac b.length 1 3) ?_
  simp (config := {maxSteps := 10000000}) (disch := first | exact okYes (by kernel_rfl) | omega) only [Nat.reduceAdd, St.app, putO, dB, eput_c, Nat.reduceBEq, eput_n, cond_false, hups, ARun_none, AOpRun, aexec, FSt.ev, St.F, eget_c, ↓eget_h, AGo_ok, List.map, ARun_nil, dropE_c, inL_c, inL_n, beq_self_eq_true, cond_true, dropE_n]
  refine aw_cond rfl (fun hc => ?_) (fun hc => ?_)
  · have h1 : ¬ (1 ≤ b.length ∧ b.length ≤ 3 ∧ b.all okS = true) := fun h => by
      simp only [Bool.not_eq_true', Bool.and_eq_false_iff, decide_eq_false_iff_not] at hc
      omega
    refine aw_seq (aw_region ?_)
    simp (config := {maxSteps := 10000000}) (disch := first | exact okYes (by kernel_rfl) | omega) only [thenQ, List.length, Nat.zero_add, Nat.reduceMul, Nat.reduceAdd, ARun_none, AOpRun, aexec, FSt.ev, AGo_ok, St.app, putO, eput_c, Nat.reduceBEq, beq_self_eq_true, eput_n, cond_false, cond_true, hups, List.map, ARun_nil, dropE_c, inL_n, dropE_n]
    refine aw_ret ?_
    unfold boxE
    rw [if_neg h1]
    refine end_to [] [] (by first | exact .inl rfl | exact .inr rfl) rfl (by kernel_rfl) (by kernel_rfl) (by kernel_rfl) ?_ ?_ <;> repeat' (first | exact trivial | exact vr_val _)
  · simp only [Bool.not_eq_false', Bool.and_eq_true, decide_eq_true_eq] at hc
    refine aw_skip (aw_seq (aw_region ?_))
    simp (config := {maxSteps := 10000000}) (disch := first | exact okYes (by kernel_rfl) | omega) only [thenQ, List.length, Nat.zero_add, Nat.reduceAdd, Nat.reduceMul, ARun_none, AOpRun, aexec, FSt.ev, St.F, ↓eget_h, AGo_ok, St.app, putO, eput_c, Nat.reduceBEq, eput_n, cond_false, hups, List.map, eget_c]
    refine acall0 (spanned_ac b (by omega)) ?_
    simp (config := {maxSteps := 10000000}) (disch := first | exact okYes (by kernel_rfl) | omega) only [dI, Nat.reduceAdd, St.app, putO, eput_c, Nat.reduceBEq, eput_n, cond_false, hups, ARun_none, AOpRun, aexec, FSt.ev, St.F, eget_c, ↓eget_h, AGo_ok, beq_self_eq_true, cond_true, List.map, ARun_nil, dropE_c, inL_c, inL_n, dropE_n]
    refine aw_ret ?_
    have e : boxE b = (if b.all okS = true then 0 else 10) := by
      unfold boxE
      by_cases h : b.all okS = true
      · rw [if_pos ⟨by omega, by omega, h⟩, if_pos h]
      · rw [if_neg (fun hh => h hh.2.2), if_neg h]
    rw [e]
    refine end_to [] [] (by first | exact .inl rfl | exact .inr rfl) rfl (by kernel_rfl) (by kernel_rfl) (by kernel_rfl) ?_ ?_ <;> repeat' (first | exact trivial | exact vr_val _)
end Go.Proofs.Ytgibbaadjbohdaa
/- The first of a list of which something is so. No conditions. -/
namespace Go.Proofs.Ytgibbaadjbohdaa

def ixOf {α : Type} (p : α → Bool) (l : List α) : Int := if l.any p = true then (l.findIdx p : Int) else -1
theorem ixOf_some {α : Type} {p : α → Bool} {l : List α} {d : α} {k : Nat} (hk : k < l.length) (h : ∀ j, j < k → p (l[j]?.getD d) = false) (hp : p (l[k]?.getD d) = true) : ixOf p l = k := by
  have e : p l[k] = true := by simpa [hk] using hp
  unfold ixOf
  rw [if_pos (List.any_eq_true.2 ⟨l[k], List.getElem_mem hk, e⟩)]
  have : l.findIdx p = k := (List.findIdx_eq hk).2 ⟨e, fun j hj => by
    have := h j hj
    simpa [show j < l.length by omega] using this⟩
  rw [this]
theorem ixOf_none {α : Type} {p : α → Bool} {l : List α} {d : α} (h : ∀ j, j < l.length → p (l[j]?.getD d) = false) : ixOf p l = -1 := by
  unfold ixOf
  rw [if_neg]
  intro hc
  obtain ⟨x, hx, hp⟩ := List.any_eq_true.1 hc
  obtain ⟨j, hj, rfl⟩ := List.getElem_of_mem hx
  have := h j hj
  simp [hj, hp] at this
theorem ixOf_ge {α : Type} (p : α → Bool) (l : List α) : decide (ixOf p l ≥ 0) = l.any p := by
  unfold ixOf
  cases h : l.any p <;> simp
theorem prev_next {α : Type} {p : α → Bool} {l : List α} {d : α} {k : Nat} (h : ∀ j, j < k → p (l[j]?.getD d) = false) (hp : p (l[k]?.getD d) = false) : ∀ j, j < k + 1 → p (l[j]?.getD d) = false := fun j hj => by
  rcases (by omega : j < k ∨ j = k) with h1 | rfl
  · exact h j h1
  · exact hp
/-- the first number below n of which something is so; -1: none -/
def ixR (p : Nat → Bool) (n : Nat) : Int := ixOf p (List.range n)
theorem ixR_some {p : Nat → Bool} {n k : Nat} (hk : k < n) (h : ∀ j, j < k → p j = false) (hp : p k = true) : ixR p n = k :=
  ixOf_some (d := 0) (by simpa using hk) (fun j hj => by simpa [show j < n by omega] using h j hj) (by simpa [hk] using hp)
theorem ixR_none {p : Nat → Bool} {n : Nat} (h : ∀ j, j < n → p j = false) : ixR p n = -1 :=
  ixOf_none (d := 0) fun j hj => by
    have hj' : j < n := by simpa using hj
    simpa [hj'] using h j hj'
theorem ixR_cases (p : Nat → Bool) : ∀ n : Nat, (ixR p n = -1 ∧ ∀ j, j < n → p j = false) ∨ ∃ k, k < n ∧ ixR p n = k ∧ p k = true ∧ ∀ j, j < k → p j = false := by
  intro n
  by_cases h : ∃ k, k < n ∧ p k = true
  · right
    have key : ∀ m : Nat, (∃ k, k < m ∧ p k = true) → ∃ k, k < m ∧ p k = true ∧ ∀ j, j < k → p j = false := by
      intro m
      induction m with
      | zero => rintro ⟨k, hk, _⟩; omega
      | succ m ih =>
        rintro ⟨k, hk, hp⟩
        by_cases h2 : ∃ k, k < m ∧ p k = true
        · obtain ⟨k', h3, h4, h5⟩ := ih h2
          exact ⟨k', by omega, h4, h5⟩
        · refine ⟨k, hk, hp, fun j hj => ?_⟩
          cases hpj : p j with
          | false => rfl
          | true => exact absurd ⟨j, by omega, hpj⟩ h2
    obtain ⟨k, h1, h2, h3⟩ := key n h
    exact ⟨k, h1, ixR_some h1 h3 h2, h2, h3⟩
  · left
    have h2 : ∀ j, j < n → p j = false := fun j hj => by
      cases hpj : p j with
      | false => rfl
      | true => exact absurd ⟨j, hj, hpj⟩ h
    exact ⟨ixR_none h2, h2⟩
end Go.Proofs.Ytgibbaadjbohdaa
/- A call that takes one slice of one's own, to look at. No conditions. -/
namespace Go.Proofs.Ytgibbaadjbohdaa.Lift
open Go Go.RowKit

theorem flat_len {sz : Nat} : ∀ l : List (List D), (∀ e ∈ l, e.length = sz) → l.flatten.length = l.length * sz
  | [], _ => by simp
  | x :: l, h => by
    simp only [List.flatten_cons, List.length_append, List.length_cons, flat_len l fun e he => h e (List.mem_cons_of_mem _ he), h x (List.mem_cons_self ..)]
    rw [Nat.succ_mul]; omega
section
variable {P : Program} {dr : Bool} {b : Nat} {Q : St → Prop} {dst : Option Nat} {anc : List Nat} {l : List AOper} {k : Nat} {s : St} {log : Lg}
theorem acallV1 {f : FuncId} {g n sz : Nat} {L : List (List D)} {c : List D} {d : D} (hA : AC P f [.list L] [] [] d) (hF : Flat d) (hc : hget s.hp g = some c) (h4 : ∀ e ∈ L, e.length = sz) (h5 : L.length = n) (h6 : L.flatten = c) (h7 : ∀ x ∈ c, In (fun _ => False) x)
    (hl : okLog dr log anc [g] [] = true) (h : ARun P dr b Q l (k + 1) (s.app dst d []) ((k, [g], []) :: log)) : ACallK P dr b Q (.fn f [] []) [.vec g n sz] dst anc l k s log :=
  acall (args' := [.list L]) hA [g] ⟨by
    have := flat_len L h4
    rw [h6, h5] at this
    exact .vec g n sz c L (List.mem_singleton.2 rfl) hc (by omega) h4 h5 (by rw [h6, List.take_of_length_le (by omega)]) h7, trivial⟩ (.inr hF) (fun x hx => by rw [List.mem_singleton.1 hx]; exact ⟨c, hc⟩) hl h
end
end Go.Proofs.Ytgibbaadjbohdaa.Lift
/- Sets of starts and gusts: what is right; how one is made. No conditions. -/
namespace Go.Proofs.Ytgibbaadjbohdaa
open Go.RowKit Lift

theorem box1 (x : Int × Int) : boxE [x] = if okS x = true then 0 else 10 := by
  unfold boxE; by_cases h : okS x = true <;> simp [h]
theorem okS_t {x : Int × Int} (h : okS x = true) : -1000000 ≤ x.1 ∧ x.1 ≤ x.2 ∧ x.2 ≤ 1000000 := by
  simp only [okS, Bool.and_eq_true, decide_eq_true_eq] at h; omega
end Go.Proofs.Ytgibbaadjbohdaa
/- The functions' bodies, translated. Written by a program; no conditions. -/
namespace Go.Proofs.Ytgibbaadjbohdaa
open Go.RowKit Lift

/-- spans_axis -/
def cspans_axis : ACode :=
  (.seq
   (.region false [⟨some 2, .mv (.const (.bool false)), none, []⟩] [])
  (.seq
   (.seq
    (.region false [⟨some 5, .mv (.tmp 0), none, []⟩,
      ⟨some 6, .len_ (.tmp 5), none, []⟩,
      ⟨some 7, .call (.func 74) [(.tmp 6), (.const (.int .i64 2)), (.const (.int .i64 12))], none, []⟩,
      ⟨some 8, .un .not (.tmp 7), none, []⟩] [5, 6, 7])
   (.cond (.tmp 8)
     (.seq
      (.region false [⟨some 2, .mv (.const (.bool false)), none, []⟩] [])
     .ret)
     .skip))
  (.seq
   (.seq
    (.region false [⟨some 9, .mv (.tmp 0), none, []⟩,
      ⟨some 10, .len_ (.tmp 9), none, []⟩,
      ⟨some 11, .mv (.const (.int .i64 0)), none, []⟩] [])
   (.block 0
     (.loop
       (.seq
        (.region false [⟨some 12, .bin .lss (.tmp 11) (.tmp 10), none, []⟩] [])
       (.seq
        (.cond (.tmp 12)
          .skip
          (.exit 0))
       (.seq
        (.block 1
          (.seq
           (.region false [⟨some 13, .mv (.tmp 11), none, []⟩,
             ⟨some 14, .iadS 1 (.tmp 9) (.tmp 11), none, []⟩,
             ⟨some 15, .load1 (.tmp 14), none, []⟩,
             ⟨some 3, .mv (.tmp 13), none, []⟩,
             ⟨some 4, .mv (.tmp 15), none, []⟩] [13, 14, 15])
          (.seq
           (.region false [⟨some 16, .mv (.tmp 4), none, []⟩,
             ⟨some 17, .call (.func 74) [(.tmp 16), (.const (.int .i64 (-1000000))), (.const (.int .i64 1000000))], none, []⟩,
             ⟨some 18, .un .not (.tmp 17), none, []⟩,
             ⟨some 19, .mv (.tmp 18), none, []⟩,
             ⟨some 20, .mv (.tmp 3), (some (some 19, false)), []⟩,
             ⟨some 21, .bin .gtr (.tmp 20) (.const (.int .i64 0)), (some (some 19, false)), []⟩,
             ⟨some 22, .mv (.tmp 21), (some (some 19, false)), []⟩,
             ⟨some 23, .mv (.tmp 4), (some (some 22, true)), []⟩,
             ⟨some 24, .mv (.tmp 0), (some (some 22, true)), []⟩,
             ⟨some 25, .mv (.tmp 3), (some (some 22, true)), []⟩,
             ⟨some 26, .bin .sub (.tmp 25) (.const (.int .i64 1)), (some (some 22, true)), []⟩,
             ⟨some 27, .iadS 1 (.tmp 24) (.tmp 26), (some (some 22, true)), []⟩,
             ⟨some 28, .load1 (.tmp 27), (some (some 22, true)), []⟩,
             ⟨some 29, .bin .sub (.tmp 23) (.tmp 28), (some (some 22, true)), []⟩,
             ⟨some 30, .call (.func 74) [(.tmp 29), (.const (.int .i64 1)), (.const (.int .i64 10000))], (some (some 22, true)), []⟩,
             ⟨some 31, .un .not (.tmp 30), (some (some 22, true)), []⟩,
             ⟨some 32, .pick (.tmp 22) (.tmp 31) (.const (.bool false)), (some (some 19, false)), []⟩,
             ⟨some 33, .pick (.tmp 19) (.const (.bool true)) (.tmp 32), none, []⟩] [16, 17, 18, 19, 20, 21, 22, 23, 24, 25, 26, 27, 28, 29, 30, 31, 32])
          (.cond (.tmp 33)
            (.seq
             (.region false [⟨some 2, .mv (.const (.bool false)), none, []⟩] [])
            .ret)
            .skip))))
       (.region false [⟨some 34, .bin .add (.tmp 11) (.const (.int .i64 1)), none, []⟩,
         ⟨some 11, .mv (.tmp 34), none, []⟩] [34])))))))
  (.seq
   (.region false [⟨some 2, .mv (.const (.bool true)), none, []⟩] [])
  .ret))))
set_option maxRecDepth 100000 in
theorem kspans_axis : IsCode Try.prog 137 35 cspans_axis [.tmp 2] :=
  ⟨Try.f137, _, [33, 12, 8, 0, 11, 10, 9, 4, 3, 2], Try.func137, rfl, by decide, rfl, by kernel_rfl, by kernel_rfl⟩
/-- spans_CheckTable -/
def cspans_CheckTable : ACode :=
  (.seq
   (.region false [⟨some 1, .box (.tmp 0), none, []⟩,
     ⟨some 2, .mv (.const (.int .i64 0)), none, []⟩] [])
  (.seq
   (.region false [⟨some 3, .mem [(.val (.nilFunc))], none, []⟩,
     ⟨none, .store 1 (.tmp 3) (.func 135), none, []⟩] [])
  (.seq
   (.region false [⟨some 5, .mkfn 136 [] [(.tmp 1), (.tmp 3)], none, []⟩,
     ⟨some 4, .mv (.tmp 5), none, []⟩] [5])
  (.seq
   (.seq
    (.region false [⟨some 6, .fad 0 (.tmp 1), none, []⟩,
      ⟨some 7, .load1 (.tmp 6), none, []⟩,
      ⟨some 8, .call (.func 137) [(.tmp 7)], none, []⟩,
      ⟨some 9, .un .not (.tmp 8), none, []⟩,
      ⟨some 10, .mv (.tmp 9), none, []⟩,
      ⟨some 11, .fad 1 (.tmp 1), (some (some 10, false)), []⟩,
      ⟨some 12, .load1 (.tmp 11), (some (some 10, false)), []⟩,
      ⟨some 13, .call (.func 137) [(.tmp 12)], (some (some 10, false)), []⟩,
      ⟨some 14, .un .not (.tmp 13), (some (some 10, false)), []⟩,
      ⟨some 15, .pick (.tmp 10) (.const (.bool true)) (.tmp 14), none, []⟩,
      ⟨some 16, .mv (.tmp 15), none, []⟩,
      ⟨some 17, .fad 2 (.tmp 1), (some (some 16, false)), []⟩,
      ⟨some 18, .load1 (.tmp 17), (some (some 16, false)), []⟩,
      ⟨some 19, .len_ (.tmp 18), (some (some 16, false)), []⟩,
      ⟨some 20, .fad 0 (.tmp 1), (some (some 16, false)), []⟩,
      ⟨some 21, .load1 (.tmp 20), (some (some 16, false)), []⟩,
      ⟨some 22, .len_ (.tmp 21), (some (some 16, false)), []⟩,
      ⟨some 23, .bin .neq (.tmp 19) (.tmp 22), (some (some 16, false)), []⟩,
      ⟨some 24, .pick (.tmp 16) (.const (.bool true)) (.tmp 23), none, []⟩,
      ⟨some 25, .mv (.tmp 24), none, []⟩,
      ⟨some 26, .fad 2 (.tmp 1), (some (some 25, false)), []⟩,
      ⟨some 27, .load1 (.tmp 26), (some (some 25, false)), []⟩,
      ⟨some 28, .mv (.tmp 4), (some (some 25, false)), []⟩,
      ⟨some 29, .call (.func 138) [(.tmp 27), (.tmp 28)], (some (some 25, false)), []⟩,
      ⟨some 30, .pick (.tmp 25) (.const (.bool true)) (.tmp 29), none, []⟩] [6, 7, 8, 9, 10, 11, 12, 13, 14, 15, 16, 17, 18, 19, 20, 21, 22, 23, 24, 25, 26, 27, 28, 29])
   (.cond (.tmp 30)
     (.seq
      (.region false [⟨some 2, .mv (.const (.int .i64 11)), none, []⟩] [])
     .ret)
     .skip))
  (.seq
   (.region false [⟨some 2, .mv (.const (.int .i64 0)), none, []⟩] [])
  .ret)))))
set_option maxRecDepth 100000 in
theorem kspans_CheckTable : IsCode Try.prog 110 31 cspans_CheckTable [.tmp 2] :=
  ⟨Try.f110, _, [30, 0, 1, 3, 4, 2], Try.func110, rfl, by decide, rfl, by kernel_rfl, by kernel_rfl⟩
/-- spans_CheckTable_S1 -/
def cspans_CheckTable_S1 : ACode :=
  (.seq
   (.region false [⟨some 2, .mv (.const (.bool false)), none, []⟩] [])
  (.seq
   (.region false [⟨some 3, .mv (.tmp 0), none, []⟩,
     ⟨some 4, .call (.func 74) [(.tmp 3), (.const (.int .i64 (-1000000))), (.const (.int .i64 1000000))], none, []⟩,
     ⟨some 5, .un .not (.tmp 4), none, []⟩,
     ⟨some 2, .mv (.tmp 5), none, []⟩] [3, 4, 5])
  .ret))
set_option maxRecDepth 100000 in
theorem kspans_CheckTable_S1 : IsCode Try.prog 135 6 cspans_CheckTable_S1 [.tmp 2] :=
  ⟨Try.f135, _, [0, 2], Try.func135, rfl, by decide, rfl, by kernel_rfl, by kernel_rfl⟩
/-- spans_CheckTable_S2 -/
def cspans_CheckTable_S2 : ACode :=
  (.seq
   (.region false [⟨some 4, .mv (.const (.bool false)), none, []⟩] [])
  (.seq
   (.region false [⟨some 5, .mv (.tmp 0), none, []⟩,
     ⟨some 6, .len_ (.tmp 5), none, []⟩,
     ⟨some 7, .fad 1 (.tmp 1), none, []⟩,
     ⟨some 8, .load1 (.tmp 7), none, []⟩,
     ⟨some 9, .len_ (.tmp 8), none, []⟩,
     ⟨some 10, .bin .neq (.tmp 6) (.tmp 9), none, []⟩,
     ⟨some 11, .mv (.tmp 10), none, []⟩,
     ⟨some 12, .mv (.tmp 0), (some (some 11, false)), []⟩,
     ⟨some 13, .load1 (.tmp 2), (some (some 11, false)), []⟩,
     ⟨some 14, .call (.func 94) [(.tmp 12), (.tmp 13)], (some (some 11, false)), []⟩,
     ⟨some 15, .pick (.tmp 11) (.const (.bool true)) (.tmp 14), none, []⟩,
     ⟨some 4, .mv (.tmp 15), none, []⟩] [5, 6, 7, 8, 9, 10, 11, 12, 13, 14, 15])
  .ret))
set_option maxRecDepth 100000 in
theorem kspans_CheckTable_S2 : IsCode Try.prog 136 16 cspans_CheckTable_S2 [.tmp 4] :=
  ⟨Try.f136, _, [0, 1, 2, 4], Try.func136, rfl, by decide, rfl, by kernel_rfl, by kernel_rfl⟩
end Go.Proofs.Ytgibbaadjbohdaa
