/- Texts of the law SlingHoists, part 5. No conditions. -/
import Derived.Test.YthohcimmoobaoaaPSlingHoists04
import Derived.Test.YthohcimmoobaoaaRows
/- The functions' bodies, translated. Written by a program; no conditions. -/
namespace Go.Proofs.Ythohcimmoobaoaa
open Go.RowKit Lift

/-- sling_CheckHoist -/
def csling_CheckHoist : ACode :=
  (.seq
   (.region false [⟨some 1, .box (.tmp 0), none, []⟩,
     ⟨some 2, .mv (.const (.int .i64 0)), none, []⟩] [])
  (.seq
   (.region false [⟨some 4, .fad 1 (.tmp 1), none, []⟩,
     ⟨some 5, .fad 0 (.tmp 4), none, []⟩,
     ⟨some 6, .load1 (.tmp 5), none, []⟩,
     ⟨some 3, .mv (.tmp 6), none, []⟩] [4, 5, 6])
  (.seq
   (.seq
    (.region true [⟨some 7, .fad 0 (.tmp 1), none, []⟩,
      ⟨some 8, .load1 (.tmp 7), none, [0]⟩,
      ⟨some 9, .call (.func 53) [(.tmp 8), (.const (.int .i64 1)), (.const (.int .i64 100))], none, [1, 0]⟩,
      ⟨some 10, .un .not (.tmp 9), none, [2, 1, 0]⟩,
      ⟨some 11, .mv (.tmp 10), none, [3, 2, 1, 0]⟩,
      ⟨some 12, .fad 1 (.tmp 1), (some (some 11, false)), [4, 3, 2, 1, 0]⟩,
      ⟨some 13, .loadN 3 (.tmp 12), (some (some 11, false)), [5, 4, 3, 2, 1, 0]⟩,
      ⟨some 14, .call (.func 63) [(.tmp 13)], (some (some 11, false)), [6, 5, 4, 3, 2, 1, 0]⟩,
      ⟨some 15, .bin .neq (.tmp 14) (.const (.int .i64 0)), (some (some 11, false)), [7, 6, 5, 4, 3, 2, 1, 0]⟩,
      ⟨some 16, .pick (.tmp 11) (.const (.bool true)) (.tmp 15), none, [4, 3, 2, 1, 0, 8, 7, 6, 5]⟩,
      ⟨some 17, .mv (.tmp 16), none, [9, 4, 3, 2, 1, 0, 8, 7, 6, 5]⟩,
      ⟨some 18, .mv (.tmp 3), (some (some 17, false)), [10, 9, 4, 3, 2, 1, 0, 8, 7, 6, 5]⟩,
      ⟨some 19, .iadS 1 (.tmp 18) (.const (.int .i64 0)), (some (some 17, false)), [11, 10, 9, 4, 3, 2, 1, 0, 8, 7, 6, 5]⟩,
      ⟨some 20, .load1 (.tmp 19), (some (some 17, false)), [12, 11, 10, 9, 4, 3, 2, 1, 0, 8, 7, 6, 5]⟩,
      ⟨some 21, .bin .gtr (.tmp 20) (.const (.int .i64 0)), (some (some 17, false)), [13, 12, 11, 10, 9, 4, 3, 2, 1, 0, 8, 7, 6, 5]⟩,
      ⟨some 22, .pick (.tmp 17) (.const (.bool true)) (.tmp 21), none, [10, 9, 4, 3, 2, 1, 0, 8, 7, 6, 5, 14, 13, 12, 11]⟩,
      ⟨some 23, .mv (.tmp 22), none, [15, 10, 9, 4, 3, 2, 1, 0, 8, 7, 6, 5, 14, 13, 12, 11]⟩,
      ⟨some 24, .mv (.tmp 3), (some (some 23, false)), [16, 15, 10, 9, 4, 3, 2, 1, 0, 8, 7, 6, 5, 14, 13, 12, 11]⟩,
      ⟨some 25, .mv (.tmp 3), (some (some 23, false)), [16, 15, 10, 9, 4, 3, 2, 1, 0, 8, 7, 6, 5, 14, 13, 12, 11]⟩,
      ⟨some 26, .len_ (.tmp 25), (some (some 23, false)), [18, 16, 15, 10, 9, 4, 3, 2, 1, 0, 8, 7, 6, 5, 14, 13, 12, 11]⟩,
      ⟨some 27, .bin .sub (.tmp 26) (.const (.int .i64 1)), (some (some 23, false)), [19, 18, 16, 15, 10, 9, 4, 3, 2, 1, 0, 8, 7, 6, 5, 14, 13, 12, 11]⟩,
      ⟨some 28, .iadS 1 (.tmp 24) (.tmp 27), (some (some 23, false)), [17, 16, 15, 10, 9, 4, 3, 2, 1, 0, 8, 7, 6, 5, 14, 13, 12, 11, 20, 19, 18]⟩,
      ⟨some 29, .load1 (.tmp 28), (some (some 23, false)), [21, 17, 16, 15, 10, 9, 4, 3, 2, 1, 0, 8, 7, 6, 5, 14, 13, 12, 11, 20, 19, 18]⟩,
      ⟨some 30, .fad 0 (.tmp 1), (some (some 23, false)), [16, 15, 10, 9, 4, 3, 2, 1, 0, 8, 7, 6, 5, 14, 13, 12, 11]⟩,
      ⟨some 31, .load1 (.tmp 30), (some (some 23, false)), [23, 16, 15, 10, 9, 4, 3, 2, 1, 0, 8, 7, 6, 5, 14, 13, 12, 11]⟩,
      ⟨some 32, .bin .lss (.tmp 29) (.tmp 31), (some (some 23, false)), [22, 21, 17, 16, 15, 10, 9, 4, 3, 2, 1, 0, 8, 7, 6, 5, 14, 13, 12, 11, 20, 19, 18, 24, 23]⟩,
      ⟨some 33, .pick (.tmp 23) (.const (.bool true)) (.tmp 32), none, [16, 15, 10, 9, 4, 3, 2, 1, 0, 8, 7, 6, 5, 14, 13, 12, 11, 25, 22, 21, 17, 20, 19, 18, 24, 23]⟩,
      ⟨some 34, .mv (.tmp 33), none, [26, 16, 15, 10, 9, 4, 3, 2, 1, 0, 8, 7, 6, 5, 14, 13, 12, 11, 25, 22, 21, 17, 20, 19, 18, 24, 23]⟩,
      ⟨some 35, .fad 4 (.tmp 1), (some (some 34, false)), [27, 26, 16, 15, 10, 9, 4, 3, 2, 1, 0, 8, 7, 6, 5, 14, 13, 12, 11, 25, 22, 21, 17, 20, 19, 18, 24, 23]⟩,
      ⟨some 36, .load1 (.tmp 35), (some (some 34, false)), [28, 27, 26, 16, 15, 10, 9, 4, 3, 2, 1, 0, 8, 7, 6, 5, 14, 13, 12, 11, 25, 22, 21, 17, 20, 19, 18, 24, 23]⟩,
      ⟨some 37, .call (.func 53) [(.tmp 36), (.const (.int .i64 0)), (.const (.int .i64 100))], (some (some 34, false)), [29, 28, 27, 26, 16, 15, 10, 9, 4, 3, 2, 1, 0, 8, 7, 6, 5, 14, 13, 12, 11, 25, 22, 21, 17, 20, 19, 18, 24, 23]⟩,
      ⟨some 38, .un .not (.tmp 37), (some (some 34, false)), [30, 29, 28, 27, 26, 16, 15, 10, 9, 4, 3, 2, 1, 0, 8, 7, 6, 5, 14, 13, 12, 11, 25, 22, 21, 17, 20, 19, 18, 24, 23]⟩,
      ⟨some 39, .pick (.tmp 34) (.const (.bool true)) (.tmp 38), none, [27, 26, 16, 15, 10, 9, 4, 3, 2, 1, 0, 8, 7, 6, 5, 14, 13, 12, 11, 25, 22, 21, 17, 20, 19, 18, 24, 23, 31, 30, 29, 28]⟩] [7, 8, 9, 10, 11, 12, 13, 14, 15, 16, 17, 18, 19, 20, 21, 22, 23, 24, 25, 26, 27, 28, 29, 30, 31, 32, 33, 34, 35, 36, 37, 38])
   (.cond (.tmp 39)
     (.seq
      (.region false [⟨some 2, .mv (.const (.int .i64 71)), none, []⟩] [])
     .ret)
     .skip))
  (.seq
   (.region false [⟨some 2, .mv (.const (.int .i64 0)), none, []⟩] [])
  .ret))))
set_option maxRecDepth 100000 in
theorem ksling_CheckHoist : IsCode Try.prog 30 40 csling_CheckHoist [.tmp 2] :=
  ⟨Try.f30, _, [39, 0, 1, 3, 2], Try.func30, rfl, by decide, rfl, by kernel_rfl, by kernel_rfl⟩
/-- sling_newWinch -/
def csling_newWinch : ACode :=
  (.seq
   (.region false [⟨some 2, .box (.tmp 0), none, []⟩,
     ⟨some 3, .box (.tmp 1), none, []⟩,
     ⟨some 4, .mv (.const (.pointer none)), none, []⟩,
     ⟨some 5, .mv (.const (.bool false)), none, []⟩,
     ⟨some 6, .mv (.const (.int .i64 0)), none, []⟩] [])
  (.seq
   (.seq
    (.region false [⟨some 10, .loadN 5 (.tmp 2), none, []⟩,
      ⟨some 11, .call (.func 30) [(.tmp 10)], none, []⟩,
      ⟨some 7, .mv (.tmp 11), none, []⟩] [10, 11])
   (.seq
    (.region false [⟨some 12, .mv (.tmp 7), none, []⟩,
      ⟨some 13, .bin .neq (.tmp 12) (.const (.int .i64 0)), none, []⟩] [12])
   (.cond (.tmp 13)
     (.seq
      (.region false [⟨some 14, .mv (.tmp 7), none, []⟩,
        ⟨some 4, .mv (.const (.pointer none)), none, []⟩,
        ⟨some 5, .mv (.const (.bool false)), none, []⟩,
        ⟨some 6, .mv (.tmp 14), none, []⟩] [14])
     .ret)
     .skip)))
  (.seq
   (.seq
    (.region false [⟨some 15, .loadN 2 (.tmp 3), none, []⟩,
      ⟨some 16, .buildSl 2 1 [(.val (.int .i64 0)), (.val (.int .i64 0))] [(0, 2, (.tmp 15))], none, []⟩,
      ⟨some 17, .call (.func 72) [(.tmp 16)], none, []⟩,
      ⟨some 8, .mv (.tmp 17), none, []⟩] [15, 16, 17])
   (.seq
    (.region false [⟨some 18, .mv (.tmp 8), none, []⟩,
      ⟨some 19, .bin .neq (.tmp 18) (.const (.int .i64 0)), none, []⟩] [18])
   (.cond (.tmp 19)
     (.seq
      (.region false [⟨some 20, .mv (.tmp 8), none, []⟩,
        ⟨some 4, .mv (.const (.pointer none)), none, []⟩,
        ⟨some 5, .mv (.const (.bool false)), none, []⟩,
        ⟨some 6, .mv (.tmp 20), none, []⟩] [20])
     .ret)
     .skip)))
  (.seq
   (.region false [⟨some 21, .fad 1 (.tmp 2), none, []⟩,
     ⟨some 22, .fad 1 (.tmp 21), none, []⟩,
     ⟨some 23, .load1 (.tmp 22), none, []⟩,
     ⟨some 9, .mv (.tmp 23), none, []⟩] [21, 22, 23])
  (.seq
   (.region true [⟨some 24, .loadN 5 (.tmp 2), none, []⟩,
     ⟨some 25, .loadN 2 (.tmp 3), none, []⟩,
     ⟨some 26, .build [(.val (.int .i64 0)), (.val (.slice none 0 0)), (.val (.slice none 0 0)), (.val (.slice none 0 0)), (.val (.int .i64 0)), (.val (.int .i64 0)), (.val (.int .i64 0)), (.val (.int .i64 0)), (.val (.int .i64 0)), (.val (.int .i64 0)), (.val (.int .i64 0)), (.val (.bool false)), (.val (.bool false))] [(0, 5, (.tmp 24)), (5, 2, (.tmp 25))], none, [0, 1]⟩,
     ⟨some 27, .box (.tmp 26), none, [2, 0, 1]⟩,
     ⟨some 28, .fad 0 (.tmp 3), none, []⟩,
     ⟨some 29, .load1 (.tmp 28), none, [4]⟩,
     ⟨some 30, .mv (.tmp 9), none, []⟩,
     ⟨some 31, .iadS 1 (.tmp 30) (.const (.int .i64 0)), none, [6]⟩,
     ⟨some 32, .load1 (.tmp 31), none, [7, 6]⟩,
     ⟨some 33, .bin .geq (.tmp 29) (.tmp 32), none, [5, 4, 8, 7, 6]⟩,
     ⟨some 34, .mv (.tmp 33), none, [9, 5, 4, 8, 7, 6]⟩,
     ⟨some 35, .fad 1 (.tmp 3), (some (some 34, true)), [10, 9, 5, 4, 8, 7, 6]⟩,
     ⟨some 36, .load1 (.tmp 35), (some (some 34, true)), [11, 10, 9, 5, 4, 8, 7, 6]⟩,
     ⟨some 37, .mv (.tmp 9), (some (some 34, true)), [10, 9, 5, 4, 8, 7, 6]⟩,
     ⟨some 38, .mv (.tmp 9), (some (some 34, true)), [10, 9, 5, 4, 8, 7, 6]⟩,
     ⟨some 39, .len_ (.tmp 38), (some (some 34, true)), [14, 10, 9, 5, 4, 8, 7, 6]⟩,
     ⟨some 40, .bin .sub (.tmp 39) (.const (.int .i64 1)), (some (some 34, true)), [15, 14, 10, 9, 5, 4, 8, 7, 6]⟩,
     ⟨some 41, .iadS 1 (.tmp 37) (.tmp 40), (some (some 34, true)), [13, 10, 9, 5, 4, 8, 7, 6, 16, 15, 14]⟩,
     ⟨some 42, .load1 (.tmp 41), (some (some 34, true)), [17, 13, 10, 9, 5, 4, 8, 7, 6, 16, 15, 14]⟩,
     ⟨some 43, .bin .leq (.tmp 36) (.tmp 42), (some (some 34, true)), [12, 11, 10, 9, 5, 4, 8, 7, 6, 18, 17, 13, 16, 15, 14]⟩,
     ⟨some 44, .pick (.tmp 34) (.tmp 43) (.const (.bool false)), none, [10, 9, 5, 4, 8, 7, 6, 19, 12, 11, 18, 17, 13, 16, 15, 14]⟩,
     ⟨some 4, .mv (.tmp 27), none, [3, 2, 0, 1, 10, 9, 5, 4, 8, 7, 6]⟩,
     ⟨some 5, .mv (.tmp 44), none, [20, 10, 9, 5, 4, 8, 7, 6, 19, 12, 11, 18, 17, 13, 16, 15, 14, 21, 3, 2, 0, 1]⟩,
     ⟨some 6, .mv (.const (.int .i64 0)), none, [22, 20, 10, 9, 5, 4, 8, 7, 6, 19, 12, 11, 18, 17, 13, 16, 15, 14, 21, 3, 2, 0, 1]⟩] [24, 25, 26, 27, 28, 29, 30, 31, 32, 33, 34, 35, 36, 37, 38, 39, 40, 41, 42, 43, 44])
  .ret)))))
set_option maxRecDepth 100000 in
theorem ksling_newWinch : IsCode Try.prog 57 45 csling_newWinch [.tmp 4, .tmp 5, .tmp 6] :=
  ⟨Try.f57, _, [19, 13, 0, 1, 2, 7, 3, 8, 9, 4, 5, 6], Try.func57, rfl, by decide, rfl, by kernel_rfl, by kernel_rfl⟩
/-- psling_winch_carries -/
def cpsling_winch_carries : ACode :=
  (.seq
   (.region false [⟨some 4, .box (.tmp 1), none, []⟩,
     ⟨some 6, .mv (.const (.bool false)), none, []⟩] [])
  (.seq
   (.seq
    (.region false [⟨some 9, .mv (.tmp 2), none, []⟩,
      ⟨some 10, .bin .eql (.tmp 9) (.const (.int .i64 0)), none, []⟩] [9])
   (.cond (.tmp 10)
     (.seq
      (.region false [⟨some 6, .mv (.const (.bool true)), none, []⟩] [])
     .ret)
     .skip))
  (.seq
   (.region true [⟨some 12, .mv (.tmp 0), none, []⟩,
     ⟨some 13, .nilc (.tmp 12), none, [0]⟩,
     ⟨some 14, .fad 0 (.tmp 13), none, [1, 0]⟩,
     ⟨some 15, .fad 1 (.tmp 14), none, [2, 1, 0]⟩,
     ⟨some 16, .loadN 3 (.tmp 15), none, [3, 2, 1, 0]⟩,
     ⟨some 17, .loadN 2 (.tmp 4), none, []⟩,
     ⟨some 18, .mv (.tmp 0), none, []⟩,
     ⟨some 19, .nilc (.tmp 18), none, [6]⟩,
     ⟨some 20, .fad 5 (.tmp 19), none, [7, 6]⟩,
     ⟨some 21, .loadN 2 (.tmp 20), none, [8, 7, 6]⟩,
     ⟨some 22, .call (.func 35) [(.tmp 16), (.tmp 17), (.tmp 21)], none, [4, 3, 2, 1, 0, 5, 9, 8, 7, 6]⟩,
     ⟨some 11, .mv (.tmp 22), none, [10, 4, 3, 2, 1, 0, 5, 9, 8, 7, 6]⟩,
     ⟨some 23, .ext (.tmp 11) 0, none, [11, 10, 4, 3, 2, 1, 0, 5, 9, 8, 7, 6]⟩,
     ⟨some 24, .ext (.tmp 11) 1, none, [11, 10, 4, 3, 2, 1, 0, 5, 9, 8, 7, 6]⟩,
     ⟨some 7, .mem [(.val (.int .i64 0)), (.val (.int .i64 0))], none, []⟩,
     ⟨none, .store 2 (.tmp 7) (.tmp 23), none, [14, 12, 11, 10, 4, 3, 2, 1, 0, 5, 9, 8, 7, 6]⟩,
     ⟨some 8, .mv (.tmp 24), none, [13, 11, 10, 4, 3, 2, 1, 0, 5, 9, 8, 7, 6, 15, 14, 12]⟩] [12, 13, 14, 15, 16, 17, 18, 19, 20, 21, 22, 11, 23, 24])
  (.seq
   (.region false [⟨some 25, .mv (.tmp 8), none, []⟩,
     ⟨some 26, .bin .eql (.tmp 25) (.const (.int .i64 0)), none, []⟩,
     ⟨some 27, .mv (.tmp 26), none, []⟩,
     ⟨some 28, .fad 0 (.tmp 7), (some (some 27, true)), []⟩,
     ⟨some 29, .load1 (.tmp 28), (some (some 27, true)), []⟩,
     ⟨some 30, .mv (.tmp 2), (some (some 27, true)), []⟩,
     ⟨some 31, .bin .geq (.tmp 29) (.tmp 30), (some (some 27, true)), []⟩,
     ⟨some 32, .pick (.tmp 27) (.tmp 31) (.const (.bool false)), none, []⟩,
     ⟨some 6, .mv (.tmp 32), none, []⟩] [25, 26, 27, 28, 29, 30, 31, 32])
  .ret))))
set_option maxRecDepth 100000 in
theorem kpsling_winch_carries : IsCode Try.prog 58 33 cpsling_winch_carries [.tmp 6] :=
  ⟨Try.f58, _, [10, 1, 2, 0, 4, 8, 7, 6], Try.func58, rfl, by decide, rfl, by kernel_rfl, by kernel_rfl⟩
/-- psling_winch_out -/
def cpsling_winch_out : ACode :=
  (.seq
   (.region false [⟨some 4, .mv (.const (.bool false)), none, []⟩] [])
  (.seq
   (.seq
    (.region true [⟨some 5, .mv (.tmp 0), none, []⟩,
      ⟨some 6, .nilc (.tmp 5), none, [0]⟩,
      ⟨some 7, .fad 7 (.tmp 6), none, [1, 0]⟩,
      ⟨some 8, .fad 0 (.tmp 7), none, [2, 1, 0]⟩,
      ⟨some 9, .load1 (.tmp 8), none, [3, 2, 1, 0]⟩,
      ⟨some 10, .mv (.tmp 1), none, []⟩,
      ⟨some 11, .bin .add (.tmp 9) (.tmp 10), none, [4, 3, 2, 1, 0, 5]⟩,
      ⟨some 12, .mv (.tmp 0), none, []⟩,
      ⟨some 13, .nilc (.tmp 12), none, [7]⟩,
      ⟨some 14, .fad 0 (.tmp 13), none, [8, 7]⟩,
      ⟨some 15, .fad 0 (.tmp 14), none, [9, 8, 7]⟩,
      ⟨some 16, .load1 (.tmp 15), none, [10, 9, 8, 7]⟩,
      ⟨some 17, .call (.func 53) [(.tmp 11), (.const (.int .i64 0)), (.tmp 16)], none, [6, 4, 3, 2, 1, 0, 5, 11, 10, 9, 8, 7]⟩,
      ⟨some 18, .un .not (.tmp 17), none, [12, 6, 4, 3, 2, 1, 0, 5, 11, 10, 9, 8, 7]⟩,
      ⟨some 19, .mv (.tmp 18), none, [13, 12, 6, 4, 3, 2, 1, 0, 5, 11, 10, 9, 8, 7]⟩,
      ⟨some 20, .mv (.tmp 0), (some (some 19, false)), [14, 13, 12, 6, 4, 3, 2, 1, 0, 5, 11, 10, 9, 8, 7]⟩,
      ⟨some 21, .mv (.tmp 0), (some (some 19, false)), [14, 13, 12, 6, 4, 3, 2, 1, 0, 5, 11, 10, 9, 8, 7]⟩,
      ⟨some 22, .nilc (.tmp 21), (some (some 19, false)), [16, 14, 13, 12, 6, 4, 3, 2, 1, 0, 5, 11, 10, 9, 8, 7]⟩,
      ⟨some 23, .fad 7 (.tmp 22), (some (some 19, false)), [17, 16, 14, 13, 12, 6, 4, 3, 2, 1, 0, 5, 11, 10, 9, 8, 7]⟩,
      ⟨some 24, .fad 0 (.tmp 23), (some (some 19, false)), [18, 17, 16, 14, 13, 12, 6, 4, 3, 2, 1, 0, 5, 11, 10, 9, 8, 7]⟩,
      ⟨some 25, .load1 (.tmp 24), (some (some 19, false)), [19, 18, 17, 16, 14, 13, 12, 6, 4, 3, 2, 1, 0, 5, 11, 10, 9, 8, 7]⟩,
      ⟨some 26, .mv (.tmp 1), (some (some 19, false)), [14, 13, 12, 6, 4, 3, 2, 1, 0, 5, 11, 10, 9, 8, 7]⟩,
      ⟨some 27, .bin .add (.tmp 25) (.tmp 26), (some (some 19, false)), [20, 19, 18, 17, 16, 14, 13, 12, 6, 4, 3, 2, 1, 0, 5, 11, 10, 9, 8, 7, 21]⟩,
      ⟨some 28, .call (.func 59) [(.tmp 27)], (some (some 19, false)), [22, 20, 19, 18, 17, 16, 14, 13, 12, 6, 4, 3, 2, 1, 0, 5, 11, 10, 9, 8, 7, 21]⟩,
      ⟨some 29, .mv (.tmp 0), (some (some 19, false)), [14, 13, 12, 6, 4, 3, 2, 1, 0, 5, 11, 10, 9, 8, 7]⟩,
      ⟨some 30, .nilc (.tmp 29), (some (some 19, false)), [24, 14, 13, 12, 6, 4, 3, 2, 1, 0, 5, 11, 10, 9, 8, 7]⟩,
      ⟨some 31, .fad 7 (.tmp 30), (some (some 19, false)), [25, 24, 14, 13, 12, 6, 4, 3, 2, 1, 0, 5, 11, 10, 9, 8, 7]⟩,
      ⟨some 32, .fad 1 (.tmp 31), (some (some 19, false)), [26, 25, 24, 14, 13, 12, 6, 4, 3, 2, 1, 0, 5, 11, 10, 9, 8, 7]⟩,
      ⟨some 33, .load1 (.tmp 32), (some (some 19, false)), [27, 26, 25, 24, 14, 13, 12, 6, 4, 3, 2, 1, 0, 5, 11, 10, 9, 8, 7]⟩,
      ⟨some 34, .call (.func 58) [(.tmp 20), (.tmp 28), (.tmp 33)], (some (some 19, false)), [15, 14, 13, 12, 6, 4, 3, 2, 1, 0, 5, 11, 10, 9, 8, 7, 23, 22, 20, 19, 18, 17, 16, 21, 28, 27, 26, 25, 24]⟩,
      ⟨some 35, .un .not (.tmp 34), (some (some 19, false)), [29, 15, 14, 13, 12, 6, 4, 3, 2, 1, 0, 5, 11, 10, 9, 8, 7, 23, 22, 20, 19, 18, 17, 16, 21, 28, 27, 26, 25, 24]⟩,
      ⟨some 36, .pick (.tmp 19) (.const (.bool true)) (.tmp 35), none, [14, 13, 12, 6, 4, 3, 2, 1, 0, 5, 11, 10, 9, 8, 7, 30, 29, 15, 23, 22, 20, 19, 18, 17, 16, 21, 28, 27, 26, 25, 24]⟩] [5, 6, 7, 8, 9, 10, 11, 12, 13, 14, 15, 16, 17, 18, 19, 20, 21, 22, 23, 24, 25, 26, 27, 28, 29, 30, 31, 32, 33, 34, 35])
   (.cond (.tmp 36)
     (.seq
      (.region false [⟨some 4, .mv (.const (.bool false)), none, []⟩] [])
     .ret)
     .skip))
  (.seq
   (.region false [⟨some 37, .mv (.tmp 0), none, []⟩,
     ⟨some 38, .nilc (.tmp 37), none, []⟩,
     ⟨some 39, .fad 7 (.tmp 38), none, []⟩,
     ⟨some 40, .fad 0 (.tmp 39), none, []⟩,
     ⟨some 41, .load1 (.tmp 40), none, []⟩,
     ⟨some 42, .mv (.tmp 1), none, []⟩,
     ⟨some 43, .bin .add (.tmp 41) (.tmp 42), none, []⟩,
     ⟨some 44, .nilc (.tmp 37), none, []⟩,
     ⟨some 45, .fad 7 (.tmp 44), none, []⟩,
     ⟨some 46, .fad 0 (.tmp 45), none, []⟩,
     ⟨none, .store 1 (.tmp 46) (.tmp 43), none, []⟩] [37, 38, 39, 40, 41, 42, 43, 44, 45, 46])
  (.seq
   (.region false [⟨some 4, .mv (.const (.bool true)), none, []⟩] [])
  .ret))))
set_option maxRecDepth 100000 in
theorem kpsling_winch_out : IsCode Try.prog 103 47 cpsling_winch_out [.tmp 4] :=
  ⟨Try.f103, _, [36, 0, 1, 4], Try.func103, rfl, by decide, rfl, by kernel_rfl, by kernel_rfl⟩
/-- psling_winch_do -/
def cpsling_winch_do : ACode :=
  (.seq
   (.region false [⟨some 3, .box (.tmp 1), none, []⟩,
     ⟨some 4, .mv (.const (.bool false)), none, []⟩] [])
  (.seq
   (.region false [⟨some 5, .mv (.tmp 0), none, []⟩,
     ⟨some 6, .nilc (.tmp 5), none, []⟩,
     ⟨some 7, .fad 7 (.tmp 6), none, []⟩,
     ⟨some 8, .fad 2 (.tmp 7), none, []⟩,
     ⟨some 9, .load1 (.tmp 8), none, []⟩,
     ⟨some 10, .bin .add (.tmp 9) (.const (.int .i64 1)), none, []⟩,
     ⟨some 11, .nilc (.tmp 5), none, []⟩,
     ⟨some 12, .fad 7 (.tmp 11), none, []⟩,
     ⟨some 13, .fad 2 (.tmp 12), none, []⟩,
     ⟨none, .store 1 (.tmp 13) (.tmp 10), none, []⟩] [5, 6, 7, 8, 9, 10, 11, 12, 13])
  (.seq
   (.block 0
     (.seq
      (.region false [⟨some 15, .mv (.tmp 0), none, []⟩,
        ⟨some 16, .nilc (.tmp 15), none, []⟩,
        ⟨some 17, .fad 7 (.tmp 16), none, []⟩,
        ⟨some 18, .fad 4 (.tmp 17), none, []⟩,
        ⟨some 19, .load1 (.tmp 18), none, []⟩,
        ⟨some 14, .mv (.tmp 19), none, []⟩] [15, 16, 17, 18, 19])
     (.cond (.tmp 14)
       (.seq
        (.region false [⟨some 4, .mv (.const (.bool false)), none, []⟩] [])
       .ret)
       (.seq
        (.region false [⟨some 21, .fad 0 (.tmp 3), none, []⟩,
          ⟨some 22, .load1 (.tmp 21), none, []⟩,
          ⟨some 23, .bin .eql (.tmp 22) (.const (.int .i64 1)), none, []⟩,
          ⟨some 20, .mv (.tmp 23), none, []⟩] [21, 22, 23])
       (.cond (.tmp 20)
         (.seq
          (.region true [⟨some 24, .fad 1 (.tmp 3), none, []⟩,
            ⟨some 25, .load1 (.tmp 24), none, [0]⟩,
            ⟨some 26, .mv (.tmp 0), none, []⟩,
            ⟨some 27, .nilc (.tmp 26), none, [2]⟩,
            ⟨some 28, .fad 0 (.tmp 27), none, [3, 2]⟩,
            ⟨some 29, .fad 0 (.tmp 28), none, [4, 3, 2]⟩,
            ⟨some 30, .load1 (.tmp 29), none, [5, 4, 3, 2]⟩,
            ⟨some 31, .call (.func 53) [(.tmp 25), (.const (.int .i64 1)), (.tmp 30)], none, [1, 0, 6, 5, 4, 3, 2]⟩,
            ⟨some 32, .mv (.tmp 31), none, [7, 1, 0, 6, 5, 4, 3, 2]⟩,
            ⟨some 33, .mv (.tmp 0), (some (some 32, true)), [8, 7, 1, 0, 6, 5, 4, 3, 2]⟩,
            ⟨some 34, .fad 1 (.tmp 3), (some (some 32, true)), [8, 7, 1, 0, 6, 5, 4, 3, 2]⟩,
            ⟨some 35, .load1 (.tmp 34), (some (some 32, true)), [10, 8, 7, 1, 0, 6, 5, 4, 3, 2]⟩,
            ⟨some 36, .call (.func 103) [(.tmp 33), (.tmp 35)], (some (some 32, true)), [9, 8, 7, 1, 0, 6, 5, 4, 3, 2, 11, 10]⟩,
            ⟨some 37, .pick (.tmp 32) (.tmp 36) (.const (.bool false)), none, [8, 7, 1, 0, 6, 5, 4, 3, 2, 12, 9, 11, 10]⟩,
            ⟨some 4, .mv (.tmp 37), none, [13, 8, 7, 1, 0, 6, 5, 4, 3, 2, 12, 9, 11, 10]⟩] [24, 25, 26, 27, 28, 29, 30, 31, 32, 33, 34, 35, 36, 37])
         .ret)
         (.seq
          (.region false [⟨some 39, .fad 0 (.tmp 3), none, []⟩,
            ⟨some 40, .load1 (.tmp 39), none, []⟩,
            ⟨some 41, .bin .eql (.tmp 40) (.const (.int .i64 2)), none, []⟩,
            ⟨some 38, .mv (.tmp 41), none, []⟩] [39, 40, 41])
         (.cond (.tmp 38)
           (.seq
            (.region true [⟨some 42, .fad 1 (.tmp 3), none, []⟩,
              ⟨some 43, .load1 (.tmp 42), none, [0]⟩,
              ⟨some 44, .mv (.tmp 0), none, []⟩,
              ⟨some 45, .nilc (.tmp 44), none, [2]⟩,
              ⟨some 46, .fad 0 (.tmp 45), none, [3, 2]⟩,
              ⟨some 47, .fad 0 (.tmp 46), none, [4, 3, 2]⟩,
              ⟨some 48, .load1 (.tmp 47), none, [5, 4, 3, 2]⟩,
              ⟨some 49, .call (.func 53) [(.tmp 43), (.const (.int .i64 1)), (.tmp 48)], none, [1, 0, 6, 5, 4, 3, 2]⟩,
              ⟨some 50, .mv (.tmp 49), none, [7, 1, 0, 6, 5, 4, 3, 2]⟩,
              ⟨some 51, .mv (.tmp 0), (some (some 50, true)), [8, 7, 1, 0, 6, 5, 4, 3, 2]⟩,
              ⟨some 52, .fad 1 (.tmp 3), (some (some 50, true)), [8, 7, 1, 0, 6, 5, 4, 3, 2]⟩,
              ⟨some 53, .load1 (.tmp 52), (some (some 50, true)), [10, 8, 7, 1, 0, 6, 5, 4, 3, 2]⟩,
              ⟨some 54, .un .neg (.tmp 53), (some (some 50, true)), [11, 10, 8, 7, 1, 0, 6, 5, 4, 3, 2]⟩,
              ⟨some 55, .call (.func 103) [(.tmp 51), (.tmp 54)], (some (some 50, true)), [9, 8, 7, 1, 0, 6, 5, 4, 3, 2, 12, 11, 10]⟩,
              ⟨some 56, .pick (.tmp 50) (.tmp 55) (.const (.bool false)), none, [8, 7, 1, 0, 6, 5, 4, 3, 2, 13, 9, 12, 11, 10]⟩,
              ⟨some 4, .mv (.tmp 56), none, [14, 8, 7, 1, 0, 6, 5, 4, 3, 2, 13, 9, 12, 11, 10]⟩] [42, 43, 44, 45, 46, 47, 48, 49, 50, 51, 52, 53, 54, 55, 56])
           .ret)
           (.seq
            (.region false [⟨some 58, .fad 0 (.tmp 3), none, []⟩,
              ⟨some 59, .load1 (.tmp 58), none, []⟩,
              ⟨some 60, .bin .eql (.tmp 59) (.const (.int .i64 4)), none, []⟩,
              ⟨some 57, .mv (.tmp 60), none, []⟩] [58, 59, 60])
           (.cond (.tmp 57)
             (.seq
              (.seq
               (.region true [⟨some 61, .mv (.tmp 0), none, []⟩,
                 ⟨some 62, .nilc (.tmp 61), none, [0]⟩,
                 ⟨some 63, .fad 7 (.tmp 62), none, [1, 0]⟩,
                 ⟨some 64, .fad 1 (.tmp 63), none, [2, 1, 0]⟩,
                 ⟨some 65, .load1 (.tmp 64), none, [3, 2, 1, 0]⟩,
                 ⟨some 66, .bin .gtr (.tmp 65) (.const (.int .i64 0)), none, [4, 3, 2, 1, 0]⟩,
                 ⟨some 67, .mv (.tmp 66), none, [5, 4, 3, 2, 1, 0]⟩,
                 ⟨some 68, .mv (.tmp 0), (some (some 67, false)), [6, 5, 4, 3, 2, 1, 0]⟩,
                 ⟨some 69, .nilc (.tmp 68), (some (some 67, false)), [7, 6, 5, 4, 3, 2, 1, 0]⟩,
                 ⟨some 70, .fad 7 (.tmp 69), (some (some 67, false)), [8, 7, 6, 5, 4, 3, 2, 1, 0]⟩,
                 ⟨some 71, .fad 0 (.tmp 70), (some (some 67, false)), [9, 8, 7, 6, 5, 4, 3, 2, 1, 0]⟩,
                 ⟨some 72, .load1 (.tmp 71), (some (some 67, false)), [10, 9, 8, 7, 6, 5, 4, 3, 2, 1, 0]⟩,
                 ⟨some 73, .bin .eql (.tmp 72) (.const (.int .i64 0)), (some (some 67, false)), [11, 10, 9, 8, 7, 6, 5, 4, 3, 2, 1, 0]⟩,
                 ⟨some 74, .pick (.tmp 67) (.const (.bool true)) (.tmp 73), none, [6, 5, 4, 3, 2, 1, 0, 12, 11, 10, 9, 8, 7]⟩,
                 ⟨some 75, .mv (.tmp 74), none, [13, 6, 5, 4, 3, 2, 1, 0, 12, 11, 10, 9, 8, 7]⟩,
                 ⟨some 76, .mv (.tmp 0), (some (some 75, false)), [14, 13, 6, 5, 4, 3, 2, 1, 0, 12, 11, 10, 9, 8, 7]⟩,
                 ⟨some 77, .nilc (.tmp 76), (some (some 75, false)), [15, 14, 13, 6, 5, 4, 3, 2, 1, 0, 12, 11, 10, 9, 8, 7]⟩,
                 ⟨some 78, .fad 12 (.tmp 77), (some (some 75, false)), [16, 15, 14, 13, 6, 5, 4, 3, 2, 1, 0, 12, 11, 10, 9, 8, 7]⟩,
                 ⟨some 79, .load1 (.tmp 78), (some (some 75, false)), [17, 16, 15, 14, 13, 6, 5, 4, 3, 2, 1, 0, 12, 11, 10, 9, 8, 7]⟩,
                 ⟨some 80, .un .not (.tmp 79), (some (some 75, false)), [18, 17, 16, 15, 14, 13, 6, 5, 4, 3, 2, 1, 0, 12, 11, 10, 9, 8, 7]⟩,
                 ⟨some 81, .pick (.tmp 75) (.const (.bool true)) (.tmp 80), none, [14, 13, 6, 5, 4, 3, 2, 1, 0, 12, 11, 10, 9, 8, 7, 19, 18, 17, 16, 15]⟩,
                 ⟨some 82, .mv (.tmp 81), none, [20, 14, 13, 6, 5, 4, 3, 2, 1, 0, 12, 11, 10, 9, 8, 7, 19, 18, 17, 16, 15]⟩,
                 ⟨some 83, .mv (.tmp 0), (some (some 82, false)), [21, 20, 14, 13, 6, 5, 4, 3, 2, 1, 0, 12, 11, 10, 9, 8, 7, 19, 18, 17, 16, 15]⟩,
                 ⟨some 84, .nilc (.tmp 83), (some (some 82, false)), [22, 21, 20, 14, 13, 6, 5, 4, 3, 2, 1, 0, 12, 11, 10, 9, 8, 7, 19, 18, 17, 16, 15]⟩,
                 ⟨some 85, .fad 7 (.tmp 84), (some (some 82, false)), [23, 22, 21, 20, 14, 13, 6, 5, 4, 3, 2, 1, 0, 12, 11, 10, 9, 8, 7, 19, 18, 17, 16, 15]⟩,
                 ⟨some 86, .fad 2 (.tmp 85), (some (some 82, false)), [24, 23, 22, 21, 20, 14, 13, 6, 5, 4, 3, 2, 1, 0, 12, 11, 10, 9, 8, 7, 19, 18, 17, 16, 15]⟩,
                 ⟨some 87, .load1 (.tmp 86), (some (some 82, false)), [25, 24, 23, 22, 21, 20, 14, 13, 6, 5, 4, 3, 2, 1, 0, 12, 11, 10, 9, 8, 7, 19, 18, 17, 16, 15]⟩,
                 ⟨some 88, .mv (.tmp 0), (some (some 82, false)), [21, 20, 14, 13, 6, 5, 4, 3, 2, 1, 0, 12, 11, 10, 9, 8, 7, 19, 18, 17, 16, 15]⟩,
                 ⟨some 89, .nilc (.tmp 88), (some (some 82, false)), [27, 21, 20, 14, 13, 6, 5, 4, 3, 2, 1, 0, 12, 11, 10, 9, 8, 7, 19, 18, 17, 16, 15]⟩,
                 ⟨some 90, .fad 0 (.tmp 89), (some (some 82, false)), [28, 27, 21, 20, 14, 13, 6, 5, 4, 3, 2, 1, 0, 12, 11, 10, 9, 8, 7, 19, 18, 17, 16, 15]⟩,
                 ⟨some 91, .fad 4 (.tmp 90), (some (some 82, false)), [29, 28, 27, 21, 20, 14, 13, 6, 5, 4, 3, 2, 1, 0, 12, 11, 10, 9, 8, 7, 19, 18, 17, 16, 15]⟩,
                 ⟨some 92, .load1 (.tmp 91), (some (some 82, false)), [30, 29, 28, 27, 21, 20, 14, 13, 6, 5, 4, 3, 2, 1, 0, 12, 11, 10, 9, 8, 7, 19, 18, 17, 16, 15]⟩,
                 ⟨some 93, .bin .gtr (.tmp 87) (.tmp 92), (some (some 82, false)), [26, 25, 24, 23, 22, 21, 20, 14, 13, 6, 5, 4, 3, 2, 1, 0, 12, 11, 10, 9, 8, 7, 19, 18, 17, 16, 15, 31, 30, 29, 28, 27]⟩,
                 ⟨some 94, .pick (.tmp 82) (.const (.bool true)) (.tmp 93), none, [21, 20, 14, 13, 6, 5, 4, 3, 2, 1, 0, 12, 11, 10, 9, 8, 7, 19, 18, 17, 16, 15, 32, 26, 25, 24, 23, 22, 31, 30, 29, 28, 27]⟩,
                 ⟨some 95, .mv (.tmp 94), none, [33, 21, 20, 14, 13, 6, 5, 4, 3, 2, 1, 0, 12, 11, 10, 9, 8, 7, 19, 18, 17, 16, 15, 32, 26, 25, 24, 23, 22, 31, 30, 29, 28, 27]⟩,
                 ⟨some 96, .fad 1 (.tmp 3), (some (some 95, false)), [34, 33, 21, 20, 14, 13, 6, 5, 4, 3, 2, 1, 0, 12, 11, 10, 9, 8, 7, 19, 18, 17, 16, 15, 32, 26, 25, 24, 23, 22, 31, 30, 29, 28, 27]⟩,
                 ⟨some 97, .load1 (.tmp 96), (some (some 95, false)), [35, 34, 33, 21, 20, 14, 13, 6, 5, 4, 3, 2, 1, 0, 12, 11, 10, 9, 8, 7, 19, 18, 17, 16, 15, 32, 26, 25, 24, 23, 22, 31, 30, 29, 28, 27]⟩,
                 ⟨some 98, .call (.func 53) [(.tmp 97), (.const (.int .i64 1)), (.const (.int .i64 100000))], (some (some 95, false)), [36, 35, 34, 33, 21, 20, 14, 13, 6, 5, 4, 3, 2, 1, 0, 12, 11, 10, 9, 8, 7, 19, 18, 17, 16, 15, 32, 26, 25, 24, 23, 22, 31, 30, 29, 28, 27]⟩,
                 ⟨some 99, .un .not (.tmp 98), (some (some 95, false)), [37, 36, 35, 34, 33, 21, 20, 14, 13, 6, 5, 4, 3, 2, 1, 0, 12, 11, 10, 9, 8, 7, 19, 18, 17, 16, 15, 32, 26, 25, 24, 23, 22, 31, 30, 29, 28, 27]⟩,
                 ⟨some 100, .pick (.tmp 95) (.const (.bool true)) (.tmp 99), none, [34, 33, 21, 20, 14, 13, 6, 5, 4, 3, 2, 1, 0, 12, 11, 10, 9, 8, 7, 19, 18, 17, 16, 15, 32, 26, 25, 24, 23, 22, 31, 30, 29, 28, 27, 38, 37, 36, 35]⟩,
                 ⟨some 101, .mv (.tmp 100), none, [39, 34, 33, 21, 20, 14, 13, 6, 5, 4, 3, 2, 1, 0, 12, 11, 10, 9, 8, 7, 19, 18, 17, 16, 15, 32, 26, 25, 24, 23, 22, 31, 30, 29, 28, 27, 38, 37, 36, 35]⟩,
                 ⟨some 102, .mv (.tmp 0), (some (some 101, false)), [40, 39, 34, 33, 21, 20, 14, 13, 6, 5, 4, 3, 2, 1, 0, 12, 11, 10, 9, 8, 7, 19, 18, 17, 16, 15, 32, 26, 25, 24, 23, 22, 31, 30, 29, 28, 27, 38, 37, 36, 35]⟩,
                 ⟨some 103, .mv (.tmp 0), (some (some 101, false)), [40, 39, 34, 33, 21, 20, 14, 13, 6, 5, 4, 3, 2, 1, 0, 12, 11, 10, 9, 8, 7, 19, 18, 17, 16, 15, 32, 26, 25, 24, 23, 22, 31, 30, 29, 28, 27, 38, 37, 36, 35]⟩,
                 ⟨some 104, .nilc (.tmp 103), (some (some 101, false)), [42, 40, 39, 34, 33, 21, 20, 14, 13, 6, 5, 4, 3, 2, 1, 0, 12, 11, 10, 9, 8, 7, 19, 18, 17, 16, 15, 32, 26, 25, 24, 23, 22, 31, 30, 29, 28, 27, 38, 37, 36, 35]⟩,
                 ⟨some 105, .fad 7 (.tmp 104), (some (some 101, false)), [43, 42, 40, 39, 34, 33, 21, 20, 14, 13, 6, 5, 4, 3, 2, 1, 0, 12, 11, 10, 9, 8, 7, 19, 18, 17, 16, 15, 32, 26, 25, 24, 23, 22, 31, 30, 29, 28, 27, 38, 37, 36, 35]⟩,
                 ⟨some 106, .fad 0 (.tmp 105), (some (some 101, false)), [44, 43, 42, 40, 39, 34, 33, 21, 20, 14, 13, 6, 5, 4, 3, 2, 1, 0, 12, 11, 10, 9, 8, 7, 19, 18, 17, 16, 15, 32, 26, 25, 24, 23, 22, 31, 30, 29, 28, 27, 38, 37, 36, 35]⟩,
                 ⟨some 107, .load1 (.tmp 106), (some (some 101, false)), [45, 44, 43, 42, 40, 39, 34, 33, 21, 20, 14, 13, 6, 5, 4, 3, 2, 1, 0, 12, 11, 10, 9, 8, 7, 19, 18, 17, 16, 15, 32, 26, 25, 24, 23, 22, 31, 30, 29, 28, 27, 38, 37, 36, 35]⟩,
                 ⟨some 108, .call (.func 59) [(.tmp 107)], (some (some 101, false)), [46, 45, 44, 43, 42, 40, 39, 34, 33, 21, 20, 14, 13, 6, 5, 4, 3, 2, 1, 0, 12, 11, 10, 9, 8, 7, 19, 18, 17, 16, 15, 32, 26, 25, 24, 23, 22, 31, 30, 29, 28, 27, 38, 37, 36, 35]⟩,
                 ⟨some 109, .fad 1 (.tmp 3), (some (some 101, false)), [40, 39, 34, 33, 21, 20, 14, 13, 6, 5, 4, 3, 2, 1, 0, 12, 11, 10, 9, 8, 7, 19, 18, 17, 16, 15, 32, 26, 25, 24, 23, 22, 31, 30, 29, 28, 27, 38, 37, 36, 35]⟩,
                 ⟨some 110, .load1 (.tmp 109), (some (some 101, false)), [48, 40, 39, 34, 33, 21, 20, 14, 13, 6, 5, 4, 3, 2, 1, 0, 12, 11, 10, 9, 8, 7, 19, 18, 17, 16, 15, 32, 26, 25, 24, 23, 22, 31, 30, 29, 28, 27, 38, 37, 36, 35]⟩,
                 ⟨some 111, .call (.func 58) [(.tmp 102), (.tmp 108), (.tmp 110)], (some (some 101, false)), [41, 40, 39, 34, 33, 21, 20, 14, 13, 6, 5, 4, 3, 2, 1, 0, 12, 11, 10, 9, 8, 7, 19, 18, 17, 16, 15, 32, 26, 25, 24, 23, 22, 31, 30, 29, 28, 27, 38, 37, 36, 35, 47, 46, 45, 44, 43, 42, 49, 48]⟩,
                 ⟨some 112, .un .not (.tmp 111), (some (some 101, false)), [50, 41, 40, 39, 34, 33, 21, 20, 14, 13, 6, 5, 4, 3, 2, 1, 0, 12, 11, 10, 9, 8, 7, 19, 18, 17, 16, 15, 32, 26, 25, 24, 23, 22, 31, 30, 29, 28, 27, 38, 37, 36, 35, 47, 46, 45, 44, 43, 42, 49, 48]⟩,
                 ⟨some 113, .pick (.tmp 101) (.const (.bool true)) (.tmp 112), none, [40, 39, 34, 33, 21, 20, 14, 13, 6, 5, 4, 3, 2, 1, 0, 12, 11, 10, 9, 8, 7, 19, 18, 17, 16, 15, 32, 26, 25, 24, 23, 22, 31, 30, 29, 28, 27, 38, 37, 36, 35, 51, 50, 41, 47, 46, 45, 44, 43, 42, 49, 48]⟩] [61, 62, 63, 64, 65, 66, 67, 68, 69, 70, 71, 72, 73, 74, 75, 76, 77, 78, 79, 80, 81, 82, 83, 84, 85, 86, 87, 88, 89, 90, 91, 92, 93, 94, 95, 96, 97, 98, 99, 100, 101, 102, 103, 104, 105, 106, 107, 108, 109, 110, 111, 112])
              (.cond (.tmp 113)
                (.seq
                 (.region false [⟨some 4, .mv (.const (.bool false)), none, []⟩] [])
                .ret)
                .skip))
             (.region false [⟨some 114, .mv (.tmp 0), none, []⟩,
               ⟨some 115, .fad 1 (.tmp 3), none, []⟩,
               ⟨some 116, .load1 (.tmp 115), none, []⟩,
               ⟨some 117, .nilc (.tmp 114), none, []⟩,
               ⟨some 118, .fad 7 (.tmp 117), none, []⟩,
               ⟨some 119, .fad 1 (.tmp 118), none, []⟩,
               ⟨none, .store 1 (.tmp 119) (.tmp 116), none, []⟩] [114, 115, 116, 117, 118, 119]))
             (.seq
              (.region false [⟨some 121, .fad 1 (.tmp 3), none, []⟩,
                ⟨some 122, .load1 (.tmp 121), none, []⟩,
                ⟨some 123, .bin .neq (.tmp 122) (.const (.int .i64 0)), none, []⟩,
                ⟨some 120, .mv (.tmp 123), none, []⟩] [121, 122, 123])
             (.cond (.tmp 120)
               (.seq
                (.region false [⟨some 4, .mv (.const (.bool false)), none, []⟩] [])
               .ret)
               (.seq
                (.region false [⟨some 125, .fad 0 (.tmp 3), none, []⟩,
                  ⟨some 126, .load1 (.tmp 125), none, []⟩,
                  ⟨some 127, .bin .eql (.tmp 126) (.const (.int .i64 3)), none, []⟩,
                  ⟨some 128, .mv (.tmp 127), none, []⟩,
                  ⟨some 129, .mv (.tmp 0), (some (some 128, true)), []⟩,
                  ⟨some 130, .nilc (.tmp 129), (some (some 128, true)), []⟩,
                  ⟨some 131, .fad 7 (.tmp 130), (some (some 128, true)), []⟩,
                  ⟨some 132, .fad 0 (.tmp 131), (some (some 128, true)), []⟩,
                  ⟨some 133, .load1 (.tmp 132), (some (some 128, true)), []⟩,
                  ⟨some 134, .bin .gtr (.tmp 133) (.const (.int .i64 0)), (some (some 128, true)), []⟩,
                  ⟨some 135, .pick (.tmp 128) (.tmp 134) (.const (.bool false)), none, []⟩,
                  ⟨some 124, .mv (.tmp 135), none, []⟩] [125, 126, 127, 128, 129, 130, 131, 132, 133, 134, 135])
               (.cond (.tmp 124)
                 (.region false [⟨some 136, .mv (.tmp 0), none, []⟩,
                   ⟨some 137, .mv (.tmp 0), none, []⟩,
                   ⟨some 138, .nilc (.tmp 136), none, []⟩,
                   ⟨some 139, .fad 7 (.tmp 138), none, []⟩,
                   ⟨some 140, .fad 2 (.tmp 139), none, []⟩,
                   ⟨none, .store 1 (.tmp 140) (.const (.int .i64 0)), none, []⟩,
                   ⟨some 141, .nilc (.tmp 137), none, []⟩,
                   ⟨some 142, .fad 12 (.tmp 141), none, []⟩,
                   ⟨none, .store 1 (.tmp 142) (.const (.bool true)), none, []⟩] [136, 137, 138, 139, 140, 141, 142])
                 (.seq
                  (.region false [⟨some 144, .fad 0 (.tmp 3), none, []⟩,
                    ⟨some 145, .load1 (.tmp 144), none, []⟩,
                    ⟨some 146, .bin .eql (.tmp 145) (.const (.int .i64 5)), none, []⟩,
                    ⟨some 147, .mv (.tmp 146), none, []⟩,
                    ⟨some 148, .mv (.tmp 0), (some (some 147, true)), []⟩,
                    ⟨some 149, .nilc (.tmp 148), (some (some 147, true)), []⟩,
                    ⟨some 150, .fad 7 (.tmp 149), (some (some 147, true)), []⟩,
                    ⟨some 151, .fad 1 (.tmp 150), (some (some 147, true)), []⟩,
                    ⟨some 152, .load1 (.tmp 151), (some (some 147, true)), []⟩,
                    ⟨some 153, .bin .gtr (.tmp 152) (.const (.int .i64 0)), (some (some 147, true)), []⟩,
                    ⟨some 154, .pick (.tmp 147) (.tmp 153) (.const (.bool false)), none, []⟩,
                    ⟨some 143, .mv (.tmp 154), none, []⟩] [144, 145, 146, 147, 148, 149, 150, 151, 152, 153, 154])
                 (.cond (.tmp 143)
                   (.seq
                    (.region false [⟨some 155, .mv (.tmp 0), none, []⟩,
                      ⟨some 156, .nilc (.tmp 155), none, []⟩,
                      ⟨some 157, .fad 7 (.tmp 156), none, []⟩,
                      ⟨some 158, .fad 1 (.tmp 157), none, []⟩,
                      ⟨none, .store 1 (.tmp 158) (.const (.int .i64 0)), none, []⟩] [155, 156, 157, 158])
                   (.region false [⟨some 159, .mv (.tmp 0), none, []⟩,
                     ⟨some 160, .nilc (.tmp 159), none, []⟩,
                     ⟨some 161, .fad 7 (.tmp 160), none, []⟩,
                     ⟨some 162, .fad 3 (.tmp 161), none, []⟩,
                     ⟨some 163, .load1 (.tmp 162), none, []⟩,
                     ⟨some 164, .bin .add (.tmp 163) (.const (.int .i64 1)), none, []⟩,
                     ⟨some 165, .nilc (.tmp 159), none, []⟩,
                     ⟨some 166, .fad 7 (.tmp 165), none, []⟩,
                     ⟨some 167, .fad 3 (.tmp 166), none, []⟩,
                     ⟨none, .store 1 (.tmp 167) (.tmp 164), none, []⟩] [159, 160, 161, 162, 163, 164, 165, 166, 167]))
                   (.seq
                    (.region false [⟨some 169, .fad 0 (.tmp 3), none, []⟩,
                      ⟨some 170, .load1 (.tmp 169), none, []⟩,
                      ⟨some 171, .bin .eql (.tmp 170) (.const (.int .i64 6)), none, []⟩,
                      ⟨some 168, .mv (.tmp 171), none, []⟩] [169, 170, 171])
                   (.cond (.tmp 168)
                     (.region false [⟨some 172, .mv (.tmp 0), none, []⟩,
                       ⟨some 173, .mv (.tmp 0), none, []⟩,
                       ⟨some 174, .mv (.tmp 0), none, []⟩,
                       ⟨some 175, .nilc (.tmp 172), none, []⟩,
                       ⟨some 176, .fad 7 (.tmp 175), none, []⟩,
                       ⟨some 177, .fad 0 (.tmp 176), none, []⟩,
                       ⟨none, .store 1 (.tmp 177) (.const (.int .i64 0)), none, []⟩,
                       ⟨some 178, .nilc (.tmp 173), none, []⟩,
                       ⟨some 179, .fad 7 (.tmp 178), none, []⟩,
                       ⟨some 180, .fad 1 (.tmp 179), none, []⟩,
                       ⟨none, .store 1 (.tmp 180) (.const (.int .i64 0)), none, []⟩,
                       ⟨some 181, .nilc (.tmp 174), none, []⟩,
                       ⟨some 182, .fad 7 (.tmp 181), none, []⟩,
                       ⟨some 183, .fad 4 (.tmp 182), none, []⟩,
                       ⟨none, .store 1 (.tmp 183) (.const (.bool true)), none, []⟩] [172, 173, 174, 175, 176, 177, 178, 179, 180, 181, 182, 183])
                     (.seq
                      (.region false [⟨some 4, .mv (.const (.bool false)), none, []⟩] [])
                     .ret))))))))))))))))))
  (.seq
   (.region false [⟨some 4, .mv (.const (.bool true)), none, []⟩] [])
  .ret))))
set_option maxRecDepth 100000 in
theorem kpsling_winch_do : IsCode Try.prog 74 184 cpsling_winch_do [.tmp 4] :=
  ⟨Try.f74, _, [168, 143, 124, 120, 113, 57, 38, 20, 14, 1, 0, 3, 4], Try.func74, rfl, by decide, rfl, by kernel_rfl, by kernel_rfl⟩
/-- sling_at -/
def csling_at : ACode :=
  (.seq
   (.region false [⟨some 2, .mem [(.val (.int .i64 0)), (.val (.int .i64 0))], none, []⟩] [])
  (.seq
   (.region false [⟨some 3, .mv (.tmp 0), none, []⟩,
     ⟨some 4, .mv (.tmp 0), none, []⟩,
     ⟨some 5, .build [(.val (.int .i64 0)), (.val (.int .i64 0))] [(0, 1, (.tmp 3)), (1, 1, (.tmp 4))], none, []⟩,
     ⟨none, .store 2 (.tmp 2) (.tmp 5), none, []⟩] [3, 4, 5])
  .ret))
set_option maxRecDepth 100000 in
theorem ksling_at : IsCode Try.prog 59 6 csling_at [.cellN 2 2] :=
  ⟨Try.f59, _, [0, 2], Try.func59, rfl, by decide, rfl, by kernel_rfl, by kernel_rfl⟩
/-- sling_Haul -/
def csling_Haul : ACode :=
  (.seq
   (.region false [⟨some 3, .box (.tmp 0), none, []⟩,
     ⟨some 4, .box (.tmp 1), none, []⟩,
     ⟨some 6, .mem [(.val (.int .i64 0)), (.val (.int .i64 0)), (.val (.int .i64 0)), (.val (.int .i64 0)), (.val (.bool false))], none, []⟩,
     ⟨some 7, .mv (.const (.int .i64 0)), none, []⟩,
     ⟨some 8, .mv (.const (.int .i64 0)), none, []⟩] [])
  (.seq
   (.region false [⟨some 14, .loadN 5 (.tmp 3), none, []⟩,
     ⟨some 15, .loadN 2 (.tmp 4), none, []⟩,
     ⟨some 16, .call (.func 57) [(.tmp 14), (.tmp 15)], none, []⟩,
     ⟨some 13, .mv (.tmp 16), none, []⟩,
     ⟨some 17, .ext (.tmp 13) 0, none, []⟩,
     ⟨some 18, .ext (.tmp 13) 1, none, []⟩,
     ⟨some 19, .ext (.tmp 13) 2, none, []⟩,
     ⟨some 9, .mv (.tmp 17), none, []⟩,
     ⟨some 10, .mv (.tmp 18), none, []⟩,
     ⟨some 8, .mv (.tmp 19), none, []⟩] [14, 15, 16, 13, 17, 18, 19])
  (.seq
   (.block 0
     (.seq
      (.region false [⟨some 21, .mv (.tmp 8), none, []⟩,
        ⟨some 22, .bin .neq (.tmp 21) (.const (.int .i64 0)), none, []⟩,
        ⟨some 20, .mv (.tmp 22), none, []⟩] [21, 22])
     (.cond (.tmp 20)
       (.seq
        (.region false [⟨some 23, .build [(.val (.int .i64 0)), (.val (.int .i64 0)), (.val (.int .i64 0)), (.val (.int .i64 0)), (.val (.bool false))] [], none, []⟩,
          ⟨some 24, .mv (.tmp 8), none, []⟩,
          ⟨none, .store 5 (.tmp 6) (.tmp 23), none, []⟩,
          ⟨some 7, .mv (.const (.int .i64 0)), none, []⟩,
          ⟨some 8, .mv (.tmp 24), none, []⟩] [23, 24])
       .ret)
       (.seq
        (.region false [⟨some 26, .mv (.tmp 2), none, []⟩,
          ⟨some 27, .len_ (.tmp 26), none, []⟩,
          ⟨some 28, .bin .gtr (.tmp 27) (.const (.int .i64 100)), none, []⟩,
          ⟨some 25, .mv (.tmp 28), none, []⟩] [26, 27, 28])
       (.cond (.tmp 25)
         (.seq
          (.region false [⟨some 29, .build [(.val (.int .i64 0)), (.val (.int .i64 0)), (.val (.int .i64 0)), (.val (.int .i64 0)), (.val (.bool false))] [], none, []⟩,
            ⟨none, .store 5 (.tmp 6) (.tmp 29), none, []⟩,
            ⟨some 7, .mv (.const (.int .i64 0)), none, []⟩,
            ⟨some 8, .mv (.const (.int .i64 2)), none, []⟩] [29])
         .ret)
         (.seq
          (.region false [⟨some 31, .mv (.tmp 10), none, []⟩,
            ⟨some 32, .un .not (.tmp 31), none, []⟩,
            ⟨some 30, .mv (.tmp 32), none, []⟩] [31, 32])
         (.cond (.tmp 30)
           (.seq
            (.region false [⟨some 33, .build [(.val (.int .i64 0)), (.val (.int .i64 0)), (.val (.int .i64 0)), (.val (.int .i64 0)), (.val (.bool false))] [], none, []⟩,
              ⟨none, .store 5 (.tmp 6) (.tmp 33), none, []⟩,
              ⟨some 7, .mv (.const (.int .i64 0)), none, []⟩,
              ⟨some 8, .mv (.const (.int .i64 1)), none, []⟩] [33])
           .ret)
           .skip)))))))
  (.seq
   (.seq
    (.region false [⟨some 34, .mv (.tmp 2), none, []⟩,
      ⟨some 35, .len_ (.tmp 34), none, []⟩,
      ⟨some 36, .mv (.const (.int .i64 0)), none, []⟩] [])
   (.block 1
     (.loop
       (.seq
        (.region false [⟨some 37, .bin .lss (.tmp 36) (.tmp 35), none, []⟩] [])
       (.seq
        (.cond (.tmp 37)
          .skip
          (.exit 1))
       (.seq
        (.block 2
          (.seq
           (.region false [⟨some 38, .mv (.tmp 36), none, []⟩,
             ⟨some 39, .iadS 2 (.tmp 34) (.tmp 36), none, []⟩,
             ⟨some 40, .loadN 2 (.tmp 39), none, []⟩,
             ⟨some 12, .mem [(.val (.int .i64 0)), (.val (.int .i64 0))], none, []⟩,
             ⟨some 11, .mv (.tmp 38), none, []⟩,
             ⟨none, .store 2 (.tmp 12) (.tmp 40), none, []⟩] [38, 39, 40])
          (.seq
           (.region false [⟨some 41, .mv (.tmp 9), none, []⟩,
             ⟨some 42, .loadN 2 (.tmp 12), none, []⟩,
             ⟨some 43, .call (.func 74) [(.tmp 41), (.tmp 42)], none, []⟩,
             ⟨some 44, .un .not (.tmp 43), none, []⟩] [41, 42, 43])
          (.cond (.tmp 44)
            (.seq
             (.region false [⟨some 45, .build [(.val (.int .i64 0)), (.val (.int .i64 0)), (.val (.int .i64 0)), (.val (.int .i64 0)), (.val (.bool false))] [], none, []⟩,
               ⟨some 46, .mv (.tmp 11), none, []⟩,
               ⟨none, .store 5 (.tmp 6) (.tmp 45), none, []⟩,
               ⟨some 7, .mv (.tmp 46), none, []⟩,
               ⟨some 8, .mv (.const (.int .i64 72)), none, []⟩] [45, 46])
            .ret)
            .skip))))
       (.region false [⟨some 47, .bin .add (.tmp 36) (.const (.int .i64 1)), none, []⟩,
         ⟨some 36, .mv (.tmp 47), none, []⟩] [47])))))))
  (.seq
   (.region false [⟨some 48, .mv (.tmp 9), none, []⟩,
     ⟨some 49, .nilc (.tmp 48), none, []⟩,
     ⟨some 50, .fad 7 (.tmp 49), none, []⟩,
     ⟨some 51, .loadN 5 (.tmp 50), none, []⟩,
     ⟨none, .store 5 (.tmp 6) (.tmp 51), none, []⟩,
     ⟨some 7, .mv (.const (.int .i64 0)), none, []⟩,
     ⟨some 8, .mv (.const (.int .i64 0)), none, []⟩] [48, 49, 50, 51])
  .ret)))))
set_option maxRecDepth 100000 in
theorem ksling_Haul : IsCode Try.prog 32 52 csling_Haul [.cellN 6 5, .tmp 7, .tmp 8] :=
  ⟨Try.f32, _, [44, 37, 30, 25, 20, 0, 1, 3, 4, 8, 6, 2, 10, 36, 35, 34, 9, 12, 11, 7], Try.func32, rfl, by decide, rfl, by kernel_rfl, by kernel_rfl⟩
/-- sling_Deepest -/
def csling_Deepest : ACode :=
  (.seq
   (.region false [⟨some 3, .box (.tmp 0), none, []⟩,
     ⟨some 4, .box (.tmp 1), none, []⟩,
     ⟨some 6, .mv (.const (.int .i64 0)), none, []⟩,
     ⟨some 7, .mv (.const (.int .i64 0)), none, []⟩] [])
  (.seq
   (.region false [⟨some 13, .loadN 5 (.tmp 3), none, []⟩,
     ⟨some 14, .loadN 2 (.tmp 4), none, []⟩,
     ⟨some 15, .call (.func 57) [(.tmp 13), (.tmp 14)], none, []⟩,
     ⟨some 12, .mv (.tmp 15), none, []⟩,
     ⟨some 16, .ext (.tmp 12) 0, none, []⟩,
     ⟨some 17, .ext (.tmp 12) 1, none, []⟩,
     ⟨some 18, .ext (.tmp 12) 2, none, []⟩,
     ⟨some 8, .mv (.tmp 16), none, []⟩,
     ⟨some 9, .mv (.tmp 17), none, []⟩,
     ⟨some 10, .mv (.tmp 18), none, []⟩] [13, 14, 15, 12, 16, 17, 18])
  (.seq
   (.block 0
     (.seq
      (.region false [⟨some 20, .mv (.tmp 10), none, []⟩,
        ⟨some 21, .bin .neq (.tmp 20) (.const (.int .i64 0)), none, []⟩,
        ⟨some 19, .mv (.tmp 21), none, []⟩] [20, 21])
     (.cond (.tmp 19)
       (.seq
        (.region false [⟨some 22, .mv (.tmp 10), none, []⟩,
          ⟨some 6, .mv (.const (.int .i64 0)), none, []⟩,
          ⟨some 7, .mv (.tmp 22), none, []⟩] [22])
       .ret)
       (.seq
        (.seq
         (.region false [⟨some 24, .mv (.tmp 9), none, []⟩,
           ⟨some 25, .un .not (.tmp 24), none, []⟩,
           ⟨some 23, .mv (.tmp 25), none, []⟩] [24, 25])
        (.cond (.tmp 23)
          .skip
          (.region false [⟨some 26, .mv (.tmp 2), none, []⟩,
            ⟨some 27, .call (.func 53) [(.tmp 26), (.const (.int .i64 1)), (.const (.int .i64 100000))], none, []⟩,
            ⟨some 28, .un .not (.tmp 27), none, []⟩,
            ⟨some 23, .mv (.tmp 28), none, []⟩] [26, 27, 28])))
       (.cond (.tmp 23)
         (.seq
          (.region false [⟨some 6, .mv (.const (.int .i64 0)), none, []⟩,
            ⟨some 7, .mv (.const (.int .i64 1)), none, []⟩] [])
         .ret)
         .skip)))))
  (.seq
   (.seq
    (.region false [⟨some 29, .fad 0 (.tmp 3), none, []⟩,
      ⟨some 30, .load1 (.tmp 29), none, []⟩,
      ⟨some 11, .mv (.tmp 30), none, []⟩] [29, 30])
   (.block 1
     (.loop
       (.seq
        (.seq
         (.region false [⟨some 31, .mv (.tmp 11), none, []⟩,
           ⟨some 32, .bin .geq (.tmp 31) (.const (.int .i64 0)), none, []⟩] [31])
        (.cond (.tmp 32)
          .skip
          (.exit 1)))
       (.seq
        (.block 2
          (.seq
           (.region false [⟨some 35, .mv (.tmp 8), none, []⟩,
             ⟨some 36, .mv (.tmp 11), none, []⟩,
             ⟨some 37, .build [(.val (.int .i64 0)), (.val (.int .i64 0))] [(1, 1, (.tmp 36))], none, []⟩,
             ⟨some 38, .mv (.tmp 2), none, []⟩,
             ⟨some 39, .call (.func 58) [(.tmp 35), (.tmp 37), (.tmp 38)], none, []⟩] [35, 36, 37, 38])
          (.cond (.tmp 39)
            (.seq
             (.region false [⟨some 40, .mv (.tmp 11), none, []⟩,
               ⟨some 6, .mv (.tmp 40), none, []⟩,
               ⟨some 7, .mv (.const (.int .i64 0)), none, []⟩] [40])
            .ret)
            .skip)))
       (.region false [⟨some 33, .mv (.tmp 11), none, []⟩,
         ⟨some 34, .bin .sub (.tmp 33) (.const (.int .i64 1)), none, []⟩,
         ⟨some 11, .mv (.tmp 34), none, []⟩] [33, 34]))))))
  (.seq
   (.region false [⟨some 6, .mv (.const (.int .i64 0)), none, []⟩,
     ⟨some 7, .mv (.const (.int .i64 3)), none, []⟩] [])
  .ret)))))
set_option maxRecDepth 100000 in
theorem ksling_Deepest : IsCode Try.prog 21 41 csling_Deepest [.tmp 6, .tmp 7] :=
  ⟨Try.f21, _, [39, 32, 23, 19, 0, 1, 3, 4, 10, 9, 2, 11, 8, 6, 7], Try.func21, rfl, by decide, rfl, by kernel_rfl, by kernel_rfl⟩
/-- ref07_CheckHoist -/
def cref07_CheckHoist : ACode :=
  (.seq
   (.region false [⟨some 1, .box (.tmp 0), none, []⟩,
     ⟨some 2, .mv (.const (.int .i64 0)), none, []⟩] [])
  (.seq
   (.seq
    (.region false [⟨some 4, .fad 0 (.tmp 1), none, []⟩,
      ⟨some 5, .load1 (.tmp 4), none, []⟩,
      ⟨some 6, .call (.func 56) [(.tmp 5), (.const (.int .i64 1)), (.const (.int .i64 100))], none, []⟩,
      ⟨some 7, .un .not (.tmp 6), none, []⟩,
      ⟨some 8, .mv (.tmp 7), none, []⟩,
      ⟨some 9, .fad 4 (.tmp 1), (some (some 8, false)), []⟩,
      ⟨some 10, .load1 (.tmp 9), (some (some 8, false)), []⟩,
      ⟨some 11, .call (.func 56) [(.tmp 10), (.const (.int .i64 0)), (.const (.int .i64 100))], (some (some 8, false)), []⟩,
      ⟨some 12, .un .not (.tmp 11), (some (some 8, false)), []⟩,
      ⟨some 13, .pick (.tmp 8) (.const (.bool true)) (.tmp 12), none, []⟩,
      ⟨some 14, .mv (.tmp 13), none, []⟩,
      ⟨some 15, .fad 1 (.tmp 1), (some (some 14, false)), []⟩,
      ⟨some 16, .loadN 3 (.tmp 15), (some (some 14, false)), []⟩,
      ⟨some 17, .call (.func 73) [(.tmp 16)], (some (some 14, false)), []⟩,
      ⟨some 18, .bin .neq (.tmp 17) (.const (.int .i64 0)), (some (some 14, false)), []⟩,
      ⟨some 19, .pick (.tmp 14) (.const (.bool true)) (.tmp 18), none, []⟩] [4, 5, 6, 7, 8, 9, 10, 11, 12, 13, 14, 15, 16, 17, 18])
   (.cond (.tmp 19)
     (.seq
      (.region false [⟨some 2, .mv (.const (.int .i64 71)), none, []⟩] [])
     .ret)
     .skip))
  (.seq
   (.region false [⟨some 20, .fad 1 (.tmp 1), none, []⟩,
     ⟨some 21, .fad 0 (.tmp 20), none, []⟩,
     ⟨some 22, .load1 (.tmp 21), none, []⟩,
     ⟨some 3, .mv (.tmp 22), none, []⟩] [20, 21, 22])
  (.seq
   (.seq
    (.region true [⟨some 23, .mv (.tmp 3), none, []⟩,
      ⟨some 24, .iadS 1 (.tmp 23) (.const (.int .i64 0)), none, [0]⟩,
      ⟨some 25, .load1 (.tmp 24), none, [1, 0]⟩,
      ⟨some 26, .bin .gtr (.tmp 25) (.const (.int .i64 0)), none, [2, 1, 0]⟩,
      ⟨some 27, .mv (.tmp 26), none, [3, 2, 1, 0]⟩,
      ⟨some 28, .mv (.tmp 3), (some (some 27, false)), [4, 3, 2, 1, 0]⟩,
      ⟨some 29, .mv (.tmp 3), (some (some 27, false)), [4, 3, 2, 1, 0]⟩,
      ⟨some 30, .len_ (.tmp 29), (some (some 27, false)), [6, 4, 3, 2, 1, 0]⟩,
      ⟨some 31, .bin .sub (.tmp 30) (.const (.int .i64 1)), (some (some 27, false)), [7, 6, 4, 3, 2, 1, 0]⟩,
      ⟨some 32, .iadS 1 (.tmp 28) (.tmp 31), (some (some 27, false)), [5, 4, 3, 2, 1, 0, 8, 7, 6]⟩,
      ⟨some 33, .load1 (.tmp 32), (some (some 27, false)), [9, 5, 4, 3, 2, 1, 0, 8, 7, 6]⟩,
      ⟨some 34, .fad 0 (.tmp 1), (some (some 27, false)), [4, 3, 2, 1, 0]⟩,
      ⟨some 35, .load1 (.tmp 34), (some (some 27, false)), [11, 4, 3, 2, 1, 0]⟩,
      ⟨some 36, .bin .lss (.tmp 33) (.tmp 35), (some (some 27, false)), [10, 9, 5, 4, 3, 2, 1, 0, 8, 7, 6, 12, 11]⟩,
      ⟨some 37, .pick (.tmp 27) (.const (.bool true)) (.tmp 36), none, [4, 3, 2, 1, 0, 13, 10, 9, 5, 8, 7, 6, 12, 11]⟩] [23, 24, 25, 26, 27, 28, 29, 30, 31, 32, 33, 34, 35, 36])
   (.cond (.tmp 37)
     (.seq
      (.region false [⟨some 2, .mv (.const (.int .i64 71)), none, []⟩] [])
     .ret)
     .skip))
  (.seq
   (.region false [⟨some 2, .mv (.const (.int .i64 0)), none, []⟩] [])
  .ret)))))
set_option maxRecDepth 100000 in
theorem kref07_CheckHoist : IsCode Try.prog 31 38 cref07_CheckHoist [.tmp 2] :=
  ⟨Try.f31, _, [37, 19, 0, 1, 3, 2], Try.func31, rfl, by decide, rfl, by kernel_rfl, by kernel_rfl⟩
/-- ref07_CheckWinds -/
def cref07_CheckWinds : ACode :=
  (.seq
   (.region false [⟨some 2, .box (.tmp 0), none, []⟩,
     ⟨some 3, .box (.tmp 1), none, []⟩,
     ⟨some 4, .mv (.const (.int .i64 0)), none, []⟩] [])
  (.seq
   (.seq
    (.region false [⟨some 6, .loadN 5 (.tmp 2), none, []⟩,
      ⟨some 7, .call (.func 31) [(.tmp 6)], none, []⟩,
      ⟨some 5, .mv (.tmp 7), none, []⟩] [6, 7])
   (.seq
    (.region false [⟨some 8, .mv (.tmp 5), none, []⟩,
      ⟨some 9, .bin .neq (.tmp 8) (.const (.int .i64 0)), none, []⟩] [8])
   (.cond (.tmp 9)
     (.seq
      (.region false [⟨some 10, .mv (.tmp 5), none, []⟩,
        ⟨some 4, .mv (.tmp 10), none, []⟩] [10])
     .ret)
     .skip)))
  (.seq
   (.seq
    (.region false [⟨some 11, .loadN 2 (.tmp 3), none, []⟩,
      ⟨some 12, .call (.func 61) [(.tmp 11)], none, []⟩,
      ⟨some 13, .un .not (.tmp 12), none, []⟩] [11, 12])
   (.cond (.tmp 13)
     (.seq
      (.region false [⟨some 4, .mv (.const (.int .i64 10)), none, []⟩] [])
     .ret)
     .skip))
  (.seq
   (.seq
    (.region false [⟨some 14, .fad 1 (.tmp 2), none, []⟩,
      ⟨some 15, .fad 1 (.tmp 14), none, []⟩,
      ⟨some 16, .load1 (.tmp 15), none, []⟩,
      ⟨some 17, .loadN 2 (.tmp 3), none, []⟩,
      ⟨some 18, .call (.func 62) [(.tmp 16), (.tmp 17)], none, []⟩,
      ⟨some 19, .un .not (.tmp 18), none, []⟩] [14, 15, 16, 17, 18])
   (.cond (.tmp 19)
     (.seq
      (.region false [⟨some 4, .mv (.const (.int .i64 1)), none, []⟩] [])
     .ret)
     .skip))
  (.seq
   (.region false [⟨some 4, .mv (.const (.int .i64 0)), none, []⟩] [])
  .ret)))))
set_option maxRecDepth 100000 in
theorem kref07_CheckWinds : IsCode Try.prog 23 20 cref07_CheckWinds [.tmp 4] :=
  ⟨Try.f23, _, [19, 13, 9, 0, 1, 2, 5, 3, 4], Try.func23, rfl, by decide, rfl, by kernel_rfl, by kernel_rfl⟩
/-- ref07_bears -/
def cref07_bears : ACode :=
  (.seq
   (.region false [⟨some 4, .box (.tmp 0), none, []⟩,
     ⟨some 5, .box (.tmp 1), none, []⟩,
     ⟨some 8, .mv (.const (.bool false)), none, []⟩] [])
  (.seq
   (.region false [⟨some 12, .fad 1 (.tmp 4), none, []⟩,
     ⟨some 13, .loadN 3 (.tmp 12), none, []⟩,
     ⟨some 14, .mv (.tmp 2), none, []⟩,
     ⟨some 15, .mv (.tmp 2), none, []⟩,
     ⟨some 16, .build [(.val (.int .i64 0)), (.val (.int .i64 0))] [(0, 1, (.tmp 14)), (1, 1, (.tmp 15))], none, []⟩,
     ⟨some 17, .loadN 2 (.tmp 5), none, []⟩,
     ⟨some 18, .call (.func 93) [(.tmp 13), (.tmp 16), (.tmp 17)], none, []⟩,
     ⟨some 11, .mv (.tmp 18), none, []⟩,
     ⟨some 19, .ext (.tmp 11) 0, none, []⟩,
     ⟨some 20, .ext (.tmp 11) 1, none, []⟩,
     ⟨some 9, .mem [(.val (.int .i64 0)), (.val (.int .i64 0))], none, []⟩,
     ⟨none, .store 2 (.tmp 9) (.tmp 19), none, []⟩,
     ⟨some 10, .mv (.tmp 20), none, []⟩] [12, 13, 14, 15, 16, 17, 18, 11, 19, 20, 10])
  (.seq
   (.region false [⟨some 21, .fad 0 (.tmp 9), none, []⟩,
     ⟨some 22, .load1 (.tmp 21), none, []⟩,
     ⟨some 23, .mv (.tmp 3), none, []⟩,
     ⟨some 24, .bin .geq (.tmp 22) (.tmp 23), none, []⟩,
     ⟨some 8, .mv (.tmp 24), none, []⟩] [21, 22, 23, 24])
  .ret)))
set_option maxRecDepth 100000 in
theorem kref07_bears : IsCode Try.prog 60 25 cref07_bears [.tmp 8] :=
  ⟨Try.f60, _, [0, 1, 4, 2, 5, 9, 3, 8], Try.func60, rfl, by decide, rfl, by kernel_rfl, by kernel_rfl⟩
/-- ref07_Step -/
def cref07_Step : ACode :=
  (.seq
   (.region false [⟨some 5, .box (.tmp 0), none, []⟩,
     ⟨some 6, .box (.tmp 1), none, []⟩,
     ⟨some 7, .box (.tmp 2), none, []⟩,
     ⟨some 9, .box (.tmp 4), none, []⟩,
     ⟨some 10, .mem [(.val (.int .i64 0)), (.val (.int .i64 0)), (.val (.int .i64 0)), (.val (.int .i64 0)), (.val (.bool false))], none, []⟩,
     ⟨some 11, .mv (.const (.bool false)), none, []⟩,
     ⟨some 12, .mv (.const (.bool false)), none, []⟩] [])
  (.seq
   (.seq
    (.region false [⟨some 14, .fad 4 (.tmp 7), none, []⟩,
      ⟨some 15, .load1 (.tmp 14), none, []⟩] [14])
   (.cond (.tmp 15)
     (.seq
      (.region false [⟨some 16, .loadN 5 (.tmp 7), none, []⟩,
        ⟨some 17, .mv (.tmp 3), none, []⟩,
        ⟨none, .store 5 (.tmp 10) (.tmp 16), none, []⟩,
        ⟨some 11, .mv (.tmp 17), none, []⟩,
        ⟨some 12, .mv (.const (.bool false)), none, []⟩] [16, 17])
     .ret)
     .skip))
  (.seq
   (.region false [⟨some 18, .loadN 5 (.tmp 7), none, []⟩,
     ⟨some 13, .mem [(.val (.int .i64 0)), (.val (.int .i64 0)), (.val (.int .i64 0)), (.val (.int .i64 0)), (.val (.bool false))], none, []⟩,
     ⟨none, .store 5 (.tmp 13) (.tmp 18), none, []⟩] [18])
  (.seq
   (.region false [⟨some 19, .fad 2 (.tmp 13), none, []⟩,
     ⟨some 20, .load1 (.tmp 19), none, []⟩,
     ⟨some 21, .bin .add (.tmp 20) (.const (.int .i64 1)), none, []⟩,
     ⟨some 22, .fad 2 (.tmp 13), none, []⟩,
     ⟨none, .store 1 (.tmp 22) (.tmp 21), none, []⟩] [19, 20, 21, 22])
  (.seq
   (.seq
    (.region false [⟨some 23, .fad 0 (.tmp 9), none, []⟩,
      ⟨some 24, .load1 (.tmp 23), none, []⟩] [23])
   (.block 0
     (.seq
      (.seq
       (.region false [⟨some 26, .bin .eql (.tmp 24) (.const (.int .i64 1)), none, []⟩,
         ⟨some 25, .mv (.tmp 26), none, []⟩] [26])
      (.cond (.tmp 25)
        .skip
        (.region false [⟨some 27, .bin .eql (.tmp 24) (.const (.int .i64 2)), none, []⟩,
          ⟨some 25, .mv (.tmp 27), none, []⟩] [27])))
     (.cond (.tmp 25)
       (.seq
        (.seq
         (.region false [⟨some 28, .fad 1 (.tmp 9), none, []⟩,
           ⟨some 29, .load1 (.tmp 28), none, []⟩,
           ⟨some 30, .bin .lss (.tmp 29) (.const (.int .i64 1)), none, []⟩,
           ⟨some 31, .mv (.tmp 30), none, []⟩,
           ⟨some 32, .fad 1 (.tmp 9), (some (some 31, false)), []⟩,
           ⟨some 33, .load1 (.tmp 32), (some (some 31, false)), []⟩,
           ⟨some 34, .bin .gtr (.tmp 33) (.const (.int .i64 100)), (some (some 31, false)), []⟩,
           ⟨some 35, .pick (.tmp 31) (.const (.bool true)) (.tmp 34), none, []⟩] [28, 29, 30, 31, 32, 33, 34])
        (.cond (.tmp 35)
          (.seq
           (.region false [⟨some 36, .loadN 5 (.tmp 7), none, []⟩,
             ⟨some 37, .mv (.tmp 3), none, []⟩,
             ⟨none, .store 5 (.tmp 10) (.tmp 36), none, []⟩,
             ⟨some 11, .mv (.tmp 37), none, []⟩,
             ⟨some 12, .mv (.const (.bool false)), none, []⟩] [36, 37])
          .ret)
          .skip))
       (.seq
        (.seq
         (.region false [⟨some 38, .fad 0 (.tmp 9), none, []⟩,
           ⟨some 39, .load1 (.tmp 38), none, []⟩,
           ⟨some 40, .bin .eql (.tmp 39) (.const (.int .i64 1)), none, []⟩] [38, 39])
        (.cond (.tmp 40)
          (.region false [⟨some 41, .fad 0 (.tmp 13), none, []⟩,
            ⟨some 42, .load1 (.tmp 41), none, []⟩,
            ⟨some 43, .fad 1 (.tmp 9), none, []⟩,
            ⟨some 44, .load1 (.tmp 43), none, []⟩,
            ⟨some 45, .bin .add (.tmp 42) (.tmp 44), none, []⟩,
            ⟨some 46, .fad 0 (.tmp 13), none, []⟩,
            ⟨none, .store 1 (.tmp 46) (.tmp 45), none, []⟩] [41, 42, 43, 44, 45, 46])
          (.region false [⟨some 47, .fad 0 (.tmp 13), none, []⟩,
            ⟨some 48, .load1 (.tmp 47), none, []⟩,
            ⟨some 49, .fad 1 (.tmp 9), none, []⟩,
            ⟨some 50, .load1 (.tmp 49), none, []⟩,
            ⟨some 51, .bin .sub (.tmp 48) (.tmp 50), none, []⟩,
            ⟨some 52, .fad 0 (.tmp 13), none, []⟩,
            ⟨none, .store 1 (.tmp 52) (.tmp 51), none, []⟩] [47, 48, 49, 50, 51, 52])))
       (.seq
        (.seq
         (.region false [⟨some 53, .fad 0 (.tmp 13), none, []⟩,
           ⟨some 54, .load1 (.tmp 53), none, []⟩,
           ⟨some 55, .fad 0 (.tmp 5), none, []⟩,
           ⟨some 56, .load1 (.tmp 55), none, []⟩,
           ⟨some 57, .call (.func 56) [(.tmp 54), (.const (.int .i64 0)), (.tmp 56)], none, []⟩,
           ⟨some 58, .un .not (.tmp 57), none, []⟩,
           ⟨some 59, .mv (.tmp 58), none, []⟩,
           ⟨some 60, .fad 1 (.tmp 13), (some (some 59, false)), []⟩,
           ⟨some 61, .load1 (.tmp 60), (some (some 59, false)), []⟩,
           ⟨some 62, .bin .gtr (.tmp 61) (.const (.int .i64 0)), (some (some 59, false)), []⟩,
           ⟨some 63, .mv (.tmp 62), (some (some 59, false)), []⟩,
           ⟨some 64, .loadN 5 (.tmp 5), (some (some 63, true)), []⟩,
           ⟨some 65, .loadN 2 (.tmp 6), (some (some 63, true)), []⟩,
           ⟨some 66, .fad 0 (.tmp 13), (some (some 63, true)), []⟩,
           ⟨some 67, .load1 (.tmp 66), (some (some 63, true)), []⟩,
           ⟨some 68, .fad 1 (.tmp 13), (some (some 63, true)), []⟩,
           ⟨some 69, .load1 (.tmp 68), (some (some 63, true)), []⟩,
           ⟨some 70, .call (.func 60) [(.tmp 64), (.tmp 65), (.tmp 67), (.tmp 69)], (some (some 63, true)), []⟩,
           ⟨some 71, .un .not (.tmp 70), (some (some 63, true)), []⟩,
           ⟨some 72, .pick (.tmp 63) (.tmp 71) (.const (.bool false)), (some (some 59, false)), []⟩,
           ⟨some 73, .pick (.tmp 59) (.const (.bool true)) (.tmp 72), none, []⟩] [53, 54, 55, 56, 57, 58, 59, 60, 61, 62, 63, 64, 65, 66, 67, 68, 69, 70, 71, 72])
        (.cond (.tmp 73)
          (.seq
           (.region false [⟨some 74, .loadN 5 (.tmp 7), none, []⟩,
             ⟨some 75, .mv (.tmp 3), none, []⟩,
             ⟨none, .store 5 (.tmp 10) (.tmp 74), none, []⟩,
             ⟨some 11, .mv (.tmp 75), none, []⟩,
             ⟨some 12, .mv (.const (.bool false)), none, []⟩] [74, 75])
          .ret)
          .skip))
       (.seq
        (.region false [⟨some 76, .loadN 5 (.tmp 13), none, []⟩,
          ⟨some 77, .mv (.tmp 3), none, []⟩,
          ⟨none, .store 5 (.tmp 10) (.tmp 76), none, []⟩,
          ⟨some 11, .mv (.tmp 77), none, []⟩,
          ⟨some 12, .mv (.const (.bool true)), none, []⟩] [76, 77])
       .ret))))
       (.seq
        (.region false [⟨some 79, .bin .eql (.tmp 24) (.const (.int .i64 3)), none, []⟩,
          ⟨some 78, .mv (.tmp 79), none, []⟩] [79])
       (.cond (.tmp 78)
         (.seq
          (.region false [⟨some 80, .fad 2 (.tmp 13), none, []⟩,
            ⟨none, .store 1 (.tmp 80) (.const (.int .i64 0)), none, []⟩] [80])
         (.seq
          (.region true [⟨some 81, .loadN 5 (.tmp 13), none, []⟩,
            ⟨some 82, .fad 1 (.tmp 9), none, []⟩,
            ⟨some 83, .load1 (.tmp 82), none, [1]⟩,
            ⟨some 84, .bin .eql (.tmp 83) (.const (.int .i64 0)), none, [2, 1]⟩,
            ⟨some 85, .mv (.tmp 84), none, [3, 2, 1]⟩,
            ⟨some 86, .fad 0 (.tmp 7), (some (some 85, true)), [4, 3, 2, 1]⟩,
            ⟨some 87, .load1 (.tmp 86), (some (some 85, true)), [5, 4, 3, 2, 1]⟩,
            ⟨some 88, .bin .gtr (.tmp 87) (.const (.int .i64 0)), (some (some 85, true)), [6, 5, 4, 3, 2, 1]⟩,
            ⟨some 89, .pick (.tmp 85) (.tmp 88) (.const (.bool false)), none, [4, 3, 2, 1, 7, 6, 5]⟩,
            ⟨none, .store 5 (.tmp 10) (.tmp 81), none, [0, 4, 3, 2, 1]⟩,
            ⟨some 11, .mv (.const (.bool true)), none, [9, 0, 4, 3, 2, 1]⟩,
            ⟨some 12, .mv (.tmp 89), none, [8, 4, 3, 2, 1, 7, 6, 5, 10, 9, 0]⟩] [81, 82, 83, 84, 85, 86, 87, 88, 89])
         .ret))
         (.seq
          (.region false [⟨some 91, .bin .eql (.tmp 24) (.const (.int .i64 4)), none, []⟩,
            ⟨some 90, .mv (.tmp 91), none, []⟩] [91])
         (.cond (.tmp 90)
           (.seq
            (.region false [⟨some 92, .fad 1 (.tmp 9), none, []⟩,
              ⟨some 93, .load1 (.tmp 92), none, []⟩,
              ⟨some 94, .fad 1 (.tmp 13), none, []⟩,
              ⟨none, .store 1 (.tmp 94) (.tmp 93), none, []⟩] [92, 93, 94])
           (.seq
            (.region true [⟨some 95, .loadN 5 (.tmp 13), none, []⟩,
              ⟨some 96, .mv (.tmp 3), none, []⟩,
              ⟨some 97, .fad 1 (.tmp 9), none, []⟩,
              ⟨some 98, .load1 (.tmp 97), none, [2]⟩,
              ⟨some 99, .call (.func 56) [(.tmp 98), (.const (.int .i64 1)), (.const (.int .i64 100000))], none, [3, 2]⟩,
              ⟨some 100, .mv (.tmp 99), none, [4, 3, 2]⟩,
              ⟨some 101, .fad 1 (.tmp 7), (some (some 100, true)), [5, 4, 3, 2]⟩,
              ⟨some 102, .load1 (.tmp 101), (some (some 100, true)), [6, 5, 4, 3, 2]⟩,
              ⟨some 103, .bin .eql (.tmp 102) (.const (.int .i64 0)), (some (some 100, true)), [7, 6, 5, 4, 3, 2]⟩,
              ⟨some 104, .pick (.tmp 100) (.tmp 103) (.const (.bool false)), none, [5, 4, 3, 2, 8, 7, 6]⟩,
              ⟨some 105, .mv (.tmp 104), none, [9, 5, 4, 3, 2, 8, 7, 6]⟩,
              ⟨some 106, .fad 0 (.tmp 7), (some (some 105, true)), [10, 9, 5, 4, 3, 2, 8, 7, 6]⟩,
              ⟨some 107, .load1 (.tmp 106), (some (some 105, true)), [11, 10, 9, 5, 4, 3, 2, 8, 7, 6]⟩,
              ⟨some 108, .bin .gtr (.tmp 107) (.const (.int .i64 0)), (some (some 105, true)), [12, 11, 10, 9, 5, 4, 3, 2, 8, 7, 6]⟩,
              ⟨some 109, .pick (.tmp 105) (.tmp 108) (.const (.bool false)), none, [10, 9, 5, 4, 3, 2, 8, 7, 6, 13, 12, 11]⟩,
              ⟨some 110, .mv (.tmp 109), none, [14, 10, 9, 5, 4, 3, 2, 8, 7, 6, 13, 12, 11]⟩,
              ⟨some 111, .mv (.tmp 3), (some (some 110, true)), [15, 14, 10, 9, 5, 4, 3, 2, 8, 7, 6, 13, 12, 11]⟩,
              ⟨some 112, .pick (.tmp 110) (.tmp 111) (.const (.bool false)), none, [15, 14, 10, 9, 5, 4, 3, 2, 8, 7, 6, 13, 12, 11, 16]⟩,
              ⟨some 113, .mv (.tmp 112), none, [17, 15, 14, 10, 9, 5, 4, 3, 2, 8, 7, 6, 13, 12, 11, 16]⟩,
              ⟨some 114, .fad 2 (.tmp 7), (some (some 113, true)), [18, 17, 15, 14, 10, 9, 5, 4, 3, 2, 8, 7, 6, 13, 12, 11, 16]⟩,
              ⟨some 115, .load1 (.tmp 114), (some (some 113, true)), [19, 18, 17, 15, 14, 10, 9, 5, 4, 3, 2, 8, 7, 6, 13, 12, 11, 16]⟩,
              ⟨some 116, .fad 4 (.tmp 5), (some (some 113, true)), [18, 17, 15, 14, 10, 9, 5, 4, 3, 2, 8, 7, 6, 13, 12, 11, 16]⟩,
              ⟨some 117, .load1 (.tmp 116), (some (some 113, true)), [21, 18, 17, 15, 14, 10, 9, 5, 4, 3, 2, 8, 7, 6, 13, 12, 11, 16]⟩,
              ⟨some 118, .bin .lss (.tmp 115) (.tmp 117), (some (some 113, true)), [20, 19, 18, 17, 15, 14, 10, 9, 5, 4, 3, 2, 8, 7, 6, 13, 12, 11, 16, 22, 21]⟩,
              ⟨some 119, .pick (.tmp 113) (.tmp 118) (.const (.bool false)), none, [18, 17, 15, 14, 10, 9, 5, 4, 3, 2, 8, 7, 6, 13, 12, 11, 16, 23, 20, 19, 22, 21]⟩,
              ⟨some 120, .mv (.tmp 119), none, [24, 18, 17, 15, 14, 10, 9, 5, 4, 3, 2, 8, 7, 6, 13, 12, 11, 16, 23, 20, 19, 22, 21]⟩,
              ⟨some 121, .loadN 5 (.tmp 5), (some (some 120, true)), [25, 24, 18, 17, 15, 14, 10, 9, 5, 4, 3, 2, 8, 7, 6, 13, 12, 11, 16, 23, 20, 19, 22, 21]⟩,
              ⟨some 122, .loadN 2 (.tmp 6), (some (some 120, true)), [25, 24, 18, 17, 15, 14, 10, 9, 5, 4, 3, 2, 8, 7, 6, 13, 12, 11, 16, 23, 20, 19, 22, 21]⟩,
              ⟨some 123, .fad 0 (.tmp 7), (some (some 120, true)), [25, 24, 18, 17, 15, 14, 10, 9, 5, 4, 3, 2, 8, 7, 6, 13, 12, 11, 16, 23, 20, 19, 22, 21]⟩,
              ⟨some 124, .load1 (.tmp 123), (some (some 120, true)), [28, 25, 24, 18, 17, 15, 14, 10, 9, 5, 4, 3, 2, 8, 7, 6, 13, 12, 11, 16, 23, 20, 19, 22, 21]⟩,
              ⟨some 125, .fad 1 (.tmp 9), (some (some 120, true)), [25, 24, 18, 17, 15, 14, 10, 9, 5, 4, 3, 2, 8, 7, 6, 13, 12, 11, 16, 23, 20, 19, 22, 21]⟩,
              ⟨some 126, .load1 (.tmp 125), (some (some 120, true)), [30, 25, 24, 18, 17, 15, 14, 10, 9, 5, 4, 3, 2, 8, 7, 6, 13, 12, 11, 16, 23, 20, 19, 22, 21]⟩,
              ⟨some 127, .call (.func 60) [(.tmp 121), (.tmp 122), (.tmp 124), (.tmp 126)], (some (some 120, true)), [26, 25, 24, 18, 17, 15, 14, 10, 9, 5, 4, 3, 2, 8, 7, 6, 13, 12, 11, 16, 23, 20, 19, 22, 21, 27, 29, 28, 31, 30]⟩,
              ⟨some 128, .pick (.tmp 120) (.tmp 127) (.const (.bool false)), none, [25, 24, 18, 17, 15, 14, 10, 9, 5, 4, 3, 2, 8, 7, 6, 13, 12, 11, 16, 23, 20, 19, 22, 21, 32, 26, 27, 29, 28, 31, 30]⟩,
              ⟨none, .store 5 (.tmp 10) (.tmp 95), none, [0, 32, 26, 25, 24, 18, 17, 15, 14, 10, 9, 5, 4, 3, 2, 8, 7, 6, 13, 12, 11, 16, 23, 20, 19, 22, 21, 27, 29, 28, 31, 30]⟩,
              ⟨some 11, .mv (.tmp 96), none, [1, 34, 0, 32, 26, 25, 24, 18, 17, 15, 14, 10, 9, 5, 4, 3, 2, 8, 7, 6, 13, 12, 11, 16, 23, 20, 19, 22, 21, 27, 29, 28, 31, 30]⟩,
              ⟨some 12, .mv (.tmp 128), none, [33, 25, 24, 18, 17, 15, 14, 10, 9, 5, 4, 3, 2, 8, 7, 6, 13, 12, 11, 16, 23, 20, 19, 22, 21, 32, 26, 27, 29, 28, 31, 30, 35, 1, 34, 0]⟩] [95, 96, 97, 98, 99, 100, 101, 102, 103, 104, 105, 106, 107, 108, 109, 110, 111, 112, 113, 114, 115, 116, 117, 118, 119, 120, 121, 122, 123, 124, 125, 126, 127, 128])
           .ret))
           (.seq
            (.region false [⟨some 130, .bin .eql (.tmp 24) (.const (.int .i64 5)), none, []⟩,
              ⟨some 129, .mv (.tmp 130), none, []⟩] [130])
           (.cond (.tmp 129)
             (.seq
              (.region false [⟨some 131, .fad 1 (.tmp 13), none, []⟩,
                ⟨none, .store 1 (.tmp 131) (.const (.int .i64 0)), none, []⟩] [131])
             (.seq
              (.region false [⟨some 132, .fad 3 (.tmp 13), none, []⟩,
                ⟨some 133, .load1 (.tmp 132), none, []⟩,
                ⟨some 134, .bin .add (.tmp 133) (.const (.int .i64 1)), none, []⟩,
                ⟨some 135, .fad 3 (.tmp 13), none, []⟩,
                ⟨none, .store 1 (.tmp 135) (.tmp 134), none, []⟩] [132, 133, 134, 135])
             (.seq
              (.region true [⟨some 136, .loadN 5 (.tmp 13), none, []⟩,
                ⟨some 137, .mv (.tmp 3), none, []⟩,
                ⟨some 138, .fad 1 (.tmp 9), none, []⟩,
                ⟨some 139, .load1 (.tmp 138), none, [2]⟩,
                ⟨some 140, .bin .eql (.tmp 139) (.const (.int .i64 0)), none, [3, 2]⟩,
                ⟨some 141, .mv (.tmp 140), none, [4, 3, 2]⟩,
                ⟨some 142, .fad 1 (.tmp 7), (some (some 141, true)), [5, 4, 3, 2]⟩,
                ⟨some 143, .load1 (.tmp 142), (some (some 141, true)), [6, 5, 4, 3, 2]⟩,
                ⟨some 144, .bin .gtr (.tmp 143) (.const (.int .i64 0)), (some (some 141, true)), [7, 6, 5, 4, 3, 2]⟩,
                ⟨some 145, .pick (.tmp 141) (.tmp 144) (.const (.bool false)), none, [5, 4, 3, 2, 8, 7, 6]⟩,
                ⟨none, .store 5 (.tmp 10) (.tmp 136), none, [0, 5, 4, 3, 2]⟩,
                ⟨some 11, .mv (.tmp 137), none, [1, 10, 0, 5, 4, 3, 2]⟩,
                ⟨some 12, .mv (.tmp 145), none, [9, 5, 4, 3, 2, 8, 7, 6, 11, 1, 10, 0]⟩] [136, 137, 138, 139, 140, 141, 142, 143, 144, 145])
             .ret)))
             (.seq
              (.region false [⟨some 147, .bin .eql (.tmp 24) (.const (.int .i64 6)), none, []⟩,
                ⟨some 146, .mv (.tmp 147), none, []⟩] [147])
             (.cond (.tmp 146)
               (.seq
                (.region false [⟨some 148, .fad 0 (.tmp 13), none, []⟩,
                  ⟨none, .store 1 (.tmp 148) (.const (.int .i64 0)), none, []⟩] [148])
               (.seq
                (.region false [⟨some 149, .fad 1 (.tmp 13), none, []⟩,
                  ⟨none, .store 1 (.tmp 149) (.const (.int .i64 0)), none, []⟩] [149])
               (.seq
                (.region false [⟨some 150, .fad 4 (.tmp 13), none, []⟩,
                  ⟨none, .store 1 (.tmp 150) (.const (.bool true)), none, []⟩] [150])
               (.seq
                (.region true [⟨some 151, .loadN 5 (.tmp 13), none, []⟩,
                  ⟨some 152, .mv (.tmp 3), none, []⟩,
                  ⟨some 153, .fad 1 (.tmp 9), none, []⟩,
                  ⟨some 154, .load1 (.tmp 153), none, [2]⟩,
                  ⟨some 155, .bin .eql (.tmp 154) (.const (.int .i64 0)), none, [3, 2]⟩,
                  ⟨none, .store 5 (.tmp 10) (.tmp 151), none, [0]⟩,
                  ⟨some 11, .mv (.tmp 152), none, [1, 5, 0]⟩,
                  ⟨some 12, .mv (.tmp 155), none, [4, 3, 2, 6, 1, 5, 0]⟩] [151, 152, 153, 154, 155])
               .ret))))
               .skip))))))))))))
  (.seq
   (.region false [⟨some 156, .loadN 5 (.tmp 7), none, []⟩,
     ⟨some 157, .mv (.tmp 3), none, []⟩,
     ⟨none, .store 5 (.tmp 10) (.tmp 156), none, []⟩,
     ⟨some 11, .mv (.tmp 157), none, []⟩,
     ⟨some 12, .mv (.const (.bool false)), none, []⟩] [156, 157])
  .ret))))))
set_option maxRecDepth 100000 in
theorem kref07_Step : IsCode Try.prog 75 158 cref07_Step [.cellN 10 5, .tmp 11, .tmp 12] :=
  ⟨Try.f75, _, [146, 129, 90, 78, 73, 40, 35, 25, 15, 0, 1, 2, 4, 7, 3, 10, 13, 9, 24, 5, 6, 11, 12], Try.func75, rfl, by decide, rfl, by kernel_rfl, by kernel_rfl⟩
/-- ref07_Haul -/
def cref07_Haul : ACode :=
  (.seq
   (.region false [⟨some 3, .box (.tmp 0), none, []⟩,
     ⟨some 4, .box (.tmp 1), none, []⟩,
     ⟨some 6, .mem [(.val (.int .i64 0)), (.val (.int .i64 0)), (.val (.int .i64 0)), (.val (.int .i64 0)), (.val (.bool false))], none, []⟩,
     ⟨some 7, .mv (.const (.int .i64 0)), none, []⟩,
     ⟨some 8, .mv (.const (.int .i64 0)), none, []⟩] [])
  (.seq
   (.region false [⟨some 16, .loadN 5 (.tmp 3), none, []⟩,
     ⟨some 17, .loadN 2 (.tmp 4), none, []⟩,
     ⟨some 18, .call (.func 23) [(.tmp 16), (.tmp 17)], none, []⟩,
     ⟨some 9, .mv (.tmp 18), none, []⟩] [16, 17, 18])
  (.seq
   (.seq
    (.region false [⟨some 19, .mv (.tmp 9), none, []⟩,
      ⟨some 20, .bin .eql (.tmp 19) (.const (.int .i64 71)), none, []⟩,
      ⟨some 21, .mv (.tmp 20), none, []⟩,
      ⟨some 22, .mv (.tmp 9), (some (some 21, false)), []⟩,
      ⟨some 23, .bin .eql (.tmp 22) (.const (.int .i64 10)), (some (some 21, false)), []⟩,
      ⟨some 24, .pick (.tmp 21) (.const (.bool true)) (.tmp 23), none, []⟩] [19, 20, 21, 22, 23])
   (.cond (.tmp 24)
     (.seq
      (.region false [⟨some 25, .build [(.val (.int .i64 0)), (.val (.int .i64 0)), (.val (.int .i64 0)), (.val (.int .i64 0)), (.val (.bool false))] [], none, []⟩,
        ⟨some 26, .mv (.tmp 9), none, []⟩,
        ⟨none, .store 5 (.tmp 6) (.tmp 25), none, []⟩,
        ⟨some 7, .mv (.const (.int .i64 0)), none, []⟩,
        ⟨some 8, .mv (.tmp 26), none, []⟩] [25, 26])
     .ret)
     .skip))
  (.seq
   (.seq
    (.region false [⟨some 27, .mv (.tmp 2), none, []⟩,
      ⟨some 28, .len_ (.tmp 27), none, []⟩,
      ⟨some 29, .bin .gtr (.tmp 28) (.const (.int .i64 100)), none, []⟩] [27, 28])
   (.cond (.tmp 29)
     (.seq
      (.region false [⟨some 30, .build [(.val (.int .i64 0)), (.val (.int .i64 0)), (.val (.int .i64 0)), (.val (.int .i64 0)), (.val (.bool false))] [], none, []⟩,
        ⟨none, .store 5 (.tmp 6) (.tmp 30), none, []⟩,
        ⟨some 7, .mv (.const (.int .i64 0)), none, []⟩,
        ⟨some 8, .mv (.const (.int .i64 2)), none, []⟩] [30])
     .ret)
     .skip))
  (.seq
   (.seq
    (.region false [⟨some 31, .mv (.tmp 9), none, []⟩,
      ⟨some 32, .bin .neq (.tmp 31) (.const (.int .i64 0)), none, []⟩] [31])
   (.cond (.tmp 32)
     (.seq
      (.region false [⟨some 33, .build [(.val (.int .i64 0)), (.val (.int .i64 0)), (.val (.int .i64 0)), (.val (.int .i64 0)), (.val (.bool false))] [], none, []⟩,
        ⟨some 34, .mv (.tmp 9), none, []⟩,
        ⟨none, .store 5 (.tmp 6) (.tmp 33), none, []⟩,
        ⟨some 7, .mv (.const (.int .i64 0)), none, []⟩,
        ⟨some 8, .mv (.tmp 34), none, []⟩] [33, 34])
     .ret)
     .skip))
  (.seq
   (.region false [⟨some 10, .mem [(.val (.int .i64 0)), (.val (.int .i64 0)), (.val (.int .i64 0)), (.val (.int .i64 0)), (.val (.bool false))], none, []⟩] [])
  (.seq
   (.region false [⟨some 11, .mv (.const (.bool false)), none, []⟩] [])
  (.seq
   (.seq
    (.region false [⟨some 12, .mv (.const (.int .i64 0)), none, []⟩] [])
   (.block 0
     (.loop
       (.seq
        (.seq
         (.region false [⟨some 35, .mv (.tmp 12), none, []⟩,
           ⟨some 36, .mv (.tmp 2), none, []⟩,
           ⟨some 37, .len_ (.tmp 36), none, []⟩,
           ⟨some 38, .bin .lss (.tmp 35) (.tmp 37), none, []⟩] [35, 36, 37])
        (.cond (.tmp 38)
          .skip
          (.exit 0)))
       (.seq
        (.block 1
          (.seq
           (.region true [⟨some 42, .loadN 5 (.tmp 3), none, []⟩,
             ⟨some 43, .loadN 2 (.tmp 4), none, []⟩,
             ⟨some 44, .loadN 5 (.tmp 10), none, []⟩,
             ⟨some 45, .mv (.tmp 11), none, []⟩,
             ⟨some 46, .mv (.tmp 2), none, []⟩,
             ⟨some 47, .mv (.tmp 12), none, []⟩,
             ⟨some 48, .iadS 2 (.tmp 46) (.tmp 47), none, [4, 5]⟩,
             ⟨some 49, .loadN 2 (.tmp 48), none, [6, 4, 5]⟩,
             ⟨some 50, .call (.func 75) [(.tmp 42), (.tmp 43), (.tmp 44), (.tmp 45), (.tmp 49)], none, [0, 1, 2, 3, 7, 6, 4, 5]⟩,
             ⟨some 41, .mv (.tmp 50), none, [8, 0, 1, 2, 3, 7, 6, 4, 5]⟩,
             ⟨some 51, .ext (.tmp 41) 0, none, [9, 8, 0, 1, 2, 3, 7, 6, 4, 5]⟩,
             ⟨some 52, .ext (.tmp 41) 1, none, [9, 8, 0, 1, 2, 3, 7, 6, 4, 5]⟩,
             ⟨some 53, .ext (.tmp 41) 2, none, [9, 8, 0, 1, 2, 3, 7, 6, 4, 5]⟩,
             ⟨some 13, .mem [(.val (.int .i64 0)), (.val (.int .i64 0)), (.val (.int .i64 0)), (.val (.int .i64 0)), (.val (.bool false))], none, []⟩,
             ⟨none, .store 5 (.tmp 13) (.tmp 51), none, [13, 10, 9, 8, 0, 1, 2, 3, 7, 6, 4, 5]⟩,
             ⟨some 14, .mv (.tmp 52), none, [11, 9, 8, 0, 1, 2, 3, 7, 6, 4, 5, 14, 13, 10]⟩,
             ⟨some 15, .mv (.tmp 53), none, [12, 9, 8, 0, 1, 2, 3, 7, 6, 4, 5, 15, 11, 14, 13, 10]⟩] [42, 43, 44, 45, 46, 47, 48, 49, 50, 41, 51, 52, 53])
          (.seq
           (.seq
            (.region false [⟨some 54, .mv (.tmp 15), none, []⟩,
              ⟨some 55, .un .not (.tmp 54), none, []⟩] [54])
           (.cond (.tmp 55)
             (.seq
              (.region false [⟨some 56, .build [(.val (.int .i64 0)), (.val (.int .i64 0)), (.val (.int .i64 0)), (.val (.int .i64 0)), (.val (.bool false))] [], none, []⟩,
                ⟨some 57, .mv (.tmp 12), none, []⟩,
                ⟨none, .store 5 (.tmp 6) (.tmp 56), none, []⟩,
                ⟨some 7, .mv (.tmp 57), none, []⟩,
                ⟨some 8, .mv (.const (.int .i64 72)), none, []⟩] [56, 57])
             .ret)
             .skip))
          (.seq
           (.region false [⟨some 58, .loadN 5 (.tmp 13), none, []⟩,
             ⟨none, .store 5 (.tmp 10) (.tmp 58), none, []⟩] [58])
          (.region false [⟨some 59, .mv (.tmp 14), none, []⟩,
            ⟨some 11, .mv (.tmp 59), none, []⟩] [59])))))
       (.region false [⟨some 39, .mv (.tmp 12), none, []⟩,
         ⟨some 40, .bin .add (.tmp 39) (.const (.int .i64 1)), none, []⟩,
         ⟨some 12, .mv (.tmp 40), none, []⟩] [39, 40]))))))
  (.seq
   (.region false [⟨some 60, .loadN 5 (.tmp 10), none, []⟩,
     ⟨none, .store 5 (.tmp 6) (.tmp 60), none, []⟩,
     ⟨some 7, .mv (.const (.int .i64 0)), none, []⟩,
     ⟨some 8, .mv (.const (.int .i64 0)), none, []⟩] [60])
  .ret)))))))))
set_option maxRecDepth 100000 in
theorem kref07_Haul : IsCode Try.prog 33 61 cref07_Haul [.cellN 6 5, .tmp 7, .tmp 8] :=
  ⟨Try.f33, _, [55, 38, 32, 29, 24, 0, 1, 3, 4, 9, 6, 2, 12, 10, 11, 15, 13, 14, 7, 8], Try.func33, rfl, by decide, rfl, by kernel_rfl, by kernel_rfl⟩
/-- law07_Example -/
def claw07_Example : ACode :=
  (.seq
   (.region false [⟨some 0, .mem [(.val (.int .i64 0)), (.val (.slice none 0 0)), (.val (.slice none 0 0)), (.val (.slice none 0 0)), (.val (.int .i64 0))], none, []⟩] [])
  (.seq
   (.region false [⟨some 1, .buildSl 1 2 [(.val (.int .i64 0)), (.val (.int .i64 0))] [(0, 1, (.const (.int .i64 0))), (1, 1, (.const (.int .i64 50)))], none, []⟩,
     ⟨some 2, .buildSl 1 2 [(.val (.int .i64 0)), (.val (.int .i64 0))] [(0, 1, (.const (.int .i64 0))), (1, 1, (.const (.int .i64 20)))], none, []⟩,
     ⟨some 3, .buildSl 1 2 [(.val (.int .i64 0)), (.val (.int .i64 0))] [(0, 1, (.const (.int .i64 300))), (1, 1, (.const (.int .i64 200)))], none, []⟩,
     ⟨some 4, .buildSl 1 2 [(.val (.int .i64 0)), (.val (.int .i64 0))] [(0, 1, (.const (.int .i64 200))), (1, 1, (.const (.int .i64 100)))], none, []⟩,
     ⟨some 5, .buildSl 1 2 [(.val (.slice none 0 0)), (.val (.slice none 0 0))] [(0, 1, (.tmp 3)), (1, 1, (.tmp 4))], none, []⟩,
     ⟨some 6, .build [(.val (.slice none 0 0)), (.val (.slice none 0 0)), (.val (.slice none 0 0))] [(0, 1, (.tmp 1)), (1, 1, (.tmp 2)), (2, 1, (.tmp 5))], none, []⟩,
     ⟨some 7, .build [(.val (.int .i64 0)), (.val (.slice none 0 0)), (.val (.slice none 0 0)), (.val (.slice none 0 0)), (.val (.int .i64 0))] [(0, 1, (.const (.int .i64 50))), (4, 1, (.const (.int .i64 2))), (1, 3, (.tmp 6))], none, []⟩,
     ⟨none, .store 5 (.tmp 0) (.tmp 7), none, []⟩] [1, 2, 3, 4, 5, 6, 7])
  .ret))
set_option maxRecDepth 100000 in
theorem klaw07_Example : IsCode Try.prog 49 8 claw07_Example [.cellN 0 5] :=
  ⟨Try.f49, _, [0], Try.func49, rfl, by decide, rfl, by kernel_rfl, by kernel_rfl⟩
/-- law07_works -/
def claw07_works : ACode :=
  (.seq
   (.region false [⟨some 0, .mv (.const (.bool false)), none, []⟩] [])
  (.seq
   (.region false [⟨some 6, .build [(.val (.int .i64 0)), (.val (.int .i64 0)), (.val (.int .i64 0))] [(0, 1, (.const (.int .i64 1))), (1, 1, (.const (.int .i64 1))), (2, 1, (.const (.int .i64 2)))], none, []⟩,
     ⟨some 7, .build [(.val (.int .i64 0)), (.val (.int .i64 0))] [(0, 1, (.const (.int .i64 1))), (1, 1, (.const (.int .i64 1)))], none, []⟩,
     ⟨some 8, .buildSl 1 2 [(.val (.int .i64 0)), (.val (.int .i64 0))] [(0, 1, (.const (.int .i64 0))), (1, 1, (.const (.int .i64 1)))], none, []⟩,
     ⟨some 9, .call (.func 16) [(.tmp 6), (.tmp 7), (.tmp 8)], none, []⟩,
     ⟨some 5, .mv (.tmp 9), none, []⟩,
     ⟨some 10, .ext (.tmp 5) 0, none, []⟩,
     ⟨some 11, .ext (.tmp 5) 1, none, []⟩,
     ⟨some 1, .mv (.tmp 10), none, []⟩,
     ⟨some 2, .mv (.tmp 11), none, []⟩] [6, 7, 8, 9, 5, 10, 11])
  (.seq
   (.region false [⟨some 13, .call (.func 49) [], none, []⟩,
     ⟨some 14, .build [(.val (.int .i64 0)), (.val (.int .i64 0))] [(1, 1, (.const (.int .i64 10)))], none, []⟩,
     ⟨some 15, .call (.func 21) [(.tmp 13), (.tmp 14), (.const (.int .i64 200))], none, []⟩,
     ⟨some 12, .mv (.tmp 15), none, []⟩,
     ⟨some 16, .ext (.tmp 12) 0, none, []⟩,
     ⟨some 17, .ext (.tmp 12) 1, none, []⟩,
     ⟨some 3, .mv (.tmp 16), none, []⟩,
     ⟨some 4, .mv (.tmp 17), none, []⟩] [13, 14, 15, 12, 16, 17])
  (.seq
   (.region false [⟨some 18, .mv (.tmp 2), none, []⟩,
     ⟨some 19, .bin .eql (.tmp 18) (.const (.int .i64 0)), none, []⟩,
     ⟨some 20, .mv (.tmp 19), none, []⟩,
     ⟨some 21, .mv (.tmp 4), (some (some 20, true)), []⟩,
     ⟨some 22, .bin .eql (.tmp 21) (.const (.int .i64 0)), (some (some 20, true)), []⟩,
     ⟨some 23, .pick (.tmp 20) (.tmp 22) (.const (.bool false)), none, []⟩,
     ⟨some 24, .mv (.tmp 23), none, []⟩,
     ⟨some 25, .mv (.tmp 3), (some (some 24, true)), []⟩,
     ⟨some 26, .bin .eql (.tmp 25) (.const (.int .i64 25)), (some (some 24, true)), []⟩,
     ⟨some 27, .pick (.tmp 24) (.tmp 26) (.const (.bool false)), none, []⟩,
     ⟨some 28, .mv (.tmp 27), none, []⟩,
     ⟨some 29, .mv (.tmp 1), (some (some 28, true)), []⟩,
     ⟨some 30, .build [(.val (.int .i64 0)), (.val (.int .i64 0))] [(0, 1, (.const (.int .i64 1))), (1, 1, (.const (.int .i64 1)))], (some (some 28, true)), []⟩,
     ⟨some 31, .build [(.val (.int .i64 0)), (.val (.int .i64 0))] [(0, 1, (.const (.int .i64 3))), (1, 1, (.const (.int .i64 2)))], (some (some 28, true)), []⟩,
     ⟨some 32, .buildSl 2 2 [(.val (.int .i64 0)), (.val (.int .i64 0)), (.val (.int .i64 0)), (.val (.int .i64 0))] [(0, 2, (.tmp 30)), (2, 2, (.tmp 31))], (some (some 28, true)), []⟩,
     ⟨some 33, .call (.func 27) [(.tmp 29), (.tmp 32)], (some (some 28, true)), []⟩,
     ⟨some 34, .pick (.tmp 28) (.tmp 33) (.const (.bool false)), none, []⟩,
     ⟨some 0, .mv (.tmp 34), none, []⟩] [18, 19, 20, 21, 22, 23, 24, 25, 26, 27, 28, 29, 30, 31, 32, 33, 34])
  .ret))))
set_option maxRecDepth 100000 in
theorem klaw07_works : IsCode Try.prog 15 35 claw07_works [.tmp 0] :=
  ⟨Try.f15, _, [2, 4, 3, 1, 0], Try.func15, rfl, by decide, rfl, by kernel_rfl, by kernel_rfl⟩
end Go.Proofs.Ythohcimmoobaoaa
/- The functions' bodies, translated. Written by a program; no conditions. -/
namespace Go.Proofs.Ythohcimmoobaoaa
open Go.RowKit Lift

/-- sling_Swing -/
def csling_Swing : ACode :=
  (.seq
   (.region false [⟨some 3, .box (.tmp 0), none, []⟩,
     ⟨some 4, .box (.tmp 1), none, []⟩,
     ⟨some 6, .mv (.const (.slice none 0 0)), none, []⟩,
     ⟨some 7, .mv (.const (.int .i64 0)), none, []⟩] [])
  (.seq
   (.seq
    (.region false [⟨some 12, .loadN 3 (.tmp 3), none, []⟩,
      ⟨some 13, .call (.func 25) [(.tmp 12)], none, []⟩,
      ⟨some 8, .mv (.tmp 13), none, []⟩] [12, 13])
   (.seq
    (.region false [⟨some 14, .mv (.tmp 8), none, []⟩,
      ⟨some 15, .bin .neq (.tmp 14) (.const (.int .i64 0)), none, []⟩] [14])
   (.cond (.tmp 15)
     (.seq
      (.region false [⟨some 16, .mv (.tmp 8), none, []⟩,
        ⟨some 6, .mv (.const (.slice none 0 0)), none, []⟩,
        ⟨some 7, .mv (.tmp 16), none, []⟩] [16])
     .ret)
     .skip)))
  (.seq
   (.seq
    (.region false [⟨some 17, .mv (.tmp 2), none, []⟩,
      ⟨some 18, .len_ (.tmp 17), none, []⟩,
      ⟨some 19, .bin .gtr (.tmp 18) (.const (.int .i64 16)), none, []⟩] [17, 18])
   (.cond (.tmp 19)
     (.seq
      (.region false [⟨some 6, .mv (.const (.slice none 0 0)), none, []⟩,
        ⟨some 7, .mv (.const (.int .i64 2)), none, []⟩] [])
     .ret)
     .skip))
  (.seq
   (.seq
    (.region false [⟨some 20, .loadN 2 (.tmp 4), none, []⟩,
      ⟨some 21, .call (.func 50) [(.tmp 20)], none, []⟩,
      ⟨some 22, .un .not (.tmp 21), none, []⟩,
      ⟨some 23, .mv (.tmp 22), none, []⟩,
      ⟨some 24, .mv (.tmp 2), (some (some 23, false)), []⟩,
      ⟨some 25, .call (.func 51) [(.tmp 24), (.func 52)], (some (some 23, false)), []⟩,
      ⟨some 26, .pick (.tmp 23) (.const (.bool true)) (.tmp 25), none, []⟩] [20, 21, 22, 23, 24, 25])
   (.cond (.tmp 26)
     (.seq
      (.region false [⟨some 6, .mv (.const (.slice none 0 0)), none, []⟩,
        ⟨some 7, .mv (.const (.int .i64 1)), none, []⟩] [])
     .ret)
     .skip))
  (.seq
   (.region false [⟨some 27, .loadN 3 (.tmp 3), none, []⟩,
     ⟨some 28, .iadA 2 1 (.tmp 4) (.const (.int .i64 0)), none, []⟩,
     ⟨some 29, .load1 (.tmp 28), none, []⟩,
     ⟨some 30, .iadA 2 1 (.tmp 4) (.const (.int .i64 1)), none, []⟩,
     ⟨some 31, .load1 (.tmp 30), none, []⟩,
     ⟨some 32, .build [(.val (.int .i64 0)), (.val (.int .i64 0)), (.val (.int .i64 0)), (.val (.int .i64 0)), (.val (.int .i64 0)), (.val (.int .i64 0))] [(0, 3, (.tmp 27)), (3, 1, (.tmp 29)), (4, 1, (.tmp 31)), (5, 1, (.const (.int .i64 1)))], none, []⟩,
     ⟨some 33, .box (.tmp 32), none, []⟩,
     ⟨some 9, .mv (.tmp 33), none, []⟩] [27, 28, 29, 30, 31, 32, 33])
  (.seq
   (.seq
    (.region false [⟨some 34, .mv (.tmp 2), none, []⟩,
      ⟨some 35, .len_ (.tmp 34), none, []⟩,
      ⟨some 36, .mv (.const (.int .i64 0)), none, []⟩] [])
   (.block 0
     (.loop
       (.seq
        (.region false [⟨some 37, .bin .lss (.tmp 36) (.tmp 35), none, []⟩] [])
       (.seq
        (.cond (.tmp 37)
          .skip
          (.exit 0))
       (.seq
        (.block 1
          (.seq
           (.region false [⟨some 38, .iadS 1 (.tmp 34) (.tmp 36), none, []⟩,
             ⟨some 39, .load1 (.tmp 38), none, []⟩,
             ⟨some 11, .mv (.tmp 39), none, []⟩] [38, 39])
          (.seq
           (.region false [⟨some 40, .mv (.tmp 9), none, []⟩,
             ⟨some 41, .mv (.tmp 11), none, []⟩,
             ⟨some 42, .call (.func 54) [(.tmp 40), (.tmp 41)], none, []⟩] [40, 41, 42])
          (.region false [⟨some 43, .mv (.tmp 6), none, []⟩,
            ⟨some 44, .mv (.tmp 9), none, []⟩,
            ⟨some 45, .call (.func 55) [(.tmp 44)], none, []⟩,
            ⟨some 46, .buildSl 2 1 [(.val (.int .i64 0)), (.val (.int .i64 0))] [(0, 2, (.tmp 45))], none, []⟩,
            ⟨some 47, .app 2 16 (.tmp 43) (.tmp 46), none, []⟩,
            ⟨some 6, .mv (.tmp 47), none, []⟩] [43, 44, 45, 46, 47]))))
       (.region false [⟨some 48, .bin .add (.tmp 36) (.const (.int .i64 1)), none, []⟩,
         ⟨some 36, .mv (.tmp 48), none, []⟩] [48])))))))
  (.seq
   (.region false [⟨some 49, .mv (.tmp 6), none, []⟩,
     ⟨some 6, .mv (.tmp 49), none, []⟩,
     ⟨some 7, .mv (.const (.int .i64 0)), none, []⟩] [49])
  .ret)))))))
set_option maxRecDepth 100000 in
theorem ksling_Swing : IsCode Try.prog 16 50 csling_Swing [.tmp 6, .tmp 7] :=
  ⟨Try.f16, _, [37, 26, 19, 15, 0, 1, 3, 8, 2, 4, 36, 35, 34, 9, 11, 6, 7], Try.func16, rfl, by decide, rfl, by kernel_rfl, by kernel_rfl⟩
end Go.Proofs.Ythohcimmoobaoaa
/- The functions' bodies, translated. Written by a program; no conditions. -/
namespace Go.Proofs.Ythohcimmoobaoaa
open Go.RowKit Lift

/-- sling_within -/
def csling_within : ACode :=
  (.seq
   (.region false [⟨some 6, .mv (.const (.bool false)), none, []⟩] [])
  (.seq
   (.region false [⟨some 7, .mv (.tmp 0), none, []⟩,
     ⟨some 8, .mv (.tmp 1), none, []⟩,
     ⟨some 9, .bin .geq (.tmp 7) (.tmp 8), none, []⟩,
     ⟨some 10, .mv (.tmp 9), none, []⟩,
     ⟨some 11, .mv (.tmp 0), (some (some 10, true)), []⟩,
     ⟨some 12, .mv (.tmp 2), (some (some 10, true)), []⟩,
     ⟨some 13, .bin .leq (.tmp 11) (.tmp 12), (some (some 10, true)), []⟩,
     ⟨some 14, .pick (.tmp 10) (.tmp 13) (.const (.bool false)), none, []⟩,
     ⟨some 6, .mv (.tmp 14), none, []⟩] [7, 8, 9, 10, 11, 12, 13, 14])
  .ret))
set_option maxRecDepth 100000 in
theorem ksling_within : IsCode Try.prog 53 15 csling_within [.tmp 6] :=
  ⟨Try.f53, _, [0, 1, 2, 6], Try.func53, rfl, by decide, rfl, by kernel_rfl, by kernel_rfl⟩
/-- ref07_within -/
def cref07_within : ACode :=
  (.seq
   (.region false [⟨some 6, .mv (.const (.bool false)), none, []⟩] [])
  (.seq
   (.region false [⟨some 7, .mv (.tmp 0), none, []⟩,
     ⟨some 8, .mv (.tmp 1), none, []⟩,
     ⟨some 9, .bin .geq (.tmp 7) (.tmp 8), none, []⟩,
     ⟨some 10, .mv (.tmp 9), none, []⟩,
     ⟨some 11, .mv (.tmp 0), (some (some 10, true)), []⟩,
     ⟨some 12, .mv (.tmp 2), (some (some 10, true)), []⟩,
     ⟨some 13, .bin .leq (.tmp 11) (.tmp 12), (some (some 10, true)), []⟩,
     ⟨some 14, .pick (.tmp 10) (.tmp 13) (.const (.bool false)), none, []⟩,
     ⟨some 6, .mv (.tmp 14), none, []⟩] [7, 8, 9, 10, 11, 12, 13, 14])
  .ret))
set_option maxRecDepth 100000 in
theorem kref07_within : IsCode Try.prog 56 15 cref07_within [.tmp 6] :=
  ⟨Try.f56, _, [0, 1, 2, 6], Try.func56, rfl, by decide, rfl, by kernel_rfl, by kernel_rfl⟩
/-- sling_Check -/
def csling_Check : ACode :=
  (.seq
   (.region false [⟨some 1, .box (.tmp 0), none, []⟩,
     ⟨some 2, .mv (.const (.int .i64 0)), none, []⟩] [])
  (.seq
   (.seq
    (.region false [⟨some 3, .fad 2 (.tmp 1), none, []⟩,
      ⟨some 4, .load1 (.tmp 3), none, []⟩,
      ⟨some 5, .call (.func 53) [(.tmp 4), (.const (.int .i64 1)), (.const (.int .i64 4))], none, []⟩,
      ⟨some 6, .un .not (.tmp 5), none, []⟩,
      ⟨some 7, .mv (.tmp 6), none, []⟩,
      ⟨some 8, .fad 0 (.tmp 1), (some (some 7, false)), []⟩,
      ⟨some 9, .load1 (.tmp 8), (some (some 7, false)), []⟩,
      ⟨some 10, .fad 2 (.tmp 1), (some (some 7, false)), []⟩,
      ⟨some 11, .load1 (.tmp 10), (some (some 7, false)), []⟩,
      ⟨some 12, .bin .mul (.const (.int .i64 2)) (.tmp 11), (some (some 7, false)), []⟩,
      ⟨some 13, .call (.func 53) [(.tmp 9), (.const (.int .i64 0)), (.tmp 12)], (some (some 7, false)), []⟩,
      ⟨some 14, .un .not (.tmp 13), (some (some 7, false)), []⟩,
      ⟨some 15, .pick (.tmp 7) (.const (.bool true)) (.tmp 14), none, []⟩,
      ⟨some 16, .mv (.tmp 15), none, []⟩,
      ⟨some 17, .fad 1 (.tmp 1), (some (some 16, false)), []⟩,
      ⟨some 18, .load1 (.tmp 17), (some (some 16, false)), []⟩,
      ⟨some 19, .fad 2 (.tmp 1), (some (some 16, false)), []⟩,
      ⟨some 20, .load1 (.tmp 19), (some (some 16, false)), []⟩,
      ⟨some 21, .call (.func 53) [(.tmp 18), (.const (.int .i64 0)), (.tmp 20)], (some (some 16, false)), []⟩,
      ⟨some 22, .un .not (.tmp 21), (some (some 16, false)), []⟩,
      ⟨some 23, .pick (.tmp 16) (.const (.bool true)) (.tmp 22), none, []⟩] [3, 4, 5, 6, 7, 8, 9, 10, 11, 12, 13, 14, 15, 16, 17, 18, 19, 20, 21, 22])
   (.cond (.tmp 23)
     (.seq
      (.region false [⟨some 2, .mv (.const (.int .i64 70)), none, []⟩] [])
     .ret)
     .skip))
  (.seq
   (.region false [⟨some 2, .mv (.const (.int .i64 0)), none, []⟩] [])
  .ret)))
set_option maxRecDepth 100000 in
theorem ksling_Check : IsCode Try.prog 25 24 csling_Check [.tmp 2] :=
  ⟨Try.f25, _, [23, 0, 1, 2], Try.func25, rfl, by decide, rfl, by kernel_rfl, by kernel_rfl⟩
/-- sling_started -/
def csling_started : ACode :=
  (.seq
   (.region false [⟨some 1, .box (.tmp 0), none, []⟩,
     ⟨some 2, .mv (.const (.bool false)), none, []⟩] [])
  (.seq
   (.region false [⟨some 3, .iadA 2 1 (.tmp 1) (.const (.int .i64 0)), none, []⟩,
     ⟨some 4, .load1 (.tmp 3), none, []⟩,
     ⟨some 5, .call (.func 53) [(.tmp 4), (.const (.int .i64 (-1000))), (.const (.int .i64 1000))], none, []⟩,
     ⟨some 6, .mv (.tmp 5), none, []⟩,
     ⟨some 7, .iadA 2 1 (.tmp 1) (.const (.int .i64 1)), (some (some 6, true)), []⟩,
     ⟨some 8, .load1 (.tmp 7), (some (some 6, true)), []⟩,
     ⟨some 9, .call (.func 53) [(.tmp 8), (.const (.int .i64 (-1000))), (.const (.int .i64 1000))], (some (some 6, true)), []⟩,
     ⟨some 10, .pick (.tmp 6) (.tmp 9) (.const (.bool false)), none, []⟩,
     ⟨some 2, .mv (.tmp 10), none, []⟩] [3, 4, 5, 6, 7, 8, 9, 10])
  .ret))
set_option maxRecDepth 100000 in
theorem ksling_started : IsCode Try.prog 50 11 csling_started [.tmp 2] :=
  ⟨Try.f50, _, [0, 1, 2], Try.func50, rfl, by decide, rfl, by kernel_rfl, by kernel_rfl⟩
/-- sling_lowest -/
def csling_lowest : ACode :=
  (.seq
   (.region false [⟨some 4, .mem [(.val (.int .i64 0)), (.val (.int .i64 0))], none, []⟩] [])
  (.seq
   (.region false [⟨some 7, .mv (.tmp 0), none, []⟩,
     ⟨some 8, .mv (.tmp 0), none, []⟩,
     ⟨some 9, .un .neg (.tmp 8), none, []⟩,
     ⟨some 10, .mnx true [(.tmp 7), (.tmp 9)], none, []⟩,
     ⟨some 11, .mv (.tmp 1), none, []⟩,
     ⟨some 5, .mv (.tmp 10), none, []⟩,
     ⟨some 6, .mv (.tmp 11), none, []⟩] [7, 8, 9, 10, 11])
  (.seq
   (.block 0
     (.loop
       (.seq
        (.seq
         (.region false [⟨some 12, .mv (.tmp 6), none, []⟩,
           ⟨some 13, .bin .gtr (.tmp 12) (.const (.int .i64 0)), none, []⟩] [12])
        (.cond (.tmp 13)
          .skip
          (.exit 0)))
       (.block 1
         (.region true [⟨some 14, .mv (.tmp 6), none, []⟩,
           ⟨some 15, .mv (.tmp 5), none, []⟩,
           ⟨some 16, .mv (.tmp 6), none, []⟩,
           ⟨some 17, .bin .rem (.tmp 15) (.tmp 16), none, [1, 2]⟩,
           ⟨some 5, .mv (.tmp 14), none, [0, 1]⟩,
           ⟨some 6, .mv (.tmp 17), none, [3, 1, 2, 4, 0]⟩] [14, 15, 16, 17])))))
  (.seq
   (.region true [⟨some 18, .mv (.tmp 0), none, []⟩,
     ⟨some 19, .mv (.tmp 5), none, []⟩,
     ⟨some 20, .bin .quo (.tmp 18) (.tmp 19), none, [0, 1]⟩,
     ⟨some 21, .mv (.tmp 1), none, []⟩,
     ⟨some 22, .mv (.tmp 5), none, []⟩,
     ⟨some 23, .bin .quo (.tmp 21) (.tmp 22), none, [3, 4]⟩,
     ⟨some 24, .build [(.val (.int .i64 0)), (.val (.int .i64 0))] [(0, 1, (.tmp 20)), (1, 1, (.tmp 23))], none, [2, 0, 1, 5, 3, 4]⟩,
     ⟨none, .store 2 (.tmp 4) (.tmp 24), none, [6, 2, 0, 1, 5, 3, 4]⟩] [18, 19, 20, 21, 22, 23, 24])
  .ret))))
set_option maxRecDepth 100000 in
theorem ksling_lowest : IsCode Try.prog 80 25 csling_lowest [.cellN 4 2] :=
  ⟨Try.f80, _, [13, 0, 1, 6, 5, 4], Try.func80, rfl, by decide, rfl, by kernel_rfl, by kernel_rfl⟩
/-- psling_load_tick -/
def cpsling_load_tick : ACode :=
  (.seq
   (.region true [⟨some 4, .mv (.tmp 0), none, []⟩,
     ⟨some 5, .nilc (.tmp 4), none, [0]⟩,
     ⟨some 6, .fad 5 (.tmp 5), none, [1, 0]⟩,
     ⟨some 7, .load1 (.tmp 6), none, [2, 1, 0]⟩,
     ⟨some 8, .mv (.tmp 0), none, []⟩,
     ⟨some 9, .nilc (.tmp 8), none, [4]⟩,
     ⟨some 10, .fad 0 (.tmp 9), none, [5, 4]⟩,
     ⟨some 11, .fad 2 (.tmp 10), none, [6, 5, 4]⟩,
     ⟨some 12, .load1 (.tmp 11), none, [7, 6, 5, 4]⟩,
     ⟨some 13, .bin .mul (.tmp 7) (.tmp 12), none, [3, 2, 1, 0, 8, 7, 6, 5, 4]⟩,
     ⟨some 14, .nilc (.tmp 4), none, [0, 1, 2, 3, 4, 5, 6, 7, 8, 9]⟩,
     ⟨some 15, .fad 5 (.tmp 14), none, [10, 0, 1, 2, 3, 4, 5, 6, 7, 8, 9]⟩,
     ⟨none, .store 1 (.tmp 15) (.tmp 13), none, [11, 10, 0, 1, 2, 3, 4, 5, 6, 7, 8, 9]⟩] [4, 5, 6, 7, 8, 9, 10, 11, 12, 13, 14, 15])
  (.seq
   (.region true [⟨some 16, .mv (.tmp 0), none, []⟩,
     ⟨some 17, .mv (.tmp 0), none, []⟩,
     ⟨some 18, .nilc (.tmp 17), none, [1]⟩,
     ⟨some 19, .fad 0 (.tmp 18), none, [2, 1]⟩,
     ⟨some 20, .fad 2 (.tmp 19), none, [3, 2, 1]⟩,
     ⟨some 21, .load1 (.tmp 20), none, [4, 3, 2, 1]⟩,
     ⟨some 22, .mv (.tmp 0), none, []⟩,
     ⟨some 23, .nilc (.tmp 22), none, [6]⟩,
     ⟨some 24, .fad 4 (.tmp 23), none, [7, 6]⟩,
     ⟨some 25, .load1 (.tmp 24), none, [8, 7, 6]⟩,
     ⟨some 26, .bin .mul (.tmp 21) (.tmp 25), none, [5, 4, 3, 2, 1, 9, 8, 7, 6]⟩,
     ⟨some 27, .mv (.tmp 0), none, []⟩,
     ⟨some 28, .nilc (.tmp 27), none, [11]⟩,
     ⟨some 29, .fad 0 (.tmp 28), none, [12, 11]⟩,
     ⟨some 30, .fad 0 (.tmp 29), none, [13, 12, 11]⟩,
     ⟨some 31, .load1 (.tmp 30), none, [14, 13, 12, 11]⟩,
     ⟨some 32, .mv (.tmp 0), none, []⟩,
     ⟨some 33, .nilc (.tmp 32), none, [16]⟩,
     ⟨some 34, .fad 3 (.tmp 33), none, [17, 16]⟩,
     ⟨some 35, .load1 (.tmp 34), none, [18, 17, 16]⟩,
     ⟨some 36, .bin .mul (.tmp 31) (.tmp 35), none, [15, 14, 13, 12, 11, 19, 18, 17, 16]⟩,
     ⟨some 37, .bin .sub (.tmp 26) (.tmp 36), none, [10, 5, 4, 3, 2, 1, 9, 8, 7, 6, 20, 15, 14, 13, 12, 11, 19, 18, 17, 16]⟩,
     ⟨some 38, .mv (.tmp 0), none, []⟩,
     ⟨some 39, .nilc (.tmp 38), none, [22]⟩,
     ⟨some 40, .fad 0 (.tmp 39), none, [23, 22]⟩,
     ⟨some 41, .fad 1 (.tmp 40), none, [24, 23, 22]⟩,
     ⟨some 42, .load1 (.tmp 41), none, [25, 24, 23, 22]⟩,
     ⟨some 43, .mv (.tmp 0), none, []⟩,
     ⟨some 44, .nilc (.tmp 43), none, [27]⟩,
     ⟨some 45, .fad 4 (.tmp 44), none, [28, 27]⟩,
     ⟨some 46, .load1 (.tmp 45), none, [29, 28, 27]⟩,
     ⟨some 47, .bin .mul (.tmp 42) (.tmp 46), none, [26, 25, 24, 23, 22, 30, 29, 28, 27]⟩,
     ⟨some 48, .bin .sub (.tmp 37) (.tmp 47), none, [21, 10, 5, 4, 3, 2, 1, 9, 8, 7, 6, 20, 15, 14, 13, 12, 11, 19, 18, 17, 16, 31, 26, 25, 24, 23, 22, 30, 29, 28, 27]⟩,
     ⟨some 49, .mv (.tmp 1), none, []⟩,
     ⟨some 50, .mv (.tmp 0), none, []⟩,
     ⟨some 51, .nilc (.tmp 50), none, [34]⟩,
     ⟨some 52, .fad 5 (.tmp 51), none, [35, 34]⟩,
     ⟨some 53, .load1 (.tmp 52), none, [36, 35, 34]⟩,
     ⟨some 54, .bin .mul (.tmp 49) (.tmp 53), none, [33, 37, 36, 35, 34]⟩,
     ⟨some 55, .bin .add (.tmp 48) (.tmp 54), none, [32, 21, 10, 5, 4, 3, 2, 1, 9, 8, 7, 6, 20, 15, 14, 13, 12, 11, 19, 18, 17, 16, 31, 26, 25, 24, 23, 22, 30, 29, 28, 27, 38, 33, 37, 36, 35, 34]⟩,
     ⟨some 56, .nilc (.tmp 16), none, [0, 1, 2, 3, 4, 5, 6, 7, 8, 9, 10, 11, 12, 13, 14, 15, 16, 17, 18, 19, 20, 21, 22, 23, 24, 25, 26, 27, 28, 29, 30, 31, 32, 33, 34, 35, 36, 37, 38, 39]⟩,
     ⟨some 57, .fad 4 (.tmp 56), none, [40, 0, 1, 2, 3, 4, 5, 6, 7, 8, 9, 10, 11, 12, 13, 14, 15, 16, 17, 18, 19, 20, 21, 22, 23, 24, 25, 26, 27, 28, 29, 30, 31, 32, 33, 34, 35, 36, 37, 38, 39]⟩,
     ⟨none, .store 1 (.tmp 57) (.tmp 55), none, [41, 40, 0, 1, 2, 3, 4, 5, 6, 7, 8, 9, 10, 11, 12, 13, 14, 15, 16, 17, 18, 19, 20, 21, 22, 23, 24, 25, 26, 27, 28, 29, 30, 31, 32, 33, 34, 35, 36, 37, 38, 39]⟩] [16, 17, 18, 19, 20, 21, 22, 23, 24, 25, 26, 27, 28, 29, 30, 31, 32, 33, 34, 35, 36, 37, 38, 39, 40, 41, 42, 43, 44, 45, 46, 47, 48, 49, 50, 51, 52, 53, 54, 55, 56, 57])
  (.region true [⟨some 58, .mv (.tmp 0), none, []⟩,
    ⟨some 59, .mv (.tmp 0), none, []⟩,
    ⟨some 60, .nilc (.tmp 59), none, [1]⟩,
    ⟨some 61, .fad 0 (.tmp 60), none, [2, 1]⟩,
    ⟨some 62, .fad 2 (.tmp 61), none, [3, 2, 1]⟩,
    ⟨some 63, .load1 (.tmp 62), none, [4, 3, 2, 1]⟩,
    ⟨some 64, .mv (.tmp 0), none, []⟩,
    ⟨some 65, .nilc (.tmp 64), none, [6]⟩,
    ⟨some 66, .fad 3 (.tmp 65), none, [7, 6]⟩,
    ⟨some 67, .load1 (.tmp 66), none, [8, 7, 6]⟩,
    ⟨some 68, .bin .mul (.tmp 63) (.tmp 67), none, [5, 4, 3, 2, 1, 9, 8, 7, 6]⟩,
    ⟨some 69, .mv (.tmp 0), none, []⟩,
    ⟨some 70, .nilc (.tmp 69), none, [11]⟩,
    ⟨some 71, .fad 4 (.tmp 70), none, [12, 11]⟩,
    ⟨some 72, .load1 (.tmp 71), none, [13, 12, 11]⟩,
    ⟨some 73, .bin .add (.tmp 68) (.tmp 72), none, [10, 5, 4, 3, 2, 1, 9, 8, 7, 6, 14, 13, 12, 11]⟩,
    ⟨some 74, .nilc (.tmp 58), none, [0, 1, 2, 3, 4, 5, 6, 7, 8, 9, 10, 11, 12, 13, 14, 15]⟩,
    ⟨some 75, .fad 3 (.tmp 74), none, [16, 0, 1, 2, 3, 4, 5, 6, 7, 8, 9, 10, 11, 12, 13, 14, 15]⟩,
    ⟨none, .store 1 (.tmp 75) (.tmp 73), none, [17, 16, 0, 1, 2, 3, 4, 5, 6, 7, 8, 9, 10, 11, 12, 13, 14, 15]⟩] [58, 59, 60, 61, 62, 63, 64, 65, 66, 67, 68, 69, 70, 71, 72, 73, 74, 75])))
set_option maxRecDepth 100000 in
theorem kpsling_load_tick : IsCode Try.prog 54 76 cpsling_load_tick [] :=
  ⟨Try.f54, _, [0, 1], Try.func54, rfl, by decide, rfl, by kernel_rfl, by kernel_rfl⟩
/-- psling_load_place -/
def cpsling_load_place : ACode :=
  (.seq
   (.region false [⟨some 2, .mem [(.val (.int .i64 0)), (.val (.int .i64 0))], none, []⟩] [])
  (.seq
   (.region true [⟨some 3, .mv (.tmp 0), none, []⟩,
     ⟨some 4, .nilc (.tmp 3), none, [0]⟩,
     ⟨some 5, .fad 3 (.tmp 4), none, [1, 0]⟩,
     ⟨some 6, .load1 (.tmp 5), none, [2, 1, 0]⟩,
     ⟨some 7, .mv (.tmp 0), none, []⟩,
     ⟨some 8, .nilc (.tmp 7), none, [4]⟩,
     ⟨some 9, .fad 5 (.tmp 8), none, [5, 4]⟩,
     ⟨some 10, .load1 (.tmp 9), none, [6, 5, 4]⟩,
     ⟨some 11, .call (.func 80) [(.tmp 6), (.tmp 10)], none, [3, 2, 1, 0, 7, 6, 5, 4]⟩,
     ⟨none, .store 2 (.tmp 2) (.tmp 11), none, [8, 3, 2, 1, 0, 7, 6, 5, 4]⟩] [3, 4, 5, 6, 7, 8, 9, 10, 11])
  .ret))
set_option maxRecDepth 100000 in
theorem kpsling_load_place : IsCode Try.prog 55 12 cpsling_load_place [.cellN 2 2] :=
  ⟨Try.f55, _, [0, 2], Try.func55, rfl, by decide, rfl, by kernel_rfl, by kernel_rfl⟩
/-- sling_Swing_S1 -/
def csling_Swing_S1 : ACode :=
  (.seq
   (.region false [⟨some 2, .mv (.const (.bool false)), none, []⟩] [])
  (.seq
   (.region false [⟨some 3, .mv (.tmp 0), none, []⟩,
     ⟨some 4, .call (.func 53) [(.tmp 3), (.const (.int .i64 (-100))), (.const (.int .i64 100))], none, []⟩,
     ⟨some 5, .un .not (.tmp 4), none, []⟩,
     ⟨some 2, .mv (.tmp 5), none, []⟩] [3, 4, 5])
  .ret))
set_option maxRecDepth 100000 in
theorem ksling_Swing_S1 : IsCode Try.prog 52 6 csling_Swing_S1 [.tmp 2] :=
  ⟨Try.f52, _, [0, 2], Try.func52, rfl, by decide, rfl, by kernel_rfl, by kernel_rfl⟩
/-- law07_sameFractions -/
def claw07_sameFractions : ACode :=
  (.seq
   (.region false [⟨some 4, .mv (.const (.bool false)), none, []⟩] [])
  (.seq
   (.seq
    (.region false [⟨some 6, .mv (.tmp 0), none, []⟩,
      ⟨some 7, .len_ (.tmp 6), none, []⟩,
      ⟨some 8, .mv (.tmp 1), none, []⟩,
      ⟨some 9, .len_ (.tmp 8), none, []⟩,
      ⟨some 10, .bin .neq (.tmp 7) (.tmp 9), none, []⟩] [6, 7, 8, 9])
   (.cond (.tmp 10)
     (.seq
      (.region false [⟨some 4, .mv (.const (.bool false)), none, []⟩] [])
     .ret)
     .skip))
  (.seq
   (.seq
    (.region false [⟨some 5, .mv (.const (.int .i64 0)), none, []⟩] [])
   (.block 0
     (.loop
       (.seq
        (.seq
         (.region false [⟨some 11, .mv (.tmp 5), none, []⟩,
           ⟨some 12, .mv (.tmp 0), none, []⟩,
           ⟨some 13, .len_ (.tmp 12), none, []⟩,
           ⟨some 14, .bin .lss (.tmp 11) (.tmp 13), none, []⟩] [11, 12, 13])
        (.cond (.tmp 14)
          .skip
          (.exit 0)))
       (.seq
        (.block 1
          (.seq
           (.region true [⟨some 17, .mv (.tmp 0), none, []⟩,
             ⟨some 18, .mv (.tmp 5), none, []⟩,
             ⟨some 19, .iadS 2 (.tmp 17) (.tmp 18), none, [0, 1]⟩,
             ⟨some 20, .loadN 2 (.tmp 19), none, [2, 0, 1]⟩,
             ⟨some 21, .mv (.tmp 1), none, []⟩,
             ⟨some 22, .mv (.tmp 5), none, []⟩,
             ⟨some 23, .iadS 2 (.tmp 21) (.tmp 22), none, [4, 5]⟩,
             ⟨some 24, .loadN 2 (.tmp 23), none, [6, 4, 5]⟩,
             ⟨some 25, .eqa true [false, false] (.tmp 20) (.tmp 24), none, [3, 2, 0, 1, 7, 6, 4, 5]⟩] [17, 18, 19, 20, 21, 22, 23, 24])
          (.cond (.tmp 25)
            (.seq
             (.region false [⟨some 4, .mv (.const (.bool false)), none, []⟩] [])
            .ret)
            .skip)))
       (.region false [⟨some 15, .mv (.tmp 5), none, []⟩,
         ⟨some 16, .bin .add (.tmp 15) (.const (.int .i64 1)), none, []⟩,
         ⟨some 5, .mv (.tmp 16), none, []⟩] [15, 16]))))))
  (.seq
   (.region false [⟨some 4, .mv (.const (.bool true)), none, []⟩] [])
  .ret))))
set_option maxRecDepth 100000 in
theorem klaw07_sameFractions : IsCode Try.prog 27 26 claw07_sameFractions [.tmp 4] :=
  ⟨Try.f27, _, [25, 14, 10, 0, 1, 5, 4], Try.func27, rfl, by decide, rfl, by kernel_rfl, by kernel_rfl⟩
/-- slices_IndexFunc_L_L_Jint_Kint_J -/
def cslices_IndexFunc_L_L_Jint_Kint_J : ACode :=
  (.seq
   (.region false [⟨some 4, .mv (.const (.int .i64 0)), none, []⟩] [])
  (.seq
   (.seq
    (.region false [⟨some 6, .mv (.tmp 0), none, []⟩,
      ⟨some 7, .len_ (.tmp 6), none, []⟩,
      ⟨some 8, .mv (.const (.int .i64 0)), none, []⟩] [6])
   (.block 0
     (.loop
       (.seq
        (.region false [⟨some 9, .bin .lss (.tmp 8) (.tmp 7), none, []⟩] [])
       (.seq
        (.cond (.tmp 9)
          .skip
          (.exit 0))
       (.seq
        (.block 1
          (.seq
           (.region false [⟨some 10, .mv (.tmp 8), none, []⟩,
             ⟨some 5, .mv (.tmp 10), none, []⟩] [10])
          (.seq
           (.region false [⟨some 11, .mv (.tmp 1), none, []⟩,
             ⟨some 12, .mv (.tmp 0), none, []⟩,
             ⟨some 13, .mv (.tmp 5), none, []⟩,
             ⟨some 14, .iadS 1 (.tmp 12) (.tmp 13), none, []⟩,
             ⟨some 15, .load1 (.tmp 14), none, []⟩,
             ⟨some 16, .call (.tmp 11) [(.tmp 15)], none, []⟩] [11, 12, 13, 14, 15])
          (.cond (.tmp 16)
            (.seq
             (.region false [⟨some 17, .mv (.tmp 5), none, []⟩,
               ⟨some 4, .mv (.tmp 17), none, []⟩] [17])
            .ret)
            .skip))))
       (.region false [⟨some 18, .bin .add (.tmp 8) (.const (.int .i64 1)), none, []⟩,
         ⟨some 8, .mv (.tmp 18), none, []⟩] [18])))))))
  (.seq
   (.region false [⟨some 4, .mv (.const (.int .i64 (-1))), none, []⟩] [])
  .ret)))
set_option maxRecDepth 100000 in
theorem kslices_IndexFunc_L_L_Jint_Kint_J : IsCode Try.prog 92 19 cslices_IndexFunc_L_L_Jint_Kint_J [.tmp 4] :=
  ⟨Try.f92, _, [16, 9, 0, 8, 7, 1, 5, 4], Try.func92, rfl, by decide, rfl, by kernel_rfl, by kernel_rfl⟩
/-- slices_ContainsFunc_L_L_Jint_Kint_J -/
def cslices_ContainsFunc_L_L_Jint_Kint_J : ACode :=
  (.seq
   (.region false [⟨some 4, .mv (.const (.bool false)), none, []⟩] [])
  (.seq
   (.region false [⟨some 5, .mv (.tmp 0), none, []⟩,
     ⟨some 6, .mv (.tmp 1), none, []⟩,
     ⟨some 7, .call (.func 92) [(.tmp 5), (.tmp 6)], none, []⟩,
     ⟨some 8, .bin .geq (.tmp 7) (.const (.int .i64 0)), none, []⟩,
     ⟨some 4, .mv (.tmp 8), none, []⟩] [5, 6, 7, 8])
  .ret))
set_option maxRecDepth 100000 in
theorem kslices_ContainsFunc_L_L_Jint_Kint_J : IsCode Try.prog 51 9 cslices_ContainsFunc_L_L_Jint_Kint_J [.tmp 4] :=
  ⟨Try.f51, _, [0, 1, 4], Try.func51, rfl, by decide, rfl, by kernel_rfl, by kernel_rfl⟩
end Go.Proofs.Ythohcimmoobaoaa
