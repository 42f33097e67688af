/- Texts of the laws, shared part 5. No conditions. -/
import Derived.Test.YthohcimmoobaoaaPLin04
import Derived.Test.YthohcimmoobaoaaRows
/- The functions' bodies, translated. Written by a program; no conditions. -/
namespace Go.Proofs.Ythohcimmoobaoaa
open Go.RowKit Lift

/-- sling_within -/
def csling_within : ACode :=
  (.seq
   (.region false [⟨some 6, .mv (.const (.bool false)), none, []⟩] [])
  (.seq
   (.region false [⟨some 7, .mv (.tmp 0), none, []⟩,
     ⟨some 8, .mv (.tmp 1), none, []⟩,
     ⟨some 9, .bin .geq (.tmp 7) (.tmp 8), none, []⟩,
     ⟨some 10, .mv (.tmp 9), none, []⟩,
     ⟨some 11, .mv (.tmp 0), (some (some 10, true)), []⟩,
     ⟨some 12, .mv (.tmp 2), (some (some 10, true)), []⟩,
     ⟨some 13, .bin .leq (.tmp 11) (.tmp 12), (some (some 10, true)), []⟩,
     ⟨some 14, .pick (.tmp 10) (.tmp 13) (.const (.bool false)), none, []⟩,
     ⟨some 6, .mv (.tmp 14), none, []⟩] [7, 8, 9, 10, 11, 12, 13, 14])
  .ret))
set_option maxRecDepth 100000 in
theorem ksling_within : IsCode Try.prog 53 15 csling_within [.tmp 6] :=
  ⟨Try.f53, _, [0, 1, 2, 6], Try.func53, rfl, by decide, rfl, by kernel_rfl, by kernel_rfl⟩
/-- ref07_within -/
def cref07_within : ACode :=
  (.seq
   (.region false [⟨some 6, .mv (.const (.bool false)), none, []⟩] [])
  (.seq
   (.region false [⟨some 7, .mv (.tmp 0), none, []⟩,
     ⟨some 8, .mv (.tmp 1), none, []⟩,
     ⟨some 9, .bin .geq (.tmp 7) (.tmp 8), none, []⟩,
     ⟨some 10, .mv (.tmp 9), none, []⟩,
     ⟨some 11, .mv (.tmp 0), (some (some 10, true)), []⟩,
     ⟨some 12, .mv (.tmp 2), (some (some 10, true)), []⟩,
     ⟨some 13, .bin .leq (.tmp 11) (.tmp 12), (some (some 10, true)), []⟩,
     ⟨some 14, .pick (.tmp 10) (.tmp 13) (.const (.bool false)), none, []⟩,
     ⟨some 6, .mv (.tmp 14), none, []⟩] [7, 8, 9, 10, 11, 12, 13, 14])
  .ret))
set_option maxRecDepth 100000 in
theorem kref07_within : IsCode Try.prog 56 15 cref07_within [.tmp 6] :=
  ⟨Try.f56, _, [0, 1, 2, 6], Try.func56, rfl, by decide, rfl, by kernel_rfl, by kernel_rfl⟩
/-- sling_Check -/
def csling_Check : ACode :=
  (.seq
   (.region false [⟨some 1, .box (.tmp 0), none, []⟩,
     ⟨some 2, .mv (.const (.int .i64 0)), none, []⟩] [])
  (.seq
   (.seq
    (.region false [⟨some 3, .fad 2 (.tmp 1), none, []⟩,
      ⟨some 4, .load1 (.tmp 3), none, []⟩,
      ⟨some 5, .call (.func 53) [(.tmp 4), (.const (.int .i64 1)), (.const (.int .i64 4))], none, []⟩,
      ⟨some 6, .un .not (.tmp 5), none, []⟩,
      ⟨some 7, .mv (.tmp 6), none, []⟩,
      ⟨some 8, .fad 0 (.tmp 1), (some (some 7, false)), []⟩,
      ⟨some 9, .load1 (.tmp 8), (some (some 7, false)), []⟩,
      ⟨some 10, .fad 2 (.tmp 1), (some (some 7, false)), []⟩,
      ⟨some 11, .load1 (.tmp 10), (some (some 7, false)), []⟩,
      ⟨some 12, .bin .mul (.const (.int .i64 2)) (.tmp 11), (some (some 7, false)), []⟩,
      ⟨some 13, .call (.func 53) [(.tmp 9), (.const (.int .i64 0)), (.tmp 12)], (some (some 7, false)), []⟩,
      ⟨some 14, .un .not (.tmp 13), (some (some 7, false)), []⟩,
      ⟨some 15, .pick (.tmp 7) (.const (.bool true)) (.tmp 14), none, []⟩,
      ⟨some 16, .mv (.tmp 15), none, []⟩,
      ⟨some 17, .fad 1 (.tmp 1), (some (some 16, false)), []⟩,
      ⟨some 18, .load1 (.tmp 17), (some (some 16, false)), []⟩,
      ⟨some 19, .fad 2 (.tmp 1), (some (some 16, false)), []⟩,
      ⟨some 20, .load1 (.tmp 19), (some (some 16, false)), []⟩,
      ⟨some 21, .call (.func 53) [(.tmp 18), (.const (.int .i64 0)), (.tmp 20)], (some (some 16, false)), []⟩,
      ⟨some 22, .un .not (.tmp 21), (some (some 16, false)), []⟩,
      ⟨some 23, .pick (.tmp 16) (.const (.bool true)) (.tmp 22), none, []⟩] [3, 4, 5, 6, 7, 8, 9, 10, 11, 12, 13, 14, 15, 16, 17, 18, 19, 20, 21, 22])
   (.cond (.tmp 23)
     (.seq
      (.region false [⟨some 2, .mv (.const (.int .i64 70)), none, []⟩] [])
     .ret)
     .skip))
  (.seq
   (.region false [⟨some 2, .mv (.const (.int .i64 0)), none, []⟩] [])
  .ret)))
set_option maxRecDepth 100000 in
theorem ksling_Check : IsCode Try.prog 25 24 csling_Check [.tmp 2] :=
  ⟨Try.f25, _, [23, 0, 1, 2], Try.func25, rfl, by decide, rfl, by kernel_rfl, by kernel_rfl⟩
/-- ref07_Check -/
def cref07_Check : ACode :=
  (.seq
   (.region false [⟨some 1, .box (.tmp 0), none, []⟩,
     ⟨some 2, .mv (.const (.int .i64 0)), none, []⟩] [])
  (.seq
   (.seq
    (.region false [⟨some 3, .fad 2 (.tmp 1), none, []⟩,
      ⟨some 4, .load1 (.tmp 3), none, []⟩,
      ⟨some 5, .call (.func 56) [(.tmp 4), (.const (.int .i64 1)), (.const (.int .i64 4))], none, []⟩,
      ⟨some 6, .un .not (.tmp 5), none, []⟩,
      ⟨some 7, .mv (.tmp 6), none, []⟩,
      ⟨some 8, .fad 0 (.tmp 1), (some (some 7, false)), []⟩,
      ⟨some 9, .load1 (.tmp 8), (some (some 7, false)), []⟩,
      ⟨some 10, .fad 2 (.tmp 1), (some (some 7, false)), []⟩,
      ⟨some 11, .load1 (.tmp 10), (some (some 7, false)), []⟩,
      ⟨some 12, .bin .mul (.const (.int .i64 2)) (.tmp 11), (some (some 7, false)), []⟩,
      ⟨some 13, .call (.func 56) [(.tmp 9), (.const (.int .i64 0)), (.tmp 12)], (some (some 7, false)), []⟩,
      ⟨some 14, .un .not (.tmp 13), (some (some 7, false)), []⟩,
      ⟨some 15, .pick (.tmp 7) (.const (.bool true)) (.tmp 14), none, []⟩,
      ⟨some 16, .mv (.tmp 15), none, []⟩,
      ⟨some 17, .fad 1 (.tmp 1), (some (some 16, false)), []⟩,
      ⟨some 18, .load1 (.tmp 17), (some (some 16, false)), []⟩,
      ⟨some 19, .fad 2 (.tmp 1), (some (some 16, false)), []⟩,
      ⟨some 20, .load1 (.tmp 19), (some (some 16, false)), []⟩,
      ⟨some 21, .call (.func 56) [(.tmp 18), (.const (.int .i64 0)), (.tmp 20)], (some (some 16, false)), []⟩,
      ⟨some 22, .un .not (.tmp 21), (some (some 16, false)), []⟩,
      ⟨some 23, .pick (.tmp 16) (.const (.bool true)) (.tmp 22), none, []⟩] [3, 4, 5, 6, 7, 8, 9, 10, 11, 12, 13, 14, 15, 16, 17, 18, 19, 20, 21, 22])
   (.cond (.tmp 23)
     (.seq
      (.region false [⟨some 2, .mv (.const (.int .i64 70)), none, []⟩] [])
     .ret)
     .skip))
  (.seq
   (.region false [⟨some 2, .mv (.const (.int .i64 0)), none, []⟩] [])
  .ret)))
set_option maxRecDepth 100000 in
theorem kref07_Check : IsCode Try.prog 17 24 cref07_Check [.tmp 2] :=
  ⟨Try.f17, _, [23, 0, 1, 2], Try.func17, rfl, by decide, rfl, by kernel_rfl, by kernel_rfl⟩
/-- sling_started -/
def csling_started : ACode :=
  (.seq
   (.region false [⟨some 1, .box (.tmp 0), none, []⟩,
     ⟨some 2, .mv (.const (.bool false)), none, []⟩] [])
  (.seq
   (.region false [⟨some 3, .iadA 2 1 (.tmp 1) (.const (.int .i64 0)), none, []⟩,
     ⟨some 4, .load1 (.tmp 3), none, []⟩,
     ⟨some 5, .call (.func 53) [(.tmp 4), (.const (.int .i64 (-1000))), (.const (.int .i64 1000))], none, []⟩,
     ⟨some 6, .mv (.tmp 5), none, []⟩,
     ⟨some 7, .iadA 2 1 (.tmp 1) (.const (.int .i64 1)), (some (some 6, true)), []⟩,
     ⟨some 8, .load1 (.tmp 7), (some (some 6, true)), []⟩,
     ⟨some 9, .call (.func 53) [(.tmp 8), (.const (.int .i64 (-1000))), (.const (.int .i64 1000))], (some (some 6, true)), []⟩,
     ⟨some 10, .pick (.tmp 6) (.tmp 9) (.const (.bool false)), none, []⟩,
     ⟨some 2, .mv (.tmp 10), none, []⟩] [3, 4, 5, 6, 7, 8, 9, 10])
  .ret))
set_option maxRecDepth 100000 in
theorem ksling_started : IsCode Try.prog 50 11 csling_started [.tmp 2] :=
  ⟨Try.f50, _, [0, 1, 2], Try.func50, rfl, by decide, rfl, by kernel_rfl, by kernel_rfl⟩
/-- sling_lowest -/
def csling_lowest : ACode :=
  (.seq
   (.region false [⟨some 4, .mem [(.val (.int .i64 0)), (.val (.int .i64 0))], none, []⟩] [])
  (.seq
   (.region false [⟨some 7, .mv (.tmp 0), none, []⟩,
     ⟨some 8, .mv (.tmp 0), none, []⟩,
     ⟨some 9, .un .neg (.tmp 8), none, []⟩,
     ⟨some 10, .mnx true [(.tmp 7), (.tmp 9)], none, []⟩,
     ⟨some 11, .mv (.tmp 1), none, []⟩,
     ⟨some 5, .mv (.tmp 10), none, []⟩,
     ⟨some 6, .mv (.tmp 11), none, []⟩] [7, 8, 9, 10, 11])
  (.seq
   (.block 0
     (.loop
       (.seq
        (.seq
         (.region false [⟨some 12, .mv (.tmp 6), none, []⟩,
           ⟨some 13, .bin .gtr (.tmp 12) (.const (.int .i64 0)), none, []⟩] [12])
        (.cond (.tmp 13)
          .skip
          (.exit 0)))
       (.block 1
         (.region true [⟨some 14, .mv (.tmp 6), none, []⟩,
           ⟨some 15, .mv (.tmp 5), none, []⟩,
           ⟨some 16, .mv (.tmp 6), none, []⟩,
           ⟨some 17, .bin .rem (.tmp 15) (.tmp 16), none, [1, 2]⟩,
           ⟨some 5, .mv (.tmp 14), none, [0, 1]⟩,
           ⟨some 6, .mv (.tmp 17), none, [3, 1, 2, 4, 0]⟩] [14, 15, 16, 17])))))
  (.seq
   (.region true [⟨some 18, .mv (.tmp 0), none, []⟩,
     ⟨some 19, .mv (.tmp 5), none, []⟩,
     ⟨some 20, .bin .quo (.tmp 18) (.tmp 19), none, [0, 1]⟩,
     ⟨some 21, .mv (.tmp 1), none, []⟩,
     ⟨some 22, .mv (.tmp 5), none, []⟩,
     ⟨some 23, .bin .quo (.tmp 21) (.tmp 22), none, [3, 4]⟩,
     ⟨some 24, .build [(.val (.int .i64 0)), (.val (.int .i64 0))] [(0, 1, (.tmp 20)), (1, 1, (.tmp 23))], none, [2, 0, 1, 5, 3, 4]⟩,
     ⟨none, .store 2 (.tmp 4) (.tmp 24), none, [6, 2, 0, 1, 5, 3, 4]⟩] [18, 19, 20, 21, 22, 23, 24])
  .ret))))
set_option maxRecDepth 100000 in
theorem ksling_lowest : IsCode Try.prog 80 25 csling_lowest [.cellN 4 2] :=
  ⟨Try.f80, _, [13, 0, 1, 6, 5, 4], Try.func80, rfl, by decide, rfl, by kernel_rfl, by kernel_rfl⟩
/-- psling_load_tick -/
def cpsling_load_tick : ACode :=
  (.seq
   (.region true [⟨some 4, .mv (.tmp 0), none, []⟩,
     ⟨some 5, .nilc (.tmp 4), none, [0]⟩,
     ⟨some 6, .fad 5 (.tmp 5), none, [1, 0]⟩,
     ⟨some 7, .load1 (.tmp 6), none, [2, 1, 0]⟩,
     ⟨some 8, .mv (.tmp 0), none, []⟩,
     ⟨some 9, .nilc (.tmp 8), none, [4]⟩,
     ⟨some 10, .fad 0 (.tmp 9), none, [5, 4]⟩,
     ⟨some 11, .fad 2 (.tmp 10), none, [6, 5, 4]⟩,
     ⟨some 12, .load1 (.tmp 11), none, [7, 6, 5, 4]⟩,
     ⟨some 13, .bin .mul (.tmp 7) (.tmp 12), none, [3, 2, 1, 0, 8, 7, 6, 5, 4]⟩,
     ⟨some 14, .nilc (.tmp 4), none, [0, 1, 2, 3, 4, 5, 6, 7, 8, 9]⟩,
     ⟨some 15, .fad 5 (.tmp 14), none, [10, 0, 1, 2, 3, 4, 5, 6, 7, 8, 9]⟩,
     ⟨none, .store 1 (.tmp 15) (.tmp 13), none, [11, 10, 0, 1, 2, 3, 4, 5, 6, 7, 8, 9]⟩] [4, 5, 6, 7, 8, 9, 10, 11, 12, 13, 14, 15])
  (.seq
   (.region true [⟨some 16, .mv (.tmp 0), none, []⟩,
     ⟨some 17, .mv (.tmp 0), none, []⟩,
     ⟨some 18, .nilc (.tmp 17), none, [1]⟩,
     ⟨some 19, .fad 0 (.tmp 18), none, [2, 1]⟩,
     ⟨some 20, .fad 2 (.tmp 19), none, [3, 2, 1]⟩,
     ⟨some 21, .load1 (.tmp 20), none, [4, 3, 2, 1]⟩,
     ⟨some 22, .mv (.tmp 0), none, []⟩,
     ⟨some 23, .nilc (.tmp 22), none, [6]⟩,
     ⟨some 24, .fad 4 (.tmp 23), none, [7, 6]⟩,
     ⟨some 25, .load1 (.tmp 24), none, [8, 7, 6]⟩,
     ⟨some 26, .bin .mul (.tmp 21) (.tmp 25), none, [5, 4, 3, 2, 1, 9, 8, 7, 6]⟩,
     ⟨some 27, .mv (.tmp 0), none, []⟩,
     ⟨some 28, .nilc (.tmp 27), none, [11]⟩,
     ⟨some 29, .fad 0 (.tmp 28), none, [12, 11]⟩,
     ⟨some 30, .fad 0 (.tmp 29), none, [13, 12, 11]⟩,
     ⟨some 31, .load1 (.tmp 30), none, [14, 13, 12, 11]⟩,
     ⟨some 32, .mv (.tmp 0), none, []⟩,
     ⟨some 33, .nilc (.tmp 32), none, [16]⟩,
     ⟨some 34, .fad 3 (.tmp 33), none, [17, 16]⟩,
     ⟨some 35, .load1 (.tmp 34), none, [18, 17, 16]⟩,
     ⟨some 36, .bin .mul (.tmp 31) (.tmp 35), none, [15, 14, 13, 12, 11, 19, 18, 17, 16]⟩,
     ⟨some 37, .bin .sub (.tmp 26) (.tmp 36), none, [10, 5, 4, 3, 2, 1, 9, 8, 7, 6, 20, 15, 14, 13, 12, 11, 19, 18, 17, 16]⟩,
     ⟨some 38, .mv (.tmp 0), none, []⟩,
     ⟨some 39, .nilc (.tmp 38), none, [22]⟩,
     ⟨some 40, .fad 0 (.tmp 39), none, [23, 22]⟩,
     ⟨some 41, .fad 1 (.tmp 40), none, [24, 23, 22]⟩,
     ⟨some 42, .load1 (.tmp 41), none, [25, 24, 23, 22]⟩,
     ⟨some 43, .mv (.tmp 0), none, []⟩,
     ⟨some 44, .nilc (.tmp 43), none, [27]⟩,
     ⟨some 45, .fad 4 (.tmp 44), none, [28, 27]⟩,
     ⟨some 46, .load1 (.tmp 45), none, [29, 28, 27]⟩,
     ⟨some 47, .bin .mul (.tmp 42) (.tmp 46), none, [26, 25, 24, 23, 22, 30, 29, 28, 27]⟩,
     ⟨some 48, .bin .sub (.tmp 37) (.tmp 47), none, [21, 10, 5, 4, 3, 2, 1, 9, 8, 7, 6, 20, 15, 14, 13, 12, 11, 19, 18, 17, 16, 31, 26, 25, 24, 23, 22, 30, 29, 28, 27]⟩,
     ⟨some 49, .mv (.tmp 1), none, []⟩,
     ⟨some 50, .mv (.tmp 0), none, []⟩,
     ⟨some 51, .nilc (.tmp 50), none, [34]⟩,
     ⟨some 52, .fad 5 (.tmp 51), none, [35, 34]⟩,
     ⟨some 53, .load1 (.tmp 52), none, [36, 35, 34]⟩,
     ⟨some 54, .bin .mul (.tmp 49) (.tmp 53), none, [33, 37, 36, 35, 34]⟩,
     ⟨some 55, .bin .add (.tmp 48) (.tmp 54), none, [32, 21, 10, 5, 4, 3, 2, 1, 9, 8, 7, 6, 20, 15, 14, 13, 12, 11, 19, 18, 17, 16, 31, 26, 25, 24, 23, 22, 30, 29, 28, 27, 38, 33, 37, 36, 35, 34]⟩,
     ⟨some 56, .nilc (.tmp 16), none, [0, 1, 2, 3, 4, 5, 6, 7, 8, 9, 10, 11, 12, 13, 14, 15, 16, 17, 18, 19, 20, 21, 22, 23, 24, 25, 26, 27, 28, 29, 30, 31, 32, 33, 34, 35, 36, 37, 38, 39]⟩,
     ⟨some 57, .fad 4 (.tmp 56), none, [40, 0, 1, 2, 3, 4, 5, 6, 7, 8, 9, 10, 11, 12, 13, 14, 15, 16, 17, 18, 19, 20, 21, 22, 23, 24, 25, 26, 27, 28, 29, 30, 31, 32, 33, 34, 35, 36, 37, 38, 39]⟩,
     ⟨none, .store 1 (.tmp 57) (.tmp 55), none, [41, 40, 0, 1, 2, 3, 4, 5, 6, 7, 8, 9, 10, 11, 12, 13, 14, 15, 16, 17, 18, 19, 20, 21, 22, 23, 24, 25, 26, 27, 28, 29, 30, 31, 32, 33, 34, 35, 36, 37, 38, 39]⟩] [16, 17, 18, 19, 20, 21, 22, 23, 24, 25, 26, 27, 28, 29, 30, 31, 32, 33, 34, 35, 36, 37, 38, 39, 40, 41, 42, 43, 44, 45, 46, 47, 48, 49, 50, 51, 52, 53, 54, 55, 56, 57])
  (.region true [⟨some 58, .mv (.tmp 0), none, []⟩,
    ⟨some 59, .mv (.tmp 0), none, []⟩,
    ⟨some 60, .nilc (.tmp 59), none, [1]⟩,
    ⟨some 61, .fad 0 (.tmp 60), none, [2, 1]⟩,
    ⟨some 62, .fad 2 (.tmp 61), none, [3, 2, 1]⟩,
    ⟨some 63, .load1 (.tmp 62), none, [4, 3, 2, 1]⟩,
    ⟨some 64, .mv (.tmp 0), none, []⟩,
    ⟨some 65, .nilc (.tmp 64), none, [6]⟩,
    ⟨some 66, .fad 3 (.tmp 65), none, [7, 6]⟩,
    ⟨some 67, .load1 (.tmp 66), none, [8, 7, 6]⟩,
    ⟨some 68, .bin .mul (.tmp 63) (.tmp 67), none, [5, 4, 3, 2, 1, 9, 8, 7, 6]⟩,
    ⟨some 69, .mv (.tmp 0), none, []⟩,
    ⟨some 70, .nilc (.tmp 69), none, [11]⟩,
    ⟨some 71, .fad 4 (.tmp 70), none, [12, 11]⟩,
    ⟨some 72, .load1 (.tmp 71), none, [13, 12, 11]⟩,
    ⟨some 73, .bin .add (.tmp 68) (.tmp 72), none, [10, 5, 4, 3, 2, 1, 9, 8, 7, 6, 14, 13, 12, 11]⟩,
    ⟨some 74, .nilc (.tmp 58), none, [0, 1, 2, 3, 4, 5, 6, 7, 8, 9, 10, 11, 12, 13, 14, 15]⟩,
    ⟨some 75, .fad 3 (.tmp 74), none, [16, 0, 1, 2, 3, 4, 5, 6, 7, 8, 9, 10, 11, 12, 13, 14, 15]⟩,
    ⟨none, .store 1 (.tmp 75) (.tmp 73), none, [17, 16, 0, 1, 2, 3, 4, 5, 6, 7, 8, 9, 10, 11, 12, 13, 14, 15]⟩] [58, 59, 60, 61, 62, 63, 64, 65, 66, 67, 68, 69, 70, 71, 72, 73, 74, 75])))
set_option maxRecDepth 100000 in
theorem kpsling_load_tick : IsCode Try.prog 54 76 cpsling_load_tick [] :=
  ⟨Try.f54, _, [0, 1], Try.func54, rfl, by decide, rfl, by kernel_rfl, by kernel_rfl⟩
/-- psling_load_place -/
def cpsling_load_place : ACode :=
  (.seq
   (.region false [⟨some 2, .mem [(.val (.int .i64 0)), (.val (.int .i64 0))], none, []⟩] [])
  (.seq
   (.region true [⟨some 3, .mv (.tmp 0), none, []⟩,
     ⟨some 4, .nilc (.tmp 3), none, [0]⟩,
     ⟨some 5, .fad 3 (.tmp 4), none, [1, 0]⟩,
     ⟨some 6, .load1 (.tmp 5), none, [2, 1, 0]⟩,
     ⟨some 7, .mv (.tmp 0), none, []⟩,
     ⟨some 8, .nilc (.tmp 7), none, [4]⟩,
     ⟨some 9, .fad 5 (.tmp 8), none, [5, 4]⟩,
     ⟨some 10, .load1 (.tmp 9), none, [6, 5, 4]⟩,
     ⟨some 11, .call (.func 80) [(.tmp 6), (.tmp 10)], none, [3, 2, 1, 0, 7, 6, 5, 4]⟩,
     ⟨none, .store 2 (.tmp 2) (.tmp 11), none, [8, 3, 2, 1, 0, 7, 6, 5, 4]⟩] [3, 4, 5, 6, 7, 8, 9, 10, 11])
  .ret))
set_option maxRecDepth 100000 in
theorem kpsling_load_place : IsCode Try.prog 55 12 cpsling_load_place [.cellN 2 2] :=
  ⟨Try.f55, _, [0, 2], Try.func55, rfl, by decide, rfl, by kernel_rfl, by kernel_rfl⟩
/-- sling_Swing_S1 -/
def csling_Swing_S1 : ACode :=
  (.seq
   (.region false [⟨some 2, .mv (.const (.bool false)), none, []⟩] [])
  (.seq
   (.region false [⟨some 3, .mv (.tmp 0), none, []⟩,
     ⟨some 4, .call (.func 53) [(.tmp 3), (.const (.int .i64 (-100))), (.const (.int .i64 100))], none, []⟩,
     ⟨some 5, .un .not (.tmp 4), none, []⟩,
     ⟨some 2, .mv (.tmp 5), none, []⟩] [3, 4, 5])
  .ret))
set_option maxRecDepth 100000 in
theorem ksling_Swing_S1 : IsCode Try.prog 52 6 csling_Swing_S1 [.tmp 2] :=
  ⟨Try.f52, _, [0, 2], Try.func52, rfl, by decide, rfl, by kernel_rfl, by kernel_rfl⟩
/-- law07_fraction -/
def claw07_fraction : ACode :=
  (.seq
   (.region false [⟨some 1, .box (.tmp 0), none, []⟩,
     ⟨some 2, .mv (.const (.bool false)), none, []⟩] [])
  (.seq
   (.region false [⟨some 3, .iadA 2 1 (.tmp 1) (.const (.int .i64 1)), none, []⟩,
     ⟨some 4, .load1 (.tmp 3), none, []⟩,
     ⟨some 5, .bin .gtr (.tmp 4) (.const (.int .i64 0)), none, []⟩,
     ⟨some 2, .mv (.tmp 5), none, []⟩] [3, 4, 5])
  .ret))
set_option maxRecDepth 100000 in
theorem klaw07_fraction : IsCode Try.prog 18 6 claw07_fraction [.tmp 2] :=
  ⟨Try.f18, _, [0, 1, 2], Try.func18, rfl, by decide, rfl, by kernel_rfl, by kernel_rfl⟩
/-- law07_sameFractions -/
def claw07_sameFractions : ACode :=
  (.seq
   (.region false [⟨some 4, .mv (.const (.bool false)), none, []⟩] [])
  (.seq
   (.seq
    (.region false [⟨some 6, .mv (.tmp 0), none, []⟩,
      ⟨some 7, .len_ (.tmp 6), none, []⟩,
      ⟨some 8, .mv (.tmp 1), none, []⟩,
      ⟨some 9, .len_ (.tmp 8), none, []⟩,
      ⟨some 10, .bin .neq (.tmp 7) (.tmp 9), none, []⟩] [6, 7, 8, 9])
   (.cond (.tmp 10)
     (.seq
      (.region false [⟨some 4, .mv (.const (.bool false)), none, []⟩] [])
     .ret)
     .skip))
  (.seq
   (.seq
    (.region false [⟨some 5, .mv (.const (.int .i64 0)), none, []⟩] [])
   (.block 0
     (.loop
       (.seq
        (.seq
         (.region false [⟨some 11, .mv (.tmp 5), none, []⟩,
           ⟨some 12, .mv (.tmp 0), none, []⟩,
           ⟨some 13, .len_ (.tmp 12), none, []⟩,
           ⟨some 14, .bin .lss (.tmp 11) (.tmp 13), none, []⟩] [11, 12, 13])
        (.cond (.tmp 14)
          .skip
          (.exit 0)))
       (.seq
        (.block 1
          (.seq
           (.region true [⟨some 17, .mv (.tmp 0), none, []⟩,
             ⟨some 18, .mv (.tmp 5), none, []⟩,
             ⟨some 19, .iadS 2 (.tmp 17) (.tmp 18), none, [0, 1]⟩,
             ⟨some 20, .loadN 2 (.tmp 19), none, [2, 0, 1]⟩,
             ⟨some 21, .mv (.tmp 1), none, []⟩,
             ⟨some 22, .mv (.tmp 5), none, []⟩,
             ⟨some 23, .iadS 2 (.tmp 21) (.tmp 22), none, [4, 5]⟩,
             ⟨some 24, .loadN 2 (.tmp 23), none, [6, 4, 5]⟩,
             ⟨some 25, .eqa true [false, false] (.tmp 20) (.tmp 24), none, [3, 2, 0, 1, 7, 6, 4, 5]⟩] [17, 18, 19, 20, 21, 22, 23, 24])
          (.cond (.tmp 25)
            (.seq
             (.region false [⟨some 4, .mv (.const (.bool false)), none, []⟩] [])
            .ret)
            .skip)))
       (.region false [⟨some 15, .mv (.tmp 5), none, []⟩,
         ⟨some 16, .bin .add (.tmp 15) (.const (.int .i64 1)), none, []⟩,
         ⟨some 5, .mv (.tmp 16), none, []⟩] [15, 16]))))))
  (.seq
   (.region false [⟨some 4, .mv (.const (.bool true)), none, []⟩] [])
  .ret))))
set_option maxRecDepth 100000 in
theorem klaw07_sameFractions : IsCode Try.prog 27 26 claw07_sameFractions [.tmp 4] :=
  ⟨Try.f27, _, [25, 14, 10, 0, 1, 5, 4], Try.func27, rfl, by decide, rfl, by kernel_rfl, by kernel_rfl⟩
/-- slices_IndexFunc_L_L_Jint_Kint_J -/
def cslices_IndexFunc_L_L_Jint_Kint_J : ACode :=
  (.seq
   (.region false [⟨some 4, .mv (.const (.int .i64 0)), none, []⟩] [])
  (.seq
   (.seq
    (.region false [⟨some 6, .mv (.tmp 0), none, []⟩,
      ⟨some 7, .len_ (.tmp 6), none, []⟩,
      ⟨some 8, .mv (.const (.int .i64 0)), none, []⟩] [6])
   (.block 0
     (.loop
       (.seq
        (.region false [⟨some 9, .bin .lss (.tmp 8) (.tmp 7), none, []⟩] [])
       (.seq
        (.cond (.tmp 9)
          .skip
          (.exit 0))
       (.seq
        (.block 1
          (.seq
           (.region false [⟨some 10, .mv (.tmp 8), none, []⟩,
             ⟨some 5, .mv (.tmp 10), none, []⟩] [10])
          (.seq
           (.region false [⟨some 11, .mv (.tmp 1), none, []⟩,
             ⟨some 12, .mv (.tmp 0), none, []⟩,
             ⟨some 13, .mv (.tmp 5), none, []⟩,
             ⟨some 14, .iadS 1 (.tmp 12) (.tmp 13), none, []⟩,
             ⟨some 15, .load1 (.tmp 14), none, []⟩,
             ⟨some 16, .call (.tmp 11) [(.tmp 15)], none, []⟩] [11, 12, 13, 14, 15])
          (.cond (.tmp 16)
            (.seq
             (.region false [⟨some 17, .mv (.tmp 5), none, []⟩,
               ⟨some 4, .mv (.tmp 17), none, []⟩] [17])
            .ret)
            .skip))))
       (.region false [⟨some 18, .bin .add (.tmp 8) (.const (.int .i64 1)), none, []⟩,
         ⟨some 8, .mv (.tmp 18), none, []⟩] [18])))))))
  (.seq
   (.region false [⟨some 4, .mv (.const (.int .i64 (-1))), none, []⟩] [])
  .ret)))
set_option maxRecDepth 100000 in
theorem kslices_IndexFunc_L_L_Jint_Kint_J : IsCode Try.prog 92 19 cslices_IndexFunc_L_L_Jint_Kint_J [.tmp 4] :=
  ⟨Try.f92, _, [16, 9, 0, 8, 7, 1, 5, 4], Try.func92, rfl, by decide, rfl, by kernel_rfl, by kernel_rfl⟩
/-- slices_ContainsFunc_L_L_Jint_Kint_J -/
def cslices_ContainsFunc_L_L_Jint_Kint_J : ACode :=
  (.seq
   (.region false [⟨some 4, .mv (.const (.bool false)), none, []⟩] [])
  (.seq
   (.region false [⟨some 5, .mv (.tmp 0), none, []⟩,
     ⟨some 6, .mv (.tmp 1), none, []⟩,
     ⟨some 7, .call (.func 92) [(.tmp 5), (.tmp 6)], none, []⟩,
     ⟨some 8, .bin .geq (.tmp 7) (.const (.int .i64 0)), none, []⟩,
     ⟨some 4, .mv (.tmp 8), none, []⟩] [5, 6, 7, 8])
  .ret))
set_option maxRecDepth 100000 in
theorem kslices_ContainsFunc_L_L_Jint_Kint_J : IsCode Try.prog 51 9 cslices_ContainsFunc_L_L_Jint_Kint_J [.tmp 4] :=
  ⟨Try.f51, _, [0, 1, 4], Try.func51, rfl, by decide, rfl, by kernel_rfl, by kernel_rfl⟩
end Go.Proofs.Ythohcimmoobaoaa
/- Calls that change objects, checked by computing. No conditions. -/
namespace Go.Proofs.Ythohcimmoobaoaa.Lift
open Go Go.RowKit

theorem aw_condT {rd : Bool} {P : Program} {n : Nat} {pre : List Nat} {Q : AExit → St → Prop} {s : St} {c : Operand} {x y : ACode} (hb : s.F.ev c = .val (.bool true)) (h : AWb rd P n pre x Q s) : AWb rd P n pre (.cond c x y) Q s := aw_cond hb (fun _ => h) (fun h => nomatch h)
theorem aw_condF {rd : Bool} {P : Program} {n : Nat} {pre : List Nat} {Q : AExit → St → Prop} {s : St} {c : Operand} {x y : ACode} (hb : s.F.ev c = .val (.bool false)) (h : AWb rd P n pre y Q s) : AWb rd P n pre (.cond c x y) Q s := aw_cond hb (fun h => nomatch h) (fun _ => h)
def HasAll (hp : Hp) : Hp → Prop
  | [] => True
  | x :: l => hget hp x.1 = some x.2 ∧ HasAll hp l
theorem HasAll.get {hp : Hp} : ∀ {h : Hp}, HasAll hp h → ∀ x ∈ h, hget hp x.1 = some x.2
  | [], _, x, hx => by simp at hx
  | y :: l, h, x, hx => by
    rcases List.mem_cons.1 hx with rfl | hx
    · exact h.1
    · exact HasAll.get h.2 x hx
def newOk (hp h : Hp) (up : Ups) : Bool := up.all fun x => (h.map (·.1)).contains x.1 || (hget hp x.1).isNone
theorem newOk_get {hp h : Hp} {up : Ups} (hk : newOk hp h up = true) : ∀ g ∈ up.map (·.1), g ∉ h.map (·.1) → hget hp g = none := fun g hg hn => by
  obtain ⟨x, hx, rfl⟩ := List.mem_map.1 hg
  have := List.all_eq_true.1 hk x hx
  simp only [Bool.or_eq_true, List.contains_iff_mem, Option.isNone_iff_eq_none] at this
  exact this.resolve_left hn
theorem vr_valq {H : Heap} {V : List Nat} {m : List (Nat × Nat)} {v v' : Value} (h : v = v') : VR H V m (.val v) (.val v') := h ▸ vr_val v
theorem vr_listq {H : Heap} {V : List Nat} {m : List (Nat × Nat)} {l l' : List (List D)} (h : l = l') : VR H V m (.list l) (.list l') := h ▸ vr_list l
section
variable {P : Program} {dr : Bool} {b : Nat} {Q : St → Prop} {dst : Option Nat} {anc : List Nat} {l : List AOper} {k : Nat} {s : St} {log : Lg}
theorem acallB {f : FuncId} {first caps args : List D} {d : D} {h : Hp} {up : Ups} (hA : AC P f (first ++ args ++ caps) h up d) (hh : HasAll s.hp h) (hf : newOk s.hp h up = true) (hn : okNew s.hp (b + 8 * k) (up.map (·.1)) = true)
    (hl : okLog dr log anc (h.map (·.1) ++ []) (up.map (·.1)) = true) (hK : ARun P dr b Q l (k + 1) (s.app dst d up) ((k, h.map (·.1) ++ [], up.map (·.1)) :: log)) : ACallK P dr b Q (.fn f first caps) args dst anc l k s log :=
  acallH hA [] (VwL.refl _) (.inl rfl) (by simp) (by simp) hh.get (newOk_get hf) hn hl hK
end
end Go.Proofs.Ythohcimmoobaoaa.Lift
/- Loads that swing, in numbers: bounds, sums, lowest terms. No conditions. -/
namespace Go.Proofs.Ythohcimmoobaoaa

structure Slg where
  num : Int
  damp : Int
  den : Int
structure OkS (s : Slg) : Prop where
  d1 : 1 ≤ s.den
  d2 : s.den ≤ 4
  n1 : 0 ≤ s.num
  n2 : s.num ≤ 2 * s.den
  p1 : 0 ≤ s.damp
  p2 : s.damp ≤ s.den
def tk (s : Slg) (x : Int × Int × Int) (g : Int) : Int × Int × Int :=
  (s.den * x.1 + (s.den * x.2.1 - s.num * x.1 - s.damp * x.2.1 + g * (x.2.2 * s.den)), s.den * x.2.1 - s.num * x.1 - s.damp * x.2.1 + g * (x.2.2 * s.den), x.2.2 * s.den)
def run (s : Slg) (x : Int × Int × Int) (gs : List Int) : Int × Int × Int := gs.foldl (tk s) x
/-- what displacement and speed at the start do behind so many ticks, from a row of a matrix on -/
def pq (s : Slg) (z : Int × Int) : Nat → Int × Int
  | 0 => z
  | n + 1 => ((pq s z n).1 * (s.den - s.num) - (pq s z n).2 * s.num, ((pq s z n).1 + (pq s z n).2) * (s.den - s.damp))
def gK (s : Slg) (z : Int × Int) : List Int → Int
  | [] => 0
  | g :: gs => s.den * (g * ((pq s z gs.length).1 + (pq s z gs.length).2) + gK s z gs)
theorem run_lin (s : Slg) (z : Int × Int) : ∀ (gs : List Int) (a v d : Int), z.1 * (run s (a, v, d) gs).1 + z.2 * (run s (a, v, d) gs).2.1 = (pq s z gs.length).1 * a + (pq s z gs.length).2 * v + d * gK s z gs
  | [], a, v, d => by simp [run, pq, gK]
  | g :: gs, a, v, d => by
    have ih := run_lin s z gs (tk s (a, v, d) g).1 (tk s (a, v, d) g).2.1 (tk s (a, v, d) g).2.2
    have e : run s (a, v, d) (g :: gs) = run s ((tk s (a, v, d) g).1, (tk s (a, v, d) g).2.1, (tk s (a, v, d) g).2.2) gs := rfl
    rw [e, ih, List.length_cons]
    simp only [pq, gK, tk]
    generalize (pq s z gs.length).1 = p
    generalize (pq s z gs.length).2 = q
    generalize gK s z gs = k
    grind
theorem run_den (s : Slg) : ∀ (gs : List Int) (a v d : Int), (run s (a, v, d) gs).2.2 = d * s.den ^ gs.length
  | [], a, v, d => by simp [run]
  | g :: gs, a, v, d => by
    have ih := run_den s gs (tk s (a, v, d) g).1 (tk s (a, v, d) g).2.1 (tk s (a, v, d) g).2.2
    have e : run s (a, v, d) (g :: gs) = run s ((tk s (a, v, d) g).1, (tk s (a, v, d) g).2.1, (tk s (a, v, d) g).2.2) gs := rfl
    rw [e, ih, List.length_cons, Int.pow_succ]
    simp only [tk]
    rw [Int.mul_assoc, Int.mul_comm s.den]
def ab (x : Int) : Int := if x < 0 then -x else x
def gB (s : Slg) (z : Int × Int) : Nat → Int
  | 0 => 0
  | n + 1 => s.den * (100 * ab ((pq s z n).1 + (pq s z n).2) + gB s z n)
theorem ab_mul {g p : Int} (h1 : -100 ≤ g) (h2 : g ≤ 100) : -(100 * ab p) ≤ g * p ∧ g * p ≤ 100 * ab p := by
  unfold ab
  split
  · have a1 := Int.mul_nonneg (by omega : 0 ≤ 100 - g) (by omega : 0 ≤ -p)
    have a2 := Int.mul_nonneg (by omega : 0 ≤ 100 + g) (by omega : 0 ≤ -p)
    simp only [Int.sub_mul, Int.add_mul, Int.mul_neg] at a1 a2
    omega
  · have a1 := Int.mul_nonneg (by omega : 0 ≤ 100 - g) (by omega : 0 ≤ p)
    have a2 := Int.mul_nonneg (by omega : 0 ≤ 100 + g) (by omega : 0 ≤ p)
    simp only [Int.sub_mul, Int.add_mul] at a1 a2
    omega
theorem ab_mulK {g p : Int} (h1 : -1000 ≤ g) (h2 : g ≤ 1000) : -(1000 * ab p) ≤ p * g ∧ p * g ≤ 1000 * ab p := by
  rw [Int.mul_comm p g]
  unfold ab
  split
  · have a1 := Int.mul_nonneg (by omega : 0 ≤ 1000 - g) (by omega : 0 ≤ -p)
    have a2 := Int.mul_nonneg (by omega : 0 ≤ 1000 + g) (by omega : 0 ≤ -p)
    simp only [Int.sub_mul, Int.add_mul, Int.mul_neg] at a1 a2
    omega
  · have a1 := Int.mul_nonneg (by omega : 0 ≤ 1000 - g) (by omega : 0 ≤ p)
    have a2 := Int.mul_nonneg (by omega : 0 ≤ 1000 + g) (by omega : 0 ≤ p)
    simp only [Int.sub_mul, Int.add_mul] at a1 a2
    omega
def GustsOk (gs : List Int) : Prop := ∀ g ∈ gs, -100 ≤ g ∧ g ≤ 100
theorem gK_le {s : Slg} (hs : OkS s) (z : Int × Int) : ∀ gs : List Int, GustsOk gs → -(gB s z gs.length) ≤ gK s z gs ∧ gK s z gs ≤ gB s z gs.length
  | [], _ => by simp [gB, gK]
  | g :: gs, h => by
    have ih := gK_le hs z gs fun x hx => h x (List.mem_cons_of_mem _ hx)
    have hg := h g (List.mem_cons_self ..)
    have hm := ab_mul (p := (pq s z gs.length).1 + (pq s z gs.length).2) hg.1 hg.2
    rw [List.length_cons]
    simp only [gB, gK]
    generalize (pq s z gs.length).1 + (pq s z gs.length).2 = p at *
    generalize gK s z gs = k at *
    generalize gB s z gs.length = b at *
    generalize g * p = gp at *
    generalize 100 * ab p = pb at *
    have hd := hs.d1
    generalize s.den = d at *
    have a1 := Int.mul_nonneg (by omega : 0 ≤ d) (by omega : 0 ≤ (pb + b) - (gp + k))
    have a2 := Int.mul_nonneg (by omega : 0 ≤ d) (by omega : 0 ≤ (pb + b) + (gp + k))
    rw [Int.mul_sub] at a1
    rw [Int.mul_add] at a2
    omega
def capN : Int := 1000000000000000
def fine1 (s : Slg) (n : Nat) : Bool := decide (1000 * (ab (pq s (1, 0) n).1 + ab (pq s (1, 0) n).2) + gB s (1, 0) n ≤ capN) && decide (1000 * (ab (pq s (0, 1) n).1 + ab (pq s (0, 1) n).2) + gB s (0, 1) n ≤ capN)
def fineAll : Bool := (List.range 4).all fun d => (List.range (2 * (d + 1) + 1)).all fun n => (List.range (d + 2)).all fun p => (List.range 17).all fun k => fine1 ⟨n, p, d + 1⟩ k
theorem fine_all : fineAll = true := by decide +kernel
theorem fine_get {s : Slg} (hs : OkS s) {n : Nat} (hn : n ≤ 16) : fine1 s n = true := by
  obtain ⟨h1, h2, h3, h4, h5, h6⟩ := hs
  obtain ⟨num, damp, den⟩ := s
  simp only at *
  have h := fine_all
  unfold fineAll at h
  simp only [List.all_eq_true, List.mem_range] at h
  have := h (den.toNat - 1) (by omega) num.toNat (by omega) damp.toNat (by omega) n (by omega)
  have e1 : (num.toNat : Int) = num := by omega
  have e2 : (damp.toNat : Int) = damp := by omega
  have e3 : ((den.toNat - 1 : Nat) : Int) + 1 = den := by omega
  rwa [e1, e2, e3] at this
theorem run_le {s : Slg} (hs : OkS s) {gs : List Int} (hg : GustsOk gs) (hn : gs.length ≤ 16) {a v : Int} (a1 : -1000 ≤ a) (a2 : a ≤ 1000) (v1 : -1000 ≤ v) (v2 : v ≤ 1000) :
    (-capN ≤ (run s (a, v, 1) gs).1 ∧ (run s (a, v, 1) gs).1 ≤ capN) ∧ -capN ≤ (run s (a, v, 1) gs).2.1 ∧ (run s (a, v, 1) gs).2.1 ≤ capN := by
  have hf := fine_get hs hn
  simp only [fine1, Bool.and_eq_true, decide_eq_true_eq] at hf
  have l1 := run_lin s (1, 0) gs a v 1
  have l2 := run_lin s (0, 1) gs a v 1
  have k1 := gK_le hs (1, 0) gs hg
  have k2 := gK_le hs (0, 1) gs hg
  have b1 := ab_mulK (p := (pq s (1, 0) gs.length).1) a1 a2
  have b2 := ab_mulK (p := (pq s (1, 0) gs.length).2) v1 v2
  have b3 := ab_mulK (p := (pq s (0, 1) gs.length).1) a1 a2
  have b4 := ab_mulK (p := (pq s (0, 1) gs.length).2) v1 v2
  simp only [Int.one_mul, Int.zero_mul, Int.add_zero, Int.zero_add] at l1 l2
  omega
theorem den_le {s : Slg} (hs : OkS s) : ∀ n : Nat, 1 ≤ s.den ^ n ∧ s.den ^ n ≤ 4 ^ n
  | 0 => by simp
  | n + 1 => by
    have ih := den_le hs n
    have h1 := hs.d1
    have h2 := hs.d2
    rw [Int.pow_succ, Int.pow_succ]
    generalize s.den ^ n = x at *
    generalize (4 : Int) ^ n = y at *
    generalize s.den = d at *
    have a1 := Int.mul_nonneg (by omega : 0 ≤ x - 1) (by omega : 0 ≤ d)
    have a2 := Int.mul_nonneg (by omega : 0 ≤ y) (by omega : 0 ≤ 4 - d)
    have a3 := Int.mul_nonneg (by omega : 0 ≤ y - x) (by omega : 0 ≤ d)
    rw [Int.sub_mul] at a1 a3
    rw [Int.mul_sub] at a2
    omega
theorem four_le : ∀ n : Nat, n ≤ 16 → (4 : Int) ^ n ≤ 4294967296 := by
  intro n hn
  have : ∀ k : Fin 17, (4 : Int) ^ k.1 ≤ 4294967296 := by decide
  exact this ⟨n, by omega⟩
theorem den_cap {s : Slg} (hs : OkS s) {n : Nat} (hn : n ≤ 16) : 1 ≤ s.den ^ n ∧ s.den ^ n ≤ 4294967296 := by
  have := den_le hs n
  have := four_le n hn
  omega
/-! ### sums of swings -/
theorem tk_add (s : Slg) (a v b u d g h : Int) : tk s (a + b, v + u, d) (g + h) = ((tk s (a, v, d) g).1 + (tk s (b, u, d) h).1, (tk s (a, v, d) g).2.1 + (tk s (b, u, d) h).2.1, d * s.den) := by
  simp only [tk, Prod.mk.injEq, and_true]
  constructor <;> grind
theorem run_add (s : Slg) : ∀ (gs hs : List Int), gs.length = hs.length → ∀ (a v b u d : Int), run s (a + b, v + u, d) (List.zipWith (· + ·) gs hs) = ((run s (a, v, d) gs).1 + (run s (b, u, d) hs).1, (run s (a, v, d) gs).2.1 + (run s (b, u, d) hs).2.1, (run s (a, v, d) gs).2.2)
  | [], [], _, a, v, b, u, d => rfl
  | [], _ :: _, h, _, _, _, _, _ => by simp at h
  | _ :: _, [], h, _, _, _, _, _ => by simp at h
  | g :: gs, h :: hs, hl, a, v, b, u, d => by
    have e : run s (a + b, v + u, d) (List.zipWith (· + ·) (g :: gs) (h :: hs)) = run s (tk s (a + b, v + u, d) (g + h)) (List.zipWith (· + ·) gs hs) := rfl
    rw [e, tk_add]
    exact run_add s gs hs (by simpa using hl) _ _ _ _ _
theorem run_neg (s : Slg) : ∀ (gs : List Int) (a v d : Int), run s (-a, -v, d) (gs.map (fun g => -g)) = (-(run s (a, v, d) gs).1, -(run s (a, v, d) gs).2.1, (run s (a, v, d) gs).2.2)
  | [], a, v, d => rfl
  | g :: gs, a, v, d => by
    have e : run s (-a, -v, d) ((g :: gs).map (fun g => -g)) = run s (tk s (-a, -v, d) (-g)) (gs.map (fun g => -g)) := rfl
    have t : tk s (-a, -v, d) (-g) = (-(tk s (a, v, d) g).1, -(tk s (a, v, d) g).2.1, (tk s (a, v, d) g).2.2) := by
      simp only [tk, Prod.mk.injEq, and_true]
      constructor <;> grind
    rw [e, t]
    exact run_neg s gs _ _ _
theorem run_take (s : Slg) (x : Int × Int × Int) (gs : List Int) (k : Nat) (h : k < gs.length) : run s x (gs.take (k + 1)) = tk s (run s x (gs.take k)) (gs[k]?.getD 0) := by
  unfold run
  rw [← List.take_append_getElem h, List.foldl_append]
  simp [h]
/-! ### lowest terms -/
def gc (num den : Int) : Int := (Int.gcd num den : Int)
def lowF (num den : Int) : Int × Int := (num / gc num den, den / gc num den)
theorem gc_pos {num den : Int} (h : 1 ≤ den) : 1 ≤ gc num den := by
  have : 0 < Int.gcd num den := Int.gcd_pos_of_ne_zero_right _ (by omega)
  unfold gc; omega
theorem gc_num (num den : Int) : num / gc num den * gc num den = num := Int.ediv_mul_cancel (Int.gcd_dvd_left ..)
theorem gc_den (num den : Int) : den / gc num den * gc num den = den := Int.ediv_mul_cancel (Int.gcd_dvd_right ..)
theorem dv_den {q g den : Int} (h1 : 1 ≤ g) (h2 : q * g = den) (h : 1 ≤ den) : 1 ≤ q ∧ q ≤ den := by
  have hq : 1 ≤ q := by
    by_cases hq : 1 ≤ q
    · exact hq
    · have := Int.mul_nonneg (by omega : 0 ≤ -q) (by omega : 0 ≤ g)
      rw [Int.neg_mul] at this
      omega
  have := Int.mul_nonneg (by omega : 0 ≤ q) (by omega : 0 ≤ g - 1)
  rw [Int.mul_sub] at this
  omega
theorem lowF_den {num den : Int} (h : 1 ≤ den) : 1 ≤ (lowF num den).2 ∧ (lowF num den).2 ≤ den := dv_den (gc_pos h) (gc_den num den) h
theorem lowF_num {num den B : Int} (h : 1 ≤ den) (h1 : -B ≤ num) (h2 : num ≤ B) : -B ≤ (lowF num den).1 ∧ (lowF num den).1 ≤ B := by
  have hg := gc_pos (num := num) h
  have h3 := gc_num num den
  show -B ≤ num / gc num den ∧ num / gc num den ≤ B
  have h0 : 0 ≤ B := by omega
  generalize num / gc num den = q at *
  generalize gc num den = g at *
  by_cases hq : 0 ≤ q
  · have := Int.mul_nonneg hq (by omega : 0 ≤ g - 1)
    rw [Int.mul_sub] at this
    omega
  · have := Int.mul_nonneg (by omega : 0 ≤ -q) (by omega : 0 ≤ g - 1)
    rw [Int.mul_sub, Int.neg_mul] at this
    omega
theorem dv_is {q g den : Int} (h2 : q * g = den) (hq : 1 ≤ q) : den / q = g ∧ den % q = 0 := by
  subst h2
  exact ⟨Int.mul_ediv_cancel_left _ (by omega), Int.mul_emod_right _ _⟩
/-- the denominator of all, divided by a fraction's -/
theorem lowF_dv {num den : Int} (h : 1 ≤ den) : den % (lowF num den).2 = 0 ∧ den / (lowF num den).2 = gc num den ∧ (lowF num den).1 * (den / (lowF num den).2) = num := by
  have h3 := dv_is (gc_den num den) (lowF_den (num := num) h).1
  have h4 := gc_num num den
  refine ⟨h3.2, h3.1, ?_⟩
  show num / gc num den * (den / (lowF num den).2) = num
  rw [show den / (lowF num den).2 = gc num den from h3.1]
  exact h4
theorem lowF_neg (num den : Int) : lowF (-num) den = (-(lowF num den).1, (lowF num den).2) := by
  unfold lowF gc
  rw [Int.neg_gcd]
  simp only [Prod.mk.injEq, and_true]
  exact Int.neg_ediv_of_dvd (Int.gcd_dvd_left ..)
/-- the loop that finds the greatest divisor -/
theorem gcd_step {a b : Int} : Int.gcd b (a % b) = Int.gcd a b := by
  rw [Int.gcd_comm b]
  apply Nat.dvd_antisymm
  · refine Int.dvd_gcd ?_ ?_
    · have h1 : ((Int.gcd (a % b) b : Nat) : Int) ∣ a % b := Int.gcd_dvd_left ..
      have h2 : ((Int.gcd (a % b) b : Nat) : Int) ∣ b := Int.gcd_dvd_right ..
      have := Int.dvd_add h1 (Int.dvd_mul_of_dvd_left (c := a / b) h2)
      rwa [Int.emod_add_mul_ediv] at this
    · exact Int.gcd_dvd_right ..
  · refine Int.dvd_gcd ?_ ?_
    · have h1 : ((Int.gcd a b : Nat) : Int) ∣ a := Int.gcd_dvd_left ..
      have h2 : ((Int.gcd a b : Nat) : Int) ∣ b := Int.gcd_dvd_right ..
      have := Int.dvd_sub h1 (Int.dvd_mul_of_dvd_left (c := a / b) h2)
      have e := Int.emod_add_mul_ediv a b
      have e2 : a - b * (a / b) = a % b := by omega
      rwa [e2] at this
    · exact Int.gcd_dvd_right ..
theorem gcd_start (num den : Int) : Int.gcd (if -num > num then -num else num) den = Int.gcd num den := by
  split
  · rw [Int.neg_gcd]
  · rfl
theorem gcd_end {a : Int} (h : 0 ≤ a) : ((Int.gcd a 0 : Nat) : Int) = a := by
  rw [Int.gcd_zero_right]; omega
theorem tdiv_num (num den : Int) : num.tdiv (gc num den) = num / gc num den := Int.tdiv_eq_ediv_of_dvd (Int.gcd_dvd_left ..)
theorem tdiv_den (num den : Int) : den.tdiv (gc num den) = den / gc num den := Int.tdiv_eq_ediv_of_dvd (Int.gcd_dvd_right ..)
/-! ### which fraction is less -/
/-! ### the parts of a displacement -/
/-- the i-th number of a start and gusts, alone -/
def unitI (i : Nat) : Int × Int × Int := (if i = 0 then 1 else 0, if i = 1 then 1 else 0, 1)
def gustI (i t : Nat) : Int := if i = t + 2 then 1 else 0
def rowI (n i : Nat) : List Int := (List.range n).map (gustI i)
def part (s : Slg) (n i : Nat) : Int := (run s (unitI i) (rowI n i)).1
/-! ### sets -/
structure SetS where
  s : Slg
  b0 : Int × Int
  b1 : Int × Int
  g : Int × Int
structure OkX (x : SetS) : Prop where
  s : OkS x.s
  a1 : -1000 ≤ x.b0.1
  a2 : x.b0.1 ≤ x.b0.2
  a3 : x.b0.2 ≤ 1000
  v1 : -1000 ≤ x.b1.1
  v2 : x.b1.1 ≤ x.b1.2
  v3 : x.b1.2 ≤ 1000
  g1 : -100 ≤ x.g.1
  g2 : x.g.1 ≤ x.g.2
  g3 : x.g.2 ≤ 100
end Go.Proofs.Ythohcimmoobaoaa
/- sling: the small functions. No conditions. -/
set_option linter.unusedSimpArgs false
set_option linter.unusedVariables false
namespace Go.Proofs.Ythohcimmoobaoaa
open Go.RowKit Lift

def slD (s : Slg) : D := .agg [dI s.num, dI s.damp, dI s.den]
def wI (n a b : Int) : Bool := decide (a ≤ n) && decide (n ≤ b)
theorem wI_t {n a b : Int} (h : wI n a b = true) : a ≤ n ∧ n ≤ b := by simpa [wI] using h
theorem in_agg2 (S : Nat → Prop) (a b : Value) : In S (.agg [.val a, .val b]) := .agg _ (by intro d hd; simp at hd; rcases hd with rfl | rfl <;> exact .val _)
theorem in_agg3 (S : Nat → Prop) (a b c : Value) : In S (.agg [.val a, .val b, .val c]) := .agg _ (by intro d hd; simp at hd; rcases hd with rfl | rfl | rfl <;> exact .val _)
set_option maxRecDepth 100000 in
set_option maxHeartbeats 1000000 in
theorem swithin_ac (n a b : Int) : AC Try.prog 53 [dI n, dI a, dI b] [] [] (dB (wI n a b)) := by
  refine ksling_within.ac (n0 := 0) (by simp) ⟨.val _, .val _, .val _, trivial⟩ trivial rfl ?_
  unfold csling_within dI dB wI
  (have hg : (987654321 : Nat) - 987654321 = 0 := rfl; have hr := hg; repeat' (first | refine aw_seq ?_ | (refine aw_skip ?_; try simp only [thenQ, blockQ, if_true, if_false, Nat.reduceEqDiff, reduceCtorEq]) | (refine aw_exit ?_; try simp only [thenQ, blockQ, if_true, if_false, Nat.reduceEqDiff, reduceCtorEq]) | refine aw_ret ?_ | refine aw_block ?_ | refine aw_condT rfl ?_ | refine aw_condF rfl ?_ | (refine ag_bool (fun hg => ?_) (fun hg => ?_) <;> (try (have hq := hg; simp only [Bool.not_eq_true', Bool.not_eq_false', Bool.and_eq_true, Bool.and_eq_false_iff, Bool.or_eq_true, Bool.or_eq_false_iff, decide_eq_true_eq, decide_eq_false_iff_not, bne_iff_ne, beq_iff_eq, beq_eq_false_iff_ne, bne_eq_false_iff_eq, ne_eq, Int.not_lt, Int.not_le, Decidable.not_not] at hq)) <;> (try (have hr := hg; simp only [decide_eq_true_eq, decide_eq_false_iff_not] at hr)) <;> (try (exfalso; omega)) <;> simp (config := {maxSteps := 10000000}) (disch := first | exact okYes (by kernel_rfl) | omega) only [hr, decide_true, Bool.true_and, AG_tt, AOpRun, aexec, FSt.ev, St.F, ↓eget_h, AGo_ok, Nat.reduceAdd, St.app, putO, eput_c, Nat.reduceBEq, eput_n, cond_false, hups, List.map, ARun_some, eget_c, isSh, Bool.false_eq_true, ↓reduceIte, Option.map, abin, ARun_none, beq_self_eq_true, cond_true, ARun_nil, dropE_c, inL_c, inL_n, dropE_n, decide_false, Bool.false_and, AG_ft]) | ((first | refine aw_region ?_ | refine ago_if (by omega) ?_ | skip); simp (config := {maxSteps := 10000000}) (disch := first | exact okYes (by kernel_rfl) | omega) only [thenQ, List.map, List.length, Nat.zero_add, Nat.reduceMul, envOf, Nat.reduceAdd, ARun_none, AOpRun, aexec, FSt.ev, AGo_ok, St.app, putO, eput_c, Nat.reduceBEq, eput_n, cond_false, hups, ARun_nil, dropE_c, inL_n, dropE_n, St.F, ↓eget_h, eget_c, isSh, Bool.false_eq_true, ↓reduceIte, Option.map, abin, ge_iff_le, ARun_some])))
  all_goals (refine end_to [] [] (by first | exact .inl rfl | exact .inr rfl) rfl (by kernel_rfl) (by kernel_rfl) (by kernel_rfl) ?_ ?_ <;> repeat' (first | exact trivial | exact vr_val _))
set_option maxRecDepth 100000 in
set_option maxHeartbeats 1000000 in
theorem rwithin_ac (n a b : Int) : AC Try.prog 56 [dI n, dI a, dI b] [] [] (dB (wI n a b)) := by
  refine kref07_within.ac (n0 := 0) (by simp) ⟨.val _, .val _, .val _, trivial⟩ trivial rfl ?_
  unfold cref07_within dI dB wI
  (have hg : (987654321 : Nat) - 987654321 = 0 := rfl; have hr := hg; repeat' (first | refine aw_seq ?_ | (refine aw_skip ?_; try simp only [thenQ, blockQ, if_true, if_false, Nat.reduceEqDiff, reduceCtorEq]) | (refine aw_exit ?_; try simp only [thenQ, blockQ, if_true, if_false, Nat.reduceEqDiff, reduceCtorEq]) | refine aw_ret ?_ | refine aw_block ?_ | refine aw_condT rfl ?_ | refine aw_condF rfl ?_ | (refine ag_bool (fun hg => ?_) (fun hg => ?_) <;> (try (have hq := hg; simp only [Bool.not_eq_true', Bool.not_eq_false', Bool.and_eq_true, Bool.and_eq_false_iff, Bool.or_eq_true, Bool.or_eq_false_iff, decide_eq_true_eq, decide_eq_false_iff_not, bne_iff_ne, beq_iff_eq, beq_eq_false_iff_ne, bne_eq_false_iff_eq, ne_eq, Int.not_lt, Int.not_le, Decidable.not_not] at hq)) <;> (try (have hr := hg; simp only [decide_eq_true_eq, decide_eq_false_iff_not] at hr)) <;> (try (exfalso; omega)) <;> simp (config := {maxSteps := 10000000}) (disch := first | exact okYes (by kernel_rfl) | omega) only [hr, decide_true, Bool.true_and, AG_tt, AOpRun, aexec, FSt.ev, St.F, ↓eget_h, AGo_ok, Nat.reduceAdd, St.app, putO, eput_c, Nat.reduceBEq, eput_n, cond_false, hups, List.map, ARun_some, eget_c, isSh, Bool.false_eq_true, ↓reduceIte, Option.map, abin, ARun_none, beq_self_eq_true, cond_true, ARun_nil, dropE_c, inL_c, inL_n, dropE_n, decide_false, Bool.false_and, AG_ft]) | ((first | refine aw_region ?_ | refine ago_if (by omega) ?_ | skip); simp (config := {maxSteps := 10000000}) (disch := first | exact okYes (by kernel_rfl) | omega) only [thenQ, List.map, List.length, Nat.zero_add, Nat.reduceMul, envOf, Nat.reduceAdd, ARun_none, AOpRun, aexec, FSt.ev, AGo_ok, St.app, putO, eput_c, Nat.reduceBEq, eput_n, cond_false, hups, ARun_nil, dropE_c, inL_n, dropE_n, St.F, ↓eget_h, eget_c, isSh, Bool.false_eq_true, ↓reduceIte, Option.map, abin, ge_iff_le, ARun_some])))
  all_goals (refine end_to [] [] (by first | exact .inl rfl | exact .inr rfl) rfl (by kernel_rfl) (by kernel_rfl) (by kernel_rfl) ?_ ?_ <;> repeat' (first | exact trivial | exact vr_val _))
/-- the error of a sling -/
def slE (s : Slg) : Int := if (wI s.den 1 4 && wI s.num 0 (2 * s.den) && wI s.damp 0 s.den) = true then 0 else 70
theorem slE_ok {s : Slg} (h : slE s = 0) : OkS s := by
  unfold slE at h
  split at h
  · rename_i hc
    simp only [wI, Bool.and_eq_true, decide_eq_true_eq] at hc
    exact ⟨by omega, by omega, by omega, by omega, by omega, by omega⟩
  · omega
set_option maxRecDepth 100000 in
set_option maxHeartbeats 1000000 in
theorem scheck_ac (s : Slg) : AC Try.prog 25 [slD s] [] [] (dI (slE s)) := by
  refine ksling_Check.ac (n0 := 0) (by simp) ⟨in_agg3 _ _ _ _, trivial⟩ trivial rfl ?_
  unfold csling_Check slD dI
  by_cases h1 : wI s.den 1 4 = true
  · have h2 := wI_t h1
    (have hg : (987654321 : Nat) - 987654321 = 0 := rfl; have hr := hg; repeat' (first | refine aw_seq ?_ | (refine aw_skip ?_; try simp only [thenQ, blockQ, if_true, if_false, Nat.reduceEqDiff, reduceCtorEq]) | (refine aw_exit ?_; try simp only [thenQ, blockQ, if_true, if_false, Nat.reduceEqDiff, reduceCtorEq]) | refine aw_ret ?_ | refine aw_block ?_ | refine aw_condT rfl ?_ | refine aw_condF rfl ?_ | (refine aw_cond rfl (fun hg => ?_) (fun hg => ?_) <;> (try (have hq := hg; simp only [Bool.not_eq_true', Bool.not_eq_false', Bool.and_eq_true, Bool.and_eq_false_iff, Bool.or_eq_true, Bool.or_eq_false_iff, decide_eq_true_eq, decide_eq_false_iff_not, bne_iff_ne, beq_iff_eq, beq_eq_false_iff_ne, bne_eq_false_iff_eq, ne_eq, Int.not_lt, Int.not_le, Decidable.not_not] at hq)) <;> (try (have hr := hg; simp only [decide_eq_true_eq, decide_eq_false_iff_not] at hr)) <;> (try (exfalso; omega))) | (refine ag_bool (fun hg => ?_) (fun hg => ?_) <;> (try (have hq := hg; simp only [Bool.not_eq_true', Bool.not_eq_false', Bool.and_eq_true, Bool.and_eq_false_iff, Bool.or_eq_true, Bool.or_eq_false_iff, decide_eq_true_eq, decide_eq_false_iff_not, bne_iff_ne, beq_iff_eq, beq_eq_false_iff_ne, bne_eq_false_iff_eq, ne_eq, Int.not_lt, Int.not_le, Decidable.not_not] at hq)) <;> (try (have hr := hg; simp only [decide_eq_true_eq, decide_eq_false_iff_not] at hr)) <;> (try (exfalso; omega)) <;> simp (config := {maxSteps := 10000000}) (disch := first | exact okYes (by kernel_rfl) | omega) only [hg, AG_tf, Nat.reduceAdd, St.app, putO, eput_c, Nat.reduceBEq, eput_n, cond_false, hups, ARun_some, eget_c, ↓eget_h, ARun_none, AOpRun, aexec, FSt.ev, St.F, ↓reduceIte, AGo_ok, List.map, ARun_nil, dropE_c, inL_c, inL_n, beq_self_eq_true, cond_true, dropE_n, AG_ff, Nat.zero_add, Option.map, run1, hget_c, hget_n, List.getElem?_cons_succ, List.getElem?_cons_zero]) | ((first | refine aw_region ?_ | refine acall0 (swithin_ac _ _ _) ?_ | refine ago_if (by omega) ?_ | skip); simp (config := {maxSteps := 10000000}) (disch := first | exact okYes (by kernel_rfl) | omega) only [thenQ, List.map, List.length, Nat.zero_add, Nat.reduceAdd, Nat.reduceMul, envOf, ARun_none, AOpRun, aexec, D.isBot, FSt.ev, St.F, ↓eget_h, Bool.false_eq_true, Option.isSome, hget_n, or_self, ↓reduceIte, D.cells, AGo_ok, St.app, putO, eput_c, Nat.reduceBEq, eput_n, cond_false, hups, hput_n, ARun_nil, dropE_c, inL_n, dropE_n, eget_c, Option.map, run1, hget_c, beq_self_eq_true, cond_true, List.getElem?_cons_succ, List.getElem?_cons_zero, dB, h1, Bool.not_true, ARun_some, AG_ff, isSh, abin, fits, inL_c, hg])))
    all_goals (refine end_to [] [] (by first | exact .inl rfl | exact .inr rfl) rfl (by kernel_rfl) (by kernel_rfl) (by kernel_rfl) ?_ ?_ <;> repeat' (first | exact trivial | refine vr_valq ?_))
    all_goals (unfold slE; simp_all)
  · have h2 : wI s.den 1 4 = false := by simpa using h1
    (have hg : (987654321 : Nat) - 987654321 = 0 := rfl; have hr := hg; repeat' (first | refine aw_seq ?_ | (refine aw_skip ?_; try simp only [thenQ, blockQ, if_true, if_false, Nat.reduceEqDiff, reduceCtorEq]) | (refine aw_exit ?_; try simp only [thenQ, blockQ, if_true, if_false, Nat.reduceEqDiff, reduceCtorEq]) | refine aw_ret ?_ | refine aw_block ?_ | refine aw_condT rfl ?_ | refine aw_condF rfl ?_ | ((first | refine aw_region ?_ | refine acall0 (swithin_ac _ _ _) ?_ | refine ago_if (by omega) ?_ | skip); simp (config := {maxSteps := 10000000}) (disch := first | exact okYes (by kernel_rfl) | omega) only [thenQ, List.map, List.length, Nat.zero_add, Nat.reduceAdd, Nat.reduceMul, envOf, ARun_none, AOpRun, aexec, D.isBot, FSt.ev, St.F, ↓eget_h, Bool.false_eq_true, Option.isSome, hget_n, or_self, ↓reduceIte, D.cells, AGo_ok, St.app, putO, eput_c, Nat.reduceBEq, eput_n, cond_false, hups, hput_n, ARun_nil, dropE_c, inL_n, dropE_n, eget_c, Option.map, run1, hget_c, beq_self_eq_true, cond_true, List.getElem?_cons_succ, List.getElem?_cons_zero, dB, h2, Bool.not_false, ARun_some, AG_tf, inL_c])))
    all_goals (refine end_to [] [] (by first | exact .inl rfl | exact .inr rfl) rfl (by kernel_rfl) (by kernel_rfl) (by kernel_rfl) ?_ ?_ <;> repeat' (first | exact trivial | refine vr_valq ?_))
    all_goals (unfold slE; simp_all)
set_option maxRecDepth 100000 in
set_option maxHeartbeats 1000000 in
theorem rcheck7_ac (s : Slg) : AC Try.prog 17 [slD s] [] [] (dI (slE s)) := by
  refine kref07_Check.ac (n0 := 0) (by simp) ⟨in_agg3 _ _ _ _, trivial⟩ trivial rfl ?_
  unfold cref07_Check slD dI
  by_cases h1 : wI s.den 1 4 = true
  · have h2 := wI_t h1
    (have hg : (987654321 : Nat) - 987654321 = 0 := rfl; have hr := hg; repeat' (first | refine aw_seq ?_ | (refine aw_skip ?_; try simp only [thenQ, blockQ, if_true, if_false, Nat.reduceEqDiff, reduceCtorEq]) | (refine aw_exit ?_; try simp only [thenQ, blockQ, if_true, if_false, Nat.reduceEqDiff, reduceCtorEq]) | refine aw_ret ?_ | refine aw_block ?_ | refine aw_condT rfl ?_ | refine aw_condF rfl ?_ | (refine aw_cond rfl (fun hg => ?_) (fun hg => ?_) <;> (try (have hq := hg; simp only [Bool.not_eq_true', Bool.not_eq_false', Bool.and_eq_true, Bool.and_eq_false_iff, Bool.or_eq_true, Bool.or_eq_false_iff, decide_eq_true_eq, decide_eq_false_iff_not, bne_iff_ne, beq_iff_eq, beq_eq_false_iff_ne, bne_eq_false_iff_eq, ne_eq, Int.not_lt, Int.not_le, Decidable.not_not] at hq)) <;> (try (have hr := hg; simp only [decide_eq_true_eq, decide_eq_false_iff_not] at hr)) <;> (try (exfalso; omega))) | (refine ag_bool (fun hg => ?_) (fun hg => ?_) <;> (try (have hq := hg; simp only [Bool.not_eq_true', Bool.not_eq_false', Bool.and_eq_true, Bool.and_eq_false_iff, Bool.or_eq_true, Bool.or_eq_false_iff, decide_eq_true_eq, decide_eq_false_iff_not, bne_iff_ne, beq_iff_eq, beq_eq_false_iff_ne, bne_eq_false_iff_eq, ne_eq, Int.not_lt, Int.not_le, Decidable.not_not] at hq)) <;> (try (have hr := hg; simp only [decide_eq_true_eq, decide_eq_false_iff_not] at hr)) <;> (try (exfalso; omega)) <;> simp (config := {maxSteps := 10000000}) (disch := first | exact okYes (by kernel_rfl) | omega) only [hg, AG_tf, Nat.reduceAdd, St.app, putO, eput_c, Nat.reduceBEq, eput_n, cond_false, hups, ARun_some, eget_c, ↓eget_h, ARun_none, AOpRun, aexec, FSt.ev, St.F, ↓reduceIte, AGo_ok, List.map, ARun_nil, dropE_c, inL_c, inL_n, beq_self_eq_true, cond_true, dropE_n, AG_ff, Nat.zero_add, Option.map, run1, hget_c, hget_n, List.getElem?_cons_succ, List.getElem?_cons_zero]) | ((first | refine aw_region ?_ | refine acall0 (rwithin_ac _ _ _) ?_ | refine ago_if (by omega) ?_ | skip); simp (config := {maxSteps := 10000000}) (disch := first | exact okYes (by kernel_rfl) | omega) only [thenQ, List.map, List.length, Nat.zero_add, Nat.reduceAdd, Nat.reduceMul, envOf, ARun_none, AOpRun, aexec, D.isBot, FSt.ev, St.F, ↓eget_h, Bool.false_eq_true, Option.isSome, hget_n, or_self, ↓reduceIte, D.cells, AGo_ok, St.app, putO, eput_c, Nat.reduceBEq, eput_n, cond_false, hups, hput_n, ARun_nil, dropE_c, inL_n, dropE_n, eget_c, Option.map, run1, hget_c, beq_self_eq_true, cond_true, List.getElem?_cons_succ, List.getElem?_cons_zero, dB, h1, Bool.not_true, ARun_some, AG_ff, isSh, abin, fits, inL_c, hg])))
    all_goals (refine end_to [] [] (by first | exact .inl rfl | exact .inr rfl) rfl (by kernel_rfl) (by kernel_rfl) (by kernel_rfl) ?_ ?_ <;> repeat' (first | exact trivial | refine vr_valq ?_))
    all_goals (unfold slE; simp_all)
  · have h2 : wI s.den 1 4 = false := by simpa using h1
    (have hg : (987654321 : Nat) - 987654321 = 0 := rfl; have hr := hg; repeat' (first | refine aw_seq ?_ | (refine aw_skip ?_; try simp only [thenQ, blockQ, if_true, if_false, Nat.reduceEqDiff, reduceCtorEq]) | (refine aw_exit ?_; try simp only [thenQ, blockQ, if_true, if_false, Nat.reduceEqDiff, reduceCtorEq]) | refine aw_ret ?_ | refine aw_block ?_ | refine aw_condT rfl ?_ | refine aw_condF rfl ?_ | ((first | refine aw_region ?_ | refine acall0 (rwithin_ac _ _ _) ?_ | refine ago_if (by omega) ?_ | skip); simp (config := {maxSteps := 10000000}) (disch := first | exact okYes (by kernel_rfl) | omega) only [thenQ, List.map, List.length, Nat.zero_add, Nat.reduceAdd, Nat.reduceMul, envOf, ARun_none, AOpRun, aexec, D.isBot, FSt.ev, St.F, ↓eget_h, Bool.false_eq_true, Option.isSome, hget_n, or_self, ↓reduceIte, D.cells, AGo_ok, St.app, putO, eput_c, Nat.reduceBEq, eput_n, cond_false, hups, hput_n, ARun_nil, dropE_c, inL_n, dropE_n, eget_c, Option.map, run1, hget_c, beq_self_eq_true, cond_true, List.getElem?_cons_succ, List.getElem?_cons_zero, dB, h2, Bool.not_false, ARun_some, AG_tf, inL_c])))
    all_goals (refine end_to [] [] (by first | exact .inl rfl | exact .inr rfl) rfl (by kernel_rfl) (by kernel_rfl) (by kernel_rfl) ?_ ?_ <;> repeat' (first | exact trivial | refine vr_valq ?_))
    all_goals (unfold slE; simp_all)
def stB (x : Int × Int) : Bool := wI x.1 (-1000) 1000 && wI x.2 (-1000) 1000
set_option maxRecDepth 100000 in
set_option maxHeartbeats 1000000 in
theorem started_ac (x : Int × Int) : AC Try.prog 50 [spD x] [] [] (dB (stB x)) := by
  refine ksling_started.ac (n0 := 0) (by simp) ⟨in_agg2 _ _ _, trivial⟩ trivial rfl ?_
  unfold csling_started spD stB
  (have hg : (987654321 : Nat) - 987654321 = 0 := rfl; have hr := hg; repeat' (first | refine aw_seq ?_ | (refine aw_skip ?_; try simp only [thenQ, blockQ, if_true, if_false, Nat.reduceEqDiff, reduceCtorEq]) | (refine aw_exit ?_; try simp only [thenQ, blockQ, if_true, if_false, Nat.reduceEqDiff, reduceCtorEq]) | refine aw_ret ?_ | refine aw_block ?_ | refine aw_condT rfl ?_ | refine aw_condF rfl ?_ | (refine ag_bool (fun hg => ?_) (fun hg => ?_) <;> (try (have hq := hg; simp only [Bool.not_eq_true', Bool.not_eq_false', Bool.and_eq_true, Bool.and_eq_false_iff, Bool.or_eq_true, Bool.or_eq_false_iff, decide_eq_true_eq, decide_eq_false_iff_not, bne_iff_ne, beq_iff_eq, beq_eq_false_iff_ne, bne_eq_false_iff_eq, ne_eq, Int.not_lt, Int.not_le, Decidable.not_not] at hq)) <;> (try (have hr := hg; simp only [decide_eq_true_eq, decide_eq_false_iff_not] at hr)) <;> (try (exfalso; omega)) <;> simp (config := {maxSteps := 10000000}) (disch := first | exact okYes (by kernel_rfl) | omega) only [Int.reduceNeg, hg, Bool.true_and, AG_tt, AOpRun, aexec, FSt.ev, St.F, eget_c, Nat.reduceBEq, ↓eget_h, cond_false, Int.reduceLE, cast_lit, Int.reduceLT, and_self, ↓reduceIte, Int.reduceToNat, Nat.reduceMul, Nat.zero_add, AGo_ok, Nat.reduceAdd, St.app, putO, eput_c, eput_n, hups, List.map, ARun_some, Option.map, run1, hget_c, beq_self_eq_true, hget_n, cond_true, List.getElem?_cons_succ, List.getElem?_cons_zero, Bool.false_and, AG_ft, ARun_none, Bool.false_eq_true, ARun_nil, dropE_c, inL_c, inL_n, dropE_n]) | ((first | refine aw_region ?_ | refine acall0 (swithin_ac _ _ _) ?_ | refine ago_if (by omega) ?_ | skip); simp (config := {maxSteps := 10000000}) (disch := first | exact okYes (by kernel_rfl) | omega) only [thenQ, List.map, Int.reduceNeg, dB, List.length, Nat.zero_add, Nat.reduceAdd, Nat.reduceMul, envOf, ARun_none, AOpRun, aexec, D.isBot, FSt.ev, St.F, ↓eget_h, Bool.false_eq_true, Option.isSome, hget_n, or_self, ↓reduceIte, D.cells, AGo_ok, St.app, putO, eput_c, Nat.reduceBEq, eput_n, cond_false, hups, hput_n, ARun_nil, dropE_c, inL_n, dropE_n, eget_c, Int.le_refl, cast_lit, Int.reduceLT, and_self, Int.toNat_zero, Option.map, run1, hget_c, beq_self_eq_true, cond_true, List.getElem?_cons_zero, ARun_some, inL_c])))
  all_goals (refine end_to [] [] (by first | exact .inl rfl | exact .inr rfl) rfl (by kernel_rfl) (by kernel_rfl) (by kernel_rfl) ?_ ?_ <;> repeat' (first | exact trivial | exact vr_val _))
set_option maxRecDepth 100000 in
set_option maxHeartbeats 1000000 in
theorem s1_ac (g : Int) : AC Try.prog 52 [dI g] [] [] (dB (!wI g (-100) 100)) := by
  refine ksling_Swing_S1.ac (n0 := 0) (by simp) ⟨.val _, trivial⟩ trivial rfl ?_
  unfold csling_Swing_S1
  (have hg : (987654321 : Nat) - 987654321 = 0 := rfl; have hr := hg; repeat' (first | refine aw_seq ?_ | (refine aw_skip ?_; try simp only [thenQ, blockQ, if_true, if_false, Nat.reduceEqDiff, reduceCtorEq]) | (refine aw_exit ?_; try simp only [thenQ, blockQ, if_true, if_false, Nat.reduceEqDiff, reduceCtorEq]) | refine aw_ret ?_ | refine aw_block ?_ | refine aw_condT rfl ?_ | refine aw_condF rfl ?_ | ((first | refine aw_region ?_ | refine acall0 (swithin_ac _ _ _) ?_ | refine ago_if (by omega) ?_ | skip); simp (config := {maxSteps := 10000000}) (disch := first | exact okYes (by kernel_rfl) | omega) only [thenQ, List.map, Int.reduceNeg, dB, List.length, Nat.zero_add, Nat.reduceMul, envOf, dI, ARun_none, AOpRun, aexec, FSt.ev, AGo_ok, St.app, putO, eput_c, Nat.reduceBEq, eput_n, cond_false, hups, ARun_nil, dropE_c, inL_n, dropE_n, Nat.reduceAdd, St.F, ↓eget_h, eget_c, beq_self_eq_true, cond_true, inL_c])))
  all_goals (refine end_to [] [] (by first | exact .inl rfl | exact .inr rfl) rfl (by kernel_rfl) (by kernel_rfl) (by kernel_rfl) ?_ ?_ <;> repeat' (first | exact trivial | exact vr_val _))
set_option maxRecDepth 100000 in
set_option maxHeartbeats 1000000 in
theorem fraction_ac (x : Int × Int) : AC Try.prog 18 [spD x] [] [] (dB (decide (x.2 > 0))) := by
  refine klaw07_fraction.ac (n0 := 0) (by simp) ⟨in_agg2 _ _ _, trivial⟩ trivial rfl ?_
  unfold claw07_fraction spD
  (have hg : (987654321 : Nat) - 987654321 = 0 := rfl; have hr := hg; repeat' (first | refine aw_seq ?_ | (refine aw_skip ?_; try simp only [thenQ, blockQ, if_true, if_false, Nat.reduceEqDiff, reduceCtorEq]) | (refine aw_exit ?_; try simp only [thenQ, blockQ, if_true, if_false, Nat.reduceEqDiff, reduceCtorEq]) | refine aw_ret ?_ | refine aw_block ?_ | refine aw_condT rfl ?_ | refine aw_condF rfl ?_ | ((first | refine aw_region ?_ | refine ago_if (by omega) ?_ | skip); simp (config := {maxSteps := 10000000}) (disch := first | exact okYes (by kernel_rfl) | omega) only [thenQ, List.map, dB, List.length, Nat.zero_add, Nat.reduceAdd, Nat.reduceMul, envOf, ARun_none, AOpRun, aexec, D.isBot, FSt.ev, St.F, ↓eget_h, Bool.false_eq_true, Option.isSome, hget_n, or_self, ↓reduceIte, D.cells, AGo_ok, St.app, putO, eput_c, Nat.reduceBEq, eput_n, cond_false, hups, hput_n, ARun_nil, dropE_c, inL_n, dropE_n, eget_c, Int.reduceLE, cast_lit, Int.reduceLT, and_self, Int.reduceToNat, Option.map, run1, hget_c, beq_self_eq_true, cond_true, List.getElem?_cons_succ, List.getElem?_cons_zero, isSh, abin, inL_c])))
  all_goals (refine end_to [] [] (by first | exact .inl rfl | exact .inr rfl) rfl (by kernel_rfl) (by kernel_rfl) (by kernel_rfl) ?_ ?_ <;> repeat' (first | exact trivial | exact vr_val _))
theorem mul_bnd {x y a b : Int} (h1 : -a ≤ x) (h2 : x ≤ a) (h3 : -b ≤ y) (h4 : y ≤ b) : -(a * b) ≤ x * y ∧ x * y ≤ a * b := by
  have k1 := Int.mul_nonneg (by omega : 0 ≤ a - x) (by omega : 0 ≤ b - y)
  have k2 := Int.mul_nonneg (by omega : 0 ≤ a + x) (by omega : 0 ≤ b + y)
  have k3 := Int.mul_nonneg (by omega : 0 ≤ a - x) (by omega : 0 ≤ b + y)
  have k4 := Int.mul_nonneg (by omega : 0 ≤ a + x) (by omega : 0 ≤ b - y)
  simp only [Int.sub_mul, Int.add_mul, Int.mul_sub, Int.mul_add] at k1 k2 k3 k4
  omega
def ldC (s : Slg) (x : Int × Int × Int) : List D := [dI s.num, dI s.damp, dI s.den, dI x.1, dI x.2.1, dI x.2.2]
structure Small (x : Int × Int × Int) : Prop where
  a1 : -capN ≤ x.1
  a2 : x.1 ≤ capN
  v1 : -capN ≤ x.2.1
  v2 : x.2.1 ≤ capN
  d1 : 1 ≤ x.2.2
  d2 : x.2.2 ≤ 4294967296
theorem ldC_in (s : Slg) (x : Int × Int × Int) : ∀ d ∈ ldC s x, In (· < 8) d := by
  intro d hd
  simp only [ldC, List.mem_cons, List.not_mem_nil, or_false] at hd
  rcases hd with rfl | rfl | rfl | rfl | rfl | rfl <;> exact .val _
set_option maxRecDepth 100000 in
set_option maxHeartbeats 1000000 in
theorem tick_ac (s : Slg) (x : Int × Int × Int) (g : Int) (hs : OkS s) (hx : Small x) (g1 : -100 ≤ g) (g2 : g ≤ 100) : AC Try.prog 54 [.ptr 0 0, dI g] [(0, ldC s x)] [(0, some (ldC s (tk s x g)))] (.tup []) := by
  obtain ⟨a, v, d⟩ := x
  obtain ⟨a1, a2, v1, v2, d1, d2⟩ := hx
  obtain ⟨s1, s2, s3, s4, s5, s6⟩ := hs
  obtain ⟨num, damp, den⟩ := s
  simp only at a1 a2 v1 v2 d1 d2 s1 s2 s3 s4 s5 s6
  have hcap : capN = 1000000000000000 := rfl
  have m1 := mul_bnd (x := d) (y := den) (a := 4294967296) (b := 4) (by omega) (by omega) (by omega) (by omega)
  have m2 := mul_bnd (x := den) (y := v) (a := 4) (b := capN) (by omega) (by omega) (by omega) (by omega)
  have m3 := mul_bnd (x := num) (y := a) (a := 8) (b := capN) (by omega) (by omega) (by omega) (by omega)
  have m4 := mul_bnd (x := damp) (y := v) (a := 4) (b := capN) (by omega) (by omega) (by omega) (by omega)
  have m5 := mul_bnd (x := g) (y := d * den) (a := 100) (b := 4294967296 * 4) (by omega) (by omega) (by omega) (by omega)
  have m6 := mul_bnd (x := den) (y := a) (a := 4) (b := capN) (by omega) (by omega) (by omega) (by omega)
  refine kpsling_load_tick.ac (n0 := 8) (by simp) ⟨.ptr _ _ (by omega), .val _, trivial⟩ ⟨⟨by omega, ldC_in _ _⟩, trivial⟩ rfl ?_
  unfold cpsling_load_tick ldC dI tk
  (have hg : (987654321 : Nat) - 987654321 = 0 := rfl; have hr := hg; repeat' (first | refine aw_seq ?_ | (refine aw_skip ?_; try simp only [thenQ, blockQ, if_true, if_false, Nat.reduceEqDiff, reduceCtorEq]) | (refine aw_exit ?_; try simp only [thenQ, blockQ, if_true, if_false, Nat.reduceEqDiff, reduceCtorEq]) | refine aw_ret ?_ | refine aw_block ?_ | refine aw_condT rfl ?_ | refine aw_condF rfl ?_ | ((first | refine aw_region ?_ | refine ago_if (by omega) ?_ | skip); simp (config := {maxSteps := 10000000}) (disch := first | exact okYes (by kernel_rfl) | omega) only [thenQ, List.map, List.length, Nat.zero_add, Nat.reduceAdd, Nat.reduceMul, envOf, ARun_none, AOpRun, aexec, FSt.ev, St.F, ↓eget_h, AGo_ok, St.app, putO, eput_c, Nat.reduceBEq, eput_n, cond_false, hups, eget_c, Option.map, run1, hget_c, beq_self_eq_true, hget_n, cond_true, List.getElem?_cons_succ, List.getElem?_cons_zero, isSh, Bool.false_eq_true, ↓reduceIte, abin, fits, D.isBot, D.cells, Nat.reduceLeDiff, List.all, D.leaf, Bool.and_true, and_self, splice, List.take, List.cons_append, List.nil_append, List.drop, List.append_nil, hput_c, hput_n, ARun_nil, dropE_c, inL_c, inL_n, dropE_n])))
  refine end_to [] [(0, 0)] (by first | exact .inl rfl | exact .inr rfl) rfl (by kernel_rfl) (by kernel_rfl) (by kernel_rfl) ?_ ?_ <;> repeat' (first | exact trivial | exact vr_val _ | apply vr_tup | refine And.intro ⟨_, rfl, _, rfl, by decide, ?_⟩ ?_ | apply And.intro)
set_option maxRecDepth 100000 in
set_option maxHeartbeats 1000000 in
theorem lowest_ac (num den : Int) (h1 : -4000000000000000000 ≤ num) (h2 : num ≤ 4000000000000000000) (h3 : 1 ≤ den) (h4 : den ≤ 4000000000000000000) : AC Try.prog 80 [dI num, dI den] [] [] (spD (lowF num den)) := by
  refine ksling_lowest.ac (n0 := 0) (by simp) ⟨.val _, .val _, trivial⟩ trivial rfl ?_
  unfold csling_lowest dI
  (have hg : (987654321 : Nat) - 987654321 = 0 := rfl; have hr := hg; repeat' (first | refine aw_seq ?_ | (refine aw_skip ?_; try simp only [thenQ, blockQ, if_true, if_false, Nat.reduceEqDiff, reduceCtorEq]) | (refine aw_exit ?_; try simp only [thenQ, blockQ, if_true, if_false, Nat.reduceEqDiff, reduceCtorEq]) | refine aw_ret ?_ | refine aw_block ?_ | refine aw_condT rfl ?_ | refine aw_condF rfl ?_ | ((first | refine aw_region ?_ | refine ago_if (by omega) ?_ | skip); simp (config := {maxSteps := 10000000}) (disch := first | exact okYes (by kernel_rfl) | omega) only [thenQ, List.map, List.length, Nat.zero_add, Nat.reduceMul, envOf, ARun_none, AOpRun, aexec, Option.isSome, hget_n, Bool.false_eq_true, ↓reduceIte, AGo_ok, St.app, putO, eput_c, Nat.reduceBEq, eput_n, cond_false, hups, hput_n, ARun_nil, dropE_c, inL_n, dropE_n, Nat.reduceAdd, FSt.ev, St.F, ↓eget_h, eget_c, Int.zero_sub, fits, Option.map, foldI, mx2, inL_c, beq_self_eq_true, cond_true])))
  have hst := gcd_start num den
  have hgp := gc_pos (num := num) h3
  have q1 := lowF_num (num := num) (B := 4000000000000000000) h3 (by omega) (by omega)
  have q2 := lowF_den (num := num) h3
  have e1 := tdiv_num num den
  have e2 := tdiv_den num den
  unfold lowF at q1 q2 ⊢
  simp only at q1 q2
  rw [← e1] at q1 ⊢
  rw [← e2] at q2 ⊢
  refine aw_loop (fun p : Int × Int => ⟨[(0, dI num), (1, dI den), (4, .ptr 0 0), (5, dI p.1), (6, dI p.2)], [(0, [dI 0, dI 0])], 400⟩) (fun p => 0 ≤ p.1 ∧ 0 ≤ p.2 ∧ Int.gcd p.1 p.2 = Int.gcd num den) (fun p => p.2.toNat) ⟨(if -num > num then -num else num, den), ⟨by simp only; split <;> omega, by simp only; omega, hst⟩, ?_⟩ ?_
  · refine wk_to [] [(0, 0)] (by kernel_rfl) (by kernel_rfl) (by kernel_rfl) (by kernel_rfl) (by kernel_rfl) ?_ ?_ <;> repeat' (first | exact trivial | exact vr_val _ | exact vr_ptr _ _ _ rfl | refine And.intro ⟨_, rfl, .inl ⟨_, rfl, by decide, ?_⟩⟩ ?_ | apply And.intro)
  · rintro ⟨a, b⟩ ⟨ha, hb, hgc⟩
    simp only at ha hb hgc
    rcases (by omega : b = 0 ∨ 0 < b) with rfl | hb
    · have hag : a = gc num den := by
        have := gcd_end ha
        rw [hgc] at this
        exact this.symm
      subst hag
      have hne : ¬ gc num den = 0 := by omega
      (have hg : (987654321 : Nat) - 987654321 = 0 := rfl; have hr := hg; repeat' (first | refine aw_seq ?_ | (refine aw_skip ?_; try simp only [thenQ, blockQ, if_true, if_false, Nat.reduceEqDiff, reduceCtorEq]) | (refine aw_exit ?_; try simp only [thenQ, blockQ, if_true, if_false, Nat.reduceEqDiff, reduceCtorEq]) | refine aw_ret ?_ | refine aw_block ?_ | refine aw_condT rfl ?_ | refine aw_condF rfl ?_ | ((first | refine aw_region ?_ | refine ago_if (by omega) ?_ | skip); simp (config := {maxSteps := 10000000}) (disch := first | exact okYes (by kernel_rfl) | omega) only [thenQ, Int.toNat_zero, dI, List.length, Nat.zero_add, Nat.reduceAdd, Nat.reduceMul, ARun_none, AOpRun, aexec, FSt.ev, St.F, eget_c, Nat.reduceBEq, ↓eget_h, cond_false, AGo_ok, St.app, putO, eput_c, eput_n, hups, List.map, isSh, Bool.false_eq_true, ↓reduceIte, Option.map, abin, ARun_nil, dropE_c, inL_c, inL_n, beq_self_eq_true, cond_true, dropE_n, hne, fits, fillD, D.isBot, D.cells, ne_eq, not_true_eq_false, Nat.reduceGT, or_self, splice, List.take, List.nil_append, List.drop, List.cons_append, List.append_nil, hget_c, hget_n, Nat.reduceLeDiff, List.all, D.leaf, Bool.and_true, and_self, hput_c, hput_n])))
      all_goals (refine end_to [] [] (by first | exact .inl rfl | exact .inr rfl) rfl (by kernel_rfl) (by kernel_rfl) (by kernel_rfl) ?_ ?_ <;> repeat' (first | exact trivial | exact vr_val _ | apply vr_agg | apply And.intro))
    · have hne : ¬ b = 0 := by omega
      have r1 := Int.emod_nonneg a hne
      have r2 := Int.emod_lt_of_pos a hb
      (have hg : (987654321 : Nat) - 987654321 = 0 := rfl; have hr := hg; repeat' (first | refine aw_seq ?_ | (refine aw_skip ?_; try simp only [thenQ, blockQ, if_true, if_false, Nat.reduceEqDiff, reduceCtorEq]) | (refine aw_exit ?_; try simp only [thenQ, blockQ, if_true, if_false, Nat.reduceEqDiff, reduceCtorEq]) | refine aw_ret ?_ | refine aw_block ?_ | refine aw_condT rfl ?_ | refine aw_condF rfl ?_ | (refine aw_cond rfl (fun hg => ?_) (fun hg => ?_) <;> (try (have hq := hg; simp only [Bool.not_eq_true', Bool.not_eq_false', Bool.and_eq_true, Bool.and_eq_false_iff, Bool.or_eq_true, Bool.or_eq_false_iff, decide_eq_true_eq, decide_eq_false_iff_not, bne_iff_ne, beq_iff_eq, beq_eq_false_iff_ne, bne_eq_false_iff_eq, ne_eq, Int.not_lt, Int.not_le, Decidable.not_not] at hq)) <;> (try (have hr := hg; simp only [decide_eq_true_eq, decide_eq_false_iff_not] at hr)) <;> (try (exfalso; omega))) | ((first | refine aw_region ?_ | refine ago_if (by omega) ?_ | skip); simp (config := {maxSteps := 10000000}) (disch := first | exact okYes (by kernel_rfl) | omega) only [thenQ, dI, List.length, Nat.zero_add, Nat.reduceAdd, Nat.reduceMul, ARun_none, AOpRun, aexec, FSt.ev, St.F, eget_c, Nat.reduceBEq, ↓eget_h, cond_false, AGo_ok, St.app, putO, eput_c, eput_n, hups, List.map, isSh, Bool.false_eq_true, ↓reduceIte, Option.map, abin, ARun_nil, dropE_c, inL_c, inL_n, beq_self_eq_true, cond_true, dropE_n, blockQ, hr, decide_true, hne, Int.tmod_eq_emod_of_nonneg])))
      exact ⟨(b, a % b), ⟨by simp only; omega, r1, by rw [← hgc]; exact gcd_step⟩, by simp only; omega, by refine wk_to [] [(0, 0)] (by kernel_rfl) (by kernel_rfl) (by kernel_rfl) (by kernel_rfl) (by kernel_rfl) ?_ ?_ <;> repeat' (first | exact trivial | exact vr_val _ | exact vr_ptr _ _ _ rfl | refine And.intro ⟨_, rfl, .inl ⟨_, rfl, by decide, ?_⟩⟩ ?_ | apply And.intro)⟩
end Go.Proofs.Ythohcimmoobaoaa
/- sling: fractions and lists. No conditions. -/
set_option linter.unusedSimpArgs false
set_option linter.unusedVariables false
namespace Go.Proofs.Ythohcimmoobaoaa
open Go.RowKit Lift

set_option maxRecDepth 100000 in
set_option maxHeartbeats 1000000 in
theorem place_ac (s : Slg) (x : Int × Int × Int) (hx : Small x) : AC Try.prog 55 [.ptr 0 0] [(0, ldC s x)] [(0, some (ldC s x))] (spD (lowF x.1 x.2.2)) := by
  obtain ⟨a1, a2, v1, v2, d1, d2⟩ := hx
  have hcap : capN = 1000000000000000 := rfl
  refine kpsling_load_place.ac (n0 := 8) (by simp) ⟨.ptr _ _ (by omega), trivial⟩ ⟨⟨by omega, ldC_in _ _⟩, trivial⟩ rfl ?_
  unfold cpsling_load_place ldC
  (have hg : (987654321 : Nat) - 987654321 = 0 := rfl; have hr := hg; repeat' (first | refine aw_seq ?_ | (refine aw_skip ?_; try simp only [thenQ, blockQ, if_true, if_false, Nat.reduceEqDiff, reduceCtorEq]) | (refine aw_exit ?_; try simp only [thenQ, blockQ, if_true, if_false, Nat.reduceEqDiff, reduceCtorEq]) | refine aw_ret ?_ | refine aw_block ?_ | refine aw_condT rfl ?_ | refine aw_condF rfl ?_ | ((first | refine aw_region ?_ | refine acall0 (lowest_ac x.1 x.2.2 (by omega) (by omega) (by omega) (by omega)) ?_ | refine ago_if (by omega) ?_ | skip); simp (config := {maxSteps := 10000000}) (disch := first | exact okYes (by kernel_rfl) | omega) only [thenQ, List.map, spD, List.length, Nat.zero_add, Nat.reduceMul, Nat.reduceAdd, envOf, ARun_none, AOpRun, aexec, Option.isSome, hget_c, Nat.reduceBEq, hget_n, cond_false, Bool.false_eq_true, ↓reduceIte, AGo_ok, St.app, putO, eput_c, eput_n, hups, hput_c, hput_n, ARun_nil, dropE_c, inL_n, dropE_n, FSt.ev, St.F, ↓eget_h, eget_c, Option.map, run1, beq_self_eq_true, cond_true, List.getElem?_cons_succ, List.getElem?_cons_zero, ↓hget_h, D.isBot, D.cells, Nat.reduceLeDiff, List.all, D.leaf, Bool.and_true, and_self, splice, List.take, List.nil_append, List.drop, List.append_nil, inL_c])))
  all_goals (refine end_to [] [(0, 0)] (by first | exact .inl rfl | exact .inr rfl) rfl (by kernel_rfl) (by kernel_rfl) (by kernel_rfl) ?_ ?_ <;> repeat' (first | exact trivial | exact vr_val _ | apply vr_agg | refine And.intro ⟨_, rfl, _, rfl, by decide, ?_⟩ ?_ | apply And.intro))
theorem td_bd {n d B : Int} (h : 1 ≤ d) (h1 : -B ≤ n) (h2 : n ≤ B) : -B ≤ n.tdiv d ∧ n.tdiv d ≤ B ∧ -B ≤ n.tmod d ∧ n.tmod d ≤ B := by
  have a1 := Int.natAbs_tdiv_le_natAbs n d
  have a2 := Int.natAbs_tmod n d
  have a3 : n.natAbs % d.natAbs ≤ n.natAbs := Nat.mod_le _ _
  omega
/-- a fraction: below what it is divided by, and small -/
structure Fra (x : Int × Int) : Prop where
  d1 : 1 ≤ x.2
  d2 : x.2 ≤ 4294967296
  n1 : -4000000000000000 ≤ x.1
  n2 : x.1 ≤ 4000000000000000
/-! ### lists -/
theorem sps_same {a b : Bx} (h : a.length = b.length) (k : ∀ j, j < a.length → lo a j = lo b j ∧ hi a j = hi b j) : a = b := by
  apply List.ext_getElem h
  intro i h1 h2
  have := k i h1
  simp only [lo, hi, h1, h2, List.getElem?_eq_getElem, Option.getD_some] at this
  exact Prod.ext this.1 this.2
set_option maxRecDepth 100000 in
set_option maxHeartbeats 1000000 in
theorem sameFr_ac (a b : Bx) (ha : a.length ≤ maxLen) (hb : b.length ≤ maxLen) : AC Try.prog 27 [.list (sps a), .list (sps b)] [] [] (dB (decide (a = b))) := by
  refine klaw07_sameFractions.ac (n0 := 0) (by simp) ⟨.list _, .list _, trivial⟩ trivial rfl ?_
  unfold claw07_sameFractions
  have hm : maxLen ≤ 9223372036854775807 := by decide
  by_cases hl : a.length = b.length
  · have hl2 : ((a.length : Int) == (b.length : Int)) = true := by rw [hl]; simp
    generalize hR : decide (a = b) = R
    (have hg : (987654321 : Nat) - 987654321 = 0 := rfl; have hr := hg; repeat' (first | refine aw_seq ?_ | (refine aw_skip ?_; try simp only [thenQ, blockQ, if_true, if_false, Nat.reduceEqDiff, reduceCtorEq]) | (refine aw_exit ?_; try simp only [thenQ, blockQ, if_true, if_false, Nat.reduceEqDiff, reduceCtorEq]) | refine aw_ret ?_ | refine aw_block ?_ | refine aw_condT rfl ?_ | refine aw_condF rfl ?_ | (refine aw_cond rfl (fun hg => ?_) (fun hg => ?_) <;> (try (have hq := hg; simp only [Bool.not_eq_true', Bool.not_eq_false', Bool.and_eq_true, Bool.and_eq_false_iff, Bool.or_eq_true, Bool.or_eq_false_iff, decide_eq_true_eq, decide_eq_false_iff_not, bne_iff_ne, beq_iff_eq, beq_eq_false_iff_ne, bne_eq_false_iff_eq, ne_eq, Int.not_lt, Int.not_le, Decidable.not_not] at hq)) <;> (try (have hr := hg; simp only [decide_eq_true_eq, decide_eq_false_iff_not] at hr)) <;> (try (exfalso; omega))) | ((first | refine aw_region ?_ | refine ago_if (by omega) ?_ | skip); simp (config := {maxSteps := 10000000}) (disch := first | exact okYes (by kernel_rfl) | omega) only [thenQ, List.map, List.length, Nat.zero_add, Nat.reduceMul, envOf, ARun_none, AOpRun, aexec, FSt.ev, AGo_ok, St.app, putO, eput_c, Nat.reduceBEq, eput_n, cond_false, hups, ARun_nil, dropE_c, inL_n, dropE_n, Nat.reduceAdd, St.F, ↓eget_h, eget_c, sps_len, isSh, Bool.false_eq_true, ↓reduceIte, Option.map, abin, inL_c, beq_self_eq_true, cond_true, hg])))
    refine aw_loop (fun k : Nat => ⟨[(0, .list (sps a)), (1, .list (sps b)), (5, dI k)], [], 400⟩) (fun k => k ≤ a.length ∧ ∀ j, j < k → lo a j = lo b j ∧ hi a j = hi b j) (fun k => a.length - k) ⟨0, ⟨by omega, by omega⟩, ?_⟩ ?_
    · refine wk_to [] [] (by kernel_rfl) (by kernel_rfl) (by kernel_rfl) (by kernel_rfl) (by kernel_rfl) ?_ ?_ <;> repeat' (first | exact trivial | exact vr_val _ | exact vr_list _ | apply And.intro)
    · rintro k ⟨hk, hp⟩
      by_cases hk2 : k < a.length
      · have g1 := sps_gd a k hk2
        have g2 := sps_gd b k (by omega)
        by_cases he : lo a k = lo b k ∧ hi a k = hi b k
        · have e1 := he.1
          have e2 := he.2
          (have hg : (987654321 : Nat) - 987654321 = 0 := rfl; have hr := hg; repeat' (first | refine aw_seq ?_ | (refine aw_skip ?_; try simp only [thenQ, blockQ, if_true, if_false, Nat.reduceEqDiff, reduceCtorEq]) | (refine aw_exit ?_; try simp only [thenQ, blockQ, if_true, if_false, Nat.reduceEqDiff, reduceCtorEq]) | refine aw_ret ?_ | refine aw_block ?_ | refine aw_condT rfl ?_ | refine aw_condF rfl ?_ | (refine aw_cond rfl (fun hg => ?_) (fun hg => ?_) <;> (try (have hq := hg; simp only [Bool.not_eq_true', Bool.not_eq_false', Bool.and_eq_true, Bool.and_eq_false_iff, Bool.or_eq_true, Bool.or_eq_false_iff, decide_eq_true_eq, decide_eq_false_iff_not, bne_iff_ne, beq_iff_eq, beq_eq_false_iff_ne, bne_eq_false_iff_eq, ne_eq, Int.not_lt, Int.not_le, Decidable.not_not] at hq)) <;> (try (have hr := hg; simp only [decide_eq_true_eq, decide_eq_false_iff_not] at hr)) <;> (try (exfalso; omega))) | ((first | refine aw_region ?_ | refine ago_if (by omega) ?_ | skip); simp (config := {maxSteps := 10000000}) (disch := first | exact okYes (by kernel_rfl) | omega) only [thenQ, dI, List.length, Nat.zero_add, Nat.reduceAdd, Nat.reduceMul, ARun_none, AOpRun, aexec, FSt.ev, St.F, eget_c, Nat.reduceBEq, ↓eget_h, cond_false, AGo_ok, St.app, putO, eput_c, eput_n, hups, List.map, sps_len, isSh, Bool.false_eq_true, ↓reduceIte, Option.map, abin, ARun_nil, dropE_c, inL_c, inL_n, beq_self_eq_true, cond_true, dropE_n, hr, decide_true, Int.natCast_nonneg, sps_all, and_self, opt1, Int.toNat_natCast, g1, e1, e2, Nat.reduceLeDiff, List.take, g2, D.isAgg, D.cells, isB, eqCells, scalarEq, Bool.and_true, bne_self_eq_false, fits])))
          refine ⟨k + 1, ⟨by omega, fun j hj => ?_⟩, by omega, ?_⟩
          · rcases (by omega : j < k ∨ j = k) with h | rfl
            · exact hp j h
            · exact he
          · refine wk_to [] [] (by kernel_rfl) (by kernel_rfl) (by kernel_rfl) (by kernel_rfl) (by kernel_rfl) ?_ ?_ <;> repeat' (first | exact trivial | exact vr_val _ | exact vr_list _ | apply And.intro)
        · have hne : ¬ a = b := fun h => he (by rw [h]; exact ⟨rfl, rfl⟩)
          rw [← hR, decide_eq_false hne]
          have hb : (lo a k == lo b k && (hi a k == hi b k && true)) = false := by
            by_cases h1 : lo a k = lo b k
            · simp [h1]; exact fun h => he ⟨h1, h⟩
            · simp [h1]
          (have hg : (987654321 : Nat) - 987654321 = 0 := rfl; have hr := hg; repeat' (first | refine aw_seq ?_ | (refine aw_skip ?_; try simp only [thenQ, blockQ, if_true, if_false, Nat.reduceEqDiff, reduceCtorEq]) | (refine aw_exit ?_; try simp only [thenQ, blockQ, if_true, if_false, Nat.reduceEqDiff, reduceCtorEq]) | refine aw_ret ?_ | refine aw_block ?_ | refine aw_condT rfl ?_ | refine aw_condF rfl ?_ | (refine aw_cond rfl (fun hg => ?_) (fun hg => ?_) <;> (try (have hq := hg; simp only [Bool.not_eq_true', Bool.not_eq_false', Bool.and_eq_true, Bool.and_eq_false_iff, Bool.or_eq_true, Bool.or_eq_false_iff, decide_eq_true_eq, decide_eq_false_iff_not, bne_iff_ne, beq_iff_eq, beq_eq_false_iff_ne, bne_eq_false_iff_eq, ne_eq, Int.not_lt, Int.not_le, Decidable.not_not] at hq)) <;> (try (have hr := hg; simp only [decide_eq_true_eq, decide_eq_false_iff_not] at hr)) <;> (try (exfalso; omega))) | ((first | refine aw_region ?_ | refine ago_if (by omega) ?_ | skip); simp (config := {maxSteps := 10000000}) (disch := first | exact okYes (by kernel_rfl) | omega) only [thenQ, dI, List.length, Nat.zero_add, Nat.reduceAdd, Nat.reduceMul, ARun_none, AOpRun, aexec, FSt.ev, St.F, eget_c, Nat.reduceBEq, ↓eget_h, cond_false, AGo_ok, St.app, putO, eput_c, eput_n, hups, List.map, sps_len, isSh, Bool.false_eq_true, ↓reduceIte, Option.map, abin, ARun_nil, dropE_c, inL_c, inL_n, beq_self_eq_true, cond_true, dropE_n, hr, decide_true, Int.natCast_nonneg, sps_all, and_self, opt1, Int.toNat_natCast, g1, Nat.reduceLeDiff, List.take, g2, D.isAgg, D.cells, isB, eqCells, scalarEq, Bool.and_true, hg, blockQ])))
          all_goals (refine end_to [] [] (by first | exact .inl rfl | exact .inr rfl) rfl (by kernel_rfl) (by kernel_rfl) (by kernel_rfl) ?_ ?_ <;> repeat' (first | exact trivial | exact vr_val _))
      · obtain rfl : k = a.length := by omega
        rw [← hR, decide_eq_true (sps_same hl hp)]
        (have hg : (987654321 : Nat) - 987654321 = 0 := rfl; have hr := hg; repeat' (first | refine aw_seq ?_ | (refine aw_skip ?_; try simp only [thenQ, blockQ, if_true, if_false, Nat.reduceEqDiff, reduceCtorEq]) | (refine aw_exit ?_; try simp only [thenQ, blockQ, if_true, if_false, Nat.reduceEqDiff, reduceCtorEq]) | refine aw_ret ?_ | refine aw_block ?_ | refine aw_condT rfl ?_ | refine aw_condF rfl ?_ | (refine aw_cond rfl (fun hg => ?_) (fun hg => ?_) <;> (try (have hq := hg; simp only [Bool.not_eq_true', Bool.not_eq_false', Bool.and_eq_true, Bool.and_eq_false_iff, Bool.or_eq_true, Bool.or_eq_false_iff, decide_eq_true_eq, decide_eq_false_iff_not, bne_iff_ne, beq_iff_eq, beq_eq_false_iff_ne, bne_eq_false_iff_eq, ne_eq, Int.not_lt, Int.not_le, Decidable.not_not] at hq)) <;> (try (have hr := hg; simp only [decide_eq_true_eq, decide_eq_false_iff_not] at hr)) <;> (try (exfalso; omega))) | ((first | refine aw_region ?_ | refine ago_if (by omega) ?_ | skip); simp (config := {maxSteps := 10000000}) (disch := first | exact okYes (by kernel_rfl) | omega) only [thenQ, dI, List.length, Nat.zero_add, Nat.reduceAdd, Nat.reduceMul, ARun_none, AOpRun, aexec, FSt.ev, St.F, eget_c, Nat.reduceBEq, ↓eget_h, cond_false, AGo_ok, St.app, putO, eput_c, eput_n, hups, List.map, sps_len, isSh, Bool.false_eq_true, ↓reduceIte, Option.map, abin, ARun_nil, dropE_c, inL_c, inL_n, beq_self_eq_true, cond_true, dropE_n, hr, decide_false])))
        all_goals (refine end_to [] [] (by first | exact .inl rfl | exact .inr rfl) rfl (by kernel_rfl) (by kernel_rfl) (by kernel_rfl) ?_ ?_ <;> repeat' (first | exact trivial | exact vr_val _))
  · have hne : ¬ a = b := fun h => hl (by rw [h])
    rw [decide_eq_false hne]
    (have hg : (987654321 : Nat) - 987654321 = 0 := rfl; have hr := hg; repeat' (first | refine aw_seq ?_ | (refine aw_skip ?_; try simp only [thenQ, blockQ, if_true, if_false, Nat.reduceEqDiff, reduceCtorEq]) | (refine aw_exit ?_; try simp only [thenQ, blockQ, if_true, if_false, Nat.reduceEqDiff, reduceCtorEq]) | refine aw_ret ?_ | refine aw_block ?_ | refine aw_condT rfl ?_ | refine aw_condF rfl ?_ | (refine aw_cond rfl (fun hg => ?_) (fun hg => ?_) <;> (try (have hq := hg; simp only [Bool.not_eq_true', Bool.not_eq_false', Bool.and_eq_true, Bool.and_eq_false_iff, Bool.or_eq_true, Bool.or_eq_false_iff, decide_eq_true_eq, decide_eq_false_iff_not, bne_iff_ne, beq_iff_eq, beq_eq_false_iff_ne, bne_eq_false_iff_eq, ne_eq, Int.not_lt, Int.not_le, Decidable.not_not] at hq)) <;> (try (have hr := hg; simp only [decide_eq_true_eq, decide_eq_false_iff_not] at hr)) <;> (try (exfalso; omega))) | ((first | refine aw_region ?_ | refine ago_if (by omega) ?_ | skip); simp (config := {maxSteps := 10000000}) (disch := first | exact okYes (by kernel_rfl) | omega) only [thenQ, List.map, List.length, Nat.zero_add, Nat.reduceMul, envOf, ARun_none, AOpRun, aexec, FSt.ev, AGo_ok, St.app, putO, eput_c, Nat.reduceBEq, eput_n, cond_false, hups, ARun_nil, dropE_c, inL_n, dropE_n, Nat.reduceAdd, St.F, ↓eget_h, eget_c, sps_len, isSh, Bool.false_eq_true, ↓reduceIte, Option.map, abin, inL_c, beq_self_eq_true, cond_true, hg])))
    all_goals (refine end_to [] [] (by first | exact .inl rfl | exact .inr rfl) rfl (by kernel_rfl) (by kernel_rfl) (by kernel_rfl) ?_ ?_ <;> repeat' (first | exact trivial | exact vr_val _))
end Go.Proofs.Ythohcimmoobaoaa
/- The functions' bodies, translated. Written by a program; no conditions. -/
namespace Go.Proofs.Ythohcimmoobaoaa
open Go.RowKit Lift

/-- spans_within -/
def cspans_within : ACode :=
  (.seq
   (.region false [⟨some 6, .mv (.const (.bool false)), none, []⟩] [])
  (.seq
   (.region false [⟨some 7, .mv (.tmp 0), none, []⟩,
     ⟨some 8, .mv (.tmp 1), none, []⟩,
     ⟨some 9, .bin .geq (.tmp 7) (.tmp 8), none, []⟩,
     ⟨some 10, .mv (.tmp 9), none, []⟩,
     ⟨some 11, .mv (.tmp 0), (some (some 10, true)), []⟩,
     ⟨some 12, .mv (.tmp 2), (some (some 10, true)), []⟩,
     ⟨some 13, .bin .leq (.tmp 11) (.tmp 12), (some (some 10, true)), []⟩,
     ⟨some 14, .pick (.tmp 10) (.tmp 13) (.const (.bool false)), none, []⟩,
     ⟨some 6, .mv (.tmp 14), none, []⟩] [7, 8, 9, 10, 11, 12, 13, 14])
  .ret))
set_option maxRecDepth 100000 in
theorem kspans_within : IsCode Try.prog 96 15 cspans_within [.tmp 6] :=
  ⟨Try.f96, _, [0, 1, 2, 6], Try.func96, rfl, by decide, rfl, by kernel_rfl, by kernel_rfl⟩
/-- spans_valid -/
def cspans_valid : ACode :=
  (.seq
   (.region false [⟨some 1, .box (.tmp 0), none, []⟩,
     ⟨some 2, .mv (.const (.bool false)), none, []⟩] [])
  (.seq
   (.region false [⟨some 3, .fad 0 (.tmp 1), none, []⟩,
     ⟨some 4, .load1 (.tmp 3), none, []⟩,
     ⟨some 5, .fad 1 (.tmp 1), none, []⟩,
     ⟨some 6, .load1 (.tmp 5), none, []⟩,
     ⟨some 7, .call (.func 96) [(.tmp 4), (.const (.int .i64 (-1000000))), (.tmp 6)], none, []⟩,
     ⟨some 8, .mv (.tmp 7), none, []⟩,
     ⟨some 9, .fad 1 (.tmp 1), (some (some 8, true)), []⟩,
     ⟨some 10, .load1 (.tmp 9), (some (some 8, true)), []⟩,
     ⟨some 11, .bin .leq (.tmp 10) (.const (.int .i64 1000000)), (some (some 8, true)), []⟩,
     ⟨some 12, .pick (.tmp 8) (.tmp 11) (.const (.bool false)), none, []⟩,
     ⟨some 2, .mv (.tmp 12), none, []⟩] [3, 4, 5, 6, 7, 8, 9, 10, 11, 12])
  .ret))
set_option maxRecDepth 100000 in
theorem kspans_valid : IsCode Try.prog 115 13 cspans_valid [.tmp 2] :=
  ⟨Try.f115, _, [0, 1, 2], Try.func115, rfl, by decide, rfl, by kernel_rfl, by kernel_rfl⟩
/-- spans_spanned_S1 -/
def cspans_spanned_S1 : ACode :=
  (.seq
   (.region false [⟨some 1, .box (.tmp 0), none, []⟩,
     ⟨some 2, .mv (.const (.bool false)), none, []⟩] [])
  (.seq
   (.region false [⟨some 3, .loadN 2 (.tmp 1), none, []⟩,
     ⟨some 4, .call (.func 115) [(.tmp 3)], none, []⟩,
     ⟨some 5, .un .not (.tmp 4), none, []⟩,
     ⟨some 2, .mv (.tmp 5), none, []⟩] [3, 4, 5])
  .ret))
set_option maxRecDepth 100000 in
theorem kspans_spanned_S1 : IsCode Try.prog 114 6 cspans_spanned_S1 [.tmp 2] :=
  ⟨Try.f114, _, [0, 1, 2], Try.func114, rfl, by decide, rfl, by kernel_rfl, by kernel_rfl⟩
/-- slices_IndexFunc_L_L_Japi_Span_Kapi_Span_J -/
def cslices_IndexFunc_L_L_Japi_Span_Kapi_Span_J : ACode :=
  (.seq
   (.region false [⟨some 4, .mv (.const (.int .i64 0)), none, []⟩] [])
  (.seq
   (.seq
    (.region false [⟨some 6, .mv (.tmp 0), none, []⟩,
      ⟨some 7, .len_ (.tmp 6), none, []⟩,
      ⟨some 8, .mv (.const (.int .i64 0)), none, []⟩] [6])
   (.block 0
     (.loop
       (.seq
        (.region false [⟨some 9, .bin .lss (.tmp 8) (.tmp 7), none, []⟩] [])
       (.seq
        (.cond (.tmp 9)
          .skip
          (.exit 0))
       (.seq
        (.block 1
          (.seq
           (.region false [⟨some 10, .mv (.tmp 8), none, []⟩,
             ⟨some 5, .mv (.tmp 10), none, []⟩] [10])
          (.seq
           (.region false [⟨some 11, .mv (.tmp 1), none, []⟩,
             ⟨some 12, .mv (.tmp 0), none, []⟩,
             ⟨some 13, .mv (.tmp 5), none, []⟩,
             ⟨some 14, .iadS 2 (.tmp 12) (.tmp 13), none, []⟩,
             ⟨some 15, .loadN 2 (.tmp 14), none, []⟩,
             ⟨some 16, .call (.tmp 11) [(.tmp 15)], none, []⟩] [11, 12, 13, 14, 15])
          (.cond (.tmp 16)
            (.seq
             (.region false [⟨some 17, .mv (.tmp 5), none, []⟩,
               ⟨some 4, .mv (.tmp 17), none, []⟩] [17])
            .ret)
            .skip))))
       (.region false [⟨some 18, .bin .add (.tmp 8) (.const (.int .i64 1)), none, []⟩,
         ⟨some 8, .mv (.tmp 18), none, []⟩] [18])))))))
  (.seq
   (.region false [⟨some 4, .mv (.const (.int .i64 (-1))), none, []⟩] [])
  .ret)))
set_option maxRecDepth 100000 in
theorem kslices_IndexFunc_L_L_Japi_Span_Kapi_Span_J : IsCode Try.prog 126 19 cslices_IndexFunc_L_L_Japi_Span_Kapi_Span_J [.tmp 4] :=
  ⟨Try.f126, _, [16, 9, 0, 8, 7, 1, 5, 4], Try.func126, rfl, by decide, rfl, by kernel_rfl, by kernel_rfl⟩
/-- slices_ContainsFunc_L_L_Japi_Span_Kapi_Span_J -/
def cslices_ContainsFunc_L_L_Japi_Span_Kapi_Span_J : ACode :=
  (.seq
   (.region false [⟨some 4, .mv (.const (.bool false)), none, []⟩] [])
  (.seq
   (.region false [⟨some 5, .mv (.tmp 0), none, []⟩,
     ⟨some 6, .mv (.tmp 1), none, []⟩,
     ⟨some 7, .call (.func 126) [(.tmp 5), (.tmp 6)], none, []⟩,
     ⟨some 8, .bin .geq (.tmp 7) (.const (.int .i64 0)), none, []⟩,
     ⟨some 4, .mv (.tmp 8), none, []⟩] [5, 6, 7, 8])
  .ret))
set_option maxRecDepth 100000 in
theorem kslices_ContainsFunc_L_L_Japi_Span_Kapi_Span_J : IsCode Try.prog 113 9 cslices_ContainsFunc_L_L_Japi_Span_Kapi_Span_J [.tmp 4] :=
  ⟨Try.f113, _, [0, 1, 4], Try.func113, rfl, by decide, rfl, by kernel_rfl, by kernel_rfl⟩
/-- spans_spanned -/
def cspans_spanned : ACode :=
  (.seq
   (.region false [⟨some 2, .mv (.const (.int .i64 0)), none, []⟩] [])
  (.seq
   (.seq
    (.region false [⟨some 3, .mv (.tmp 0), none, []⟩,
      ⟨some 4, .call (.func 113) [(.tmp 3), (.func 114)], none, []⟩] [3])
   (.cond (.tmp 4)
     (.seq
      (.region false [⟨some 2, .mv (.const (.int .i64 10)), none, []⟩] [])
     .ret)
     .skip))
  (.seq
   (.region false [⟨some 2, .mv (.const (.int .i64 0)), none, []⟩] [])
  .ret)))
set_option maxRecDepth 100000 in
theorem kspans_spanned : IsCode Try.prog 101 5 cspans_spanned [.tmp 2] :=
  ⟨Try.f101, _, [4, 0, 2], Try.func101, rfl, by decide, rfl, by kernel_rfl, by kernel_rfl⟩
/-- spans_Check -/
def cspans_Check : ACode :=
  (.seq
   (.region false [⟨some 2, .mv (.const (.int .i64 0)), none, []⟩] [])
  (.seq
   (.seq
    (.region false [⟨some 3, .mv (.tmp 0), none, []⟩,
      ⟨some 4, .len_ (.tmp 3), none, []⟩,
      ⟨some 5, .call (.func 96) [(.tmp 4), (.const (.int .i64 1)), (.const (.int .i64 3))], none, []⟩,
      ⟨some 6, .un .not (.tmp 5), none, []⟩] [3, 4, 5])
   (.cond (.tmp 6)
     (.seq
      (.region false [⟨some 2, .mv (.const (.int .i64 10)), none, []⟩] [])
     .ret)
     .skip))
  (.seq
   (.region false [⟨some 7, .mv (.tmp 0), none, []⟩,
     ⟨some 8, .call (.func 101) [(.tmp 7)], none, []⟩,
     ⟨some 2, .mv (.tmp 8), none, []⟩] [7, 8])
  .ret)))
set_option maxRecDepth 100000 in
theorem kspans_Check : IsCode Try.prog 72 9 cspans_Check [.tmp 2] :=
  ⟨Try.f72, _, [6, 0, 2], Try.func72, rfl, by decide, rfl, by kernel_rfl, by kernel_rfl⟩
end Go.Proofs.Ythohcimmoobaoaa
