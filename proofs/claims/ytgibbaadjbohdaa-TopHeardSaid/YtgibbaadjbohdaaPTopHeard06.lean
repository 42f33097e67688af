/- Texts of the law TopHeard, part 6. No conditions. -/
import Derived.Test.YtgibbaadjbohdaaPTopHeard05
import Derived.Test.YtgibbaadjbohdaaRows
/- The functions' bodies, translated. Written by a program; no conditions. -/
namespace Go.Proofs.Ytgibbaadjbohdaa
open Go.RowKit Lift

/-- health_Average -/
def chealth_Average : ACode :=
  (.seq
   (.region false [⟨some 2, .box (.tmp 0), none, []⟩,
     ⟨some 4, .mv (.const (.slice none 0 0)), none, []⟩,
     ⟨some 5, .mv (.const (.int .i64 0)), none, []⟩,
     ⟨some 6, .mv (.const (.int .i64 0)), none, []⟩] [])
  (.seq
   (.seq
    (.region false [⟨some 14, .loadN 2 (.tmp 2), none, []⟩,
      ⟨some 15, .call (.func 61) [(.tmp 14)], none, []⟩,
      ⟨some 7, .mv (.tmp 15), none, []⟩] [14, 15])
   (.seq
    (.region false [⟨some 16, .mv (.tmp 7), none, []⟩,
      ⟨some 17, .bin .neq (.tmp 16) (.const (.int .i64 0)), none, []⟩] [16])
   (.cond (.tmp 17)
     (.seq
      (.region false [⟨some 18, .mv (.tmp 7), none, []⟩,
        ⟨some 4, .mv (.const (.slice none 0 0)), none, []⟩,
        ⟨some 5, .mv (.const (.int .i64 0)), none, []⟩,
        ⟨some 6, .mv (.tmp 18), none, []⟩] [18])
     .ret)
     .skip)))
  (.seq
   (.seq
    (.region false [⟨some 19, .mv (.tmp 1), none, []⟩,
      ⟨some 20, .call (.func 59) [(.tmp 19), (.const (.int .i64 1)), (.const (.int .i64 24))], none, []⟩,
      ⟨some 21, .un .not (.tmp 20), none, []⟩] [19, 20])
   (.cond (.tmp 21)
     (.seq
      (.region false [⟨some 4, .mv (.const (.slice none 0 0)), none, []⟩,
        ⟨some 5, .mv (.const (.int .i64 0)), none, []⟩,
        ⟨some 6, .mv (.const (.int .i64 1)), none, []⟩] [])
     .ret)
     .skip))
  (.seq
   (.region false [⟨some 22, .mv (.tmp 1), none, []⟩,
     ⟨some 23, .mksl 1 8 [(.val (.int .i64 0))] (.tmp 22) (.tmp 22), none, []⟩,
     ⟨some 4, .mv (.tmp 23), none, []⟩] [22, 23])
  (.seq
   (.seq
    (.region false [⟨some 24, .fad 1 (.tmp 2), none, []⟩,
      ⟨some 25, .load1 (.tmp 24), none, []⟩,
      ⟨some 26, .len_ (.tmp 25), none, []⟩,
      ⟨some 27, .bin .sub (.tmp 26) (.const (.int .i64 1)), none, []⟩,
      ⟨some 28, .mv (.const (.int .i64 0)), none, []⟩] [24, 25, 26])
   (.block 0
     (.loop
       (.seq
        (.region false [⟨some 29, .bin .lss (.tmp 28) (.tmp 27), none, []⟩] [])
       (.seq
        (.cond (.tmp 29)
          .skip
          (.exit 0))
       (.seq
        (.block 1
          (.seq
           (.region false [⟨some 30, .mv (.tmp 28), none, []⟩,
             ⟨some 8, .mv (.tmp 30), none, []⟩] [30])
          (.seq
           (.region true [⟨some 31, .fad 1 (.tmp 2), none, []⟩,
             ⟨some 32, .load1 (.tmp 31), none, [0]⟩,
             ⟨some 33, .mv (.tmp 8), none, []⟩,
             ⟨some 34, .iadS 1 (.tmp 32) (.tmp 33), none, [1, 0, 2]⟩,
             ⟨some 35, .load1 (.tmp 34), none, [3, 1, 0, 2]⟩,
             ⟨some 36, .fad 1 (.tmp 2), none, []⟩,
             ⟨some 37, .load1 (.tmp 36), none, [5]⟩,
             ⟨some 38, .mv (.tmp 8), none, []⟩,
             ⟨some 39, .bin .add (.tmp 38) (.const (.int .i64 1)), none, [7]⟩,
             ⟨some 40, .iadS 1 (.tmp 37) (.tmp 39), none, [6, 5, 8, 7]⟩,
             ⟨some 41, .load1 (.tmp 40), none, [9, 6, 5, 8, 7]⟩,
             ⟨some 9, .mv (.tmp 35), none, [4, 3, 1, 0, 2]⟩,
             ⟨some 10, .mv (.tmp 41), none, [10, 9, 6, 5, 8, 7, 11, 4, 3, 1, 0, 2]⟩] [31, 32, 33, 34, 35, 36, 37, 38, 39, 40, 41])
          (.seq
           (.region false [⟨some 42, .mv (.tmp 4), none, []⟩,
             ⟨some 43, .len_ (.tmp 42), none, []⟩,
             ⟨some 44, .mv (.const (.int .i64 0)), none, []⟩] [42])
          (.block 2
            (.loop
              (.seq
               (.region false [⟨some 45, .bin .lss (.tmp 44) (.tmp 43), none, []⟩] [])
              (.seq
               (.cond (.tmp 45)
                 .skip
                 (.exit 2))
              (.seq
               (.block 3
                 (.seq
                  (.region false [⟨some 46, .mv (.tmp 44), none, []⟩,
                    ⟨some 11, .mv (.tmp 46), none, []⟩] [46])
                 (.seq
                  (.region true [⟨some 47, .mv (.tmp 11), none, []⟩,
                    ⟨some 48, .mv (.tmp 10), none, []⟩,
                    ⟨some 49, .mv (.tmp 9), none, []⟩,
                    ⟨some 50, .bin .sub (.tmp 48) (.tmp 49), none, [1, 2]⟩,
                    ⟨some 51, .bin .mul (.tmp 47) (.tmp 50), none, [0, 3, 1, 2]⟩,
                    ⟨some 52, .mv (.tmp 1), none, []⟩,
                    ⟨some 53, .bin .quo (.tmp 51) (.tmp 52), none, [4, 0, 3, 1, 2, 5]⟩,
                    ⟨some 54, .mv (.tmp 11), none, []⟩,
                    ⟨some 55, .mv (.tmp 10), none, []⟩,
                    ⟨some 56, .mv (.tmp 9), none, []⟩,
                    ⟨some 57, .bin .sub (.tmp 55) (.tmp 56), none, [8, 9]⟩,
                    ⟨some 58, .bin .mul (.tmp 54) (.tmp 57), none, [7, 10, 8, 9]⟩,
                    ⟨some 59, .mv (.tmp 1), none, []⟩,
                    ⟨some 60, .bin .rem (.tmp 58) (.tmp 59), none, [11, 7, 10, 8, 9, 12]⟩,
                    ⟨some 12, .mv (.tmp 53), none, [6, 4, 0, 3, 1, 2, 5]⟩,
                    ⟨some 13, .mv (.tmp 60), none, [13, 11, 7, 10, 8, 9, 12, 14, 6, 4, 0, 3, 1, 2, 5]⟩] [47, 48, 49, 50, 51, 52, 53, 54, 55, 56, 57, 58, 59, 60])
                 (.seq
                  (.region true [⟨some 61, .mv (.tmp 4), none, []⟩,
                    ⟨some 62, .mv (.tmp 11), none, []⟩,
                    ⟨some 63, .iadS 1 (.tmp 61) (.tmp 62), none, [0, 1]⟩,
                    ⟨some 64, .load1 (.tmp 63), none, [2, 0, 1]⟩,
                    ⟨some 65, .mv (.tmp 1), none, []⟩,
                    ⟨some 66, .mv (.tmp 13), none, []⟩,
                    ⟨some 67, .bin .sub (.tmp 65) (.tmp 66), none, [4, 5]⟩,
                    ⟨some 68, .fad 0 (.tmp 2), none, []⟩,
                    ⟨some 69, .load1 (.tmp 68), none, [7]⟩,
                    ⟨some 70, .mv (.tmp 9), none, []⟩,
                    ⟨some 71, .mv (.tmp 12), none, []⟩,
                    ⟨some 72, .bin .add (.tmp 70) (.tmp 71), none, [9, 10]⟩,
                    ⟨some 73, .iadS 1 (.tmp 69) (.tmp 72), none, [8, 7, 11, 9, 10]⟩,
                    ⟨some 74, .load1 (.tmp 73), none, [12, 8, 7, 11, 9, 10]⟩,
                    ⟨some 75, .bin .mul (.tmp 67) (.tmp 74), none, [6, 4, 5, 13, 12, 8, 7, 11, 9, 10]⟩,
                    ⟨some 76, .bin .add (.tmp 64) (.tmp 75), none, [3, 2, 0, 1, 14, 6, 4, 5, 13, 12, 8, 7, 11, 9, 10]⟩,
                    ⟨some 77, .iadS 1 (.tmp 61) (.tmp 62), none, [0, 1, 2, 3, 4, 5, 6, 7, 8, 9, 10, 11, 12, 13, 14, 15]⟩,
                    ⟨none, .store 1 (.tmp 77) (.tmp 76), none, [16, 0, 1, 2, 3, 4, 5, 6, 7, 8, 9, 10, 11, 12, 13, 14, 15]⟩] [61, 62, 63, 64, 65, 66, 67, 68, 69, 70, 71, 72, 73, 74, 75, 76, 77])
                 (.seq
                  (.region false [⟨some 78, .mv (.tmp 13), none, []⟩,
                    ⟨some 79, .bin .gtr (.tmp 78) (.const (.int .i64 0)), none, []⟩] [78])
                 (.cond (.tmp 79)
                   (.region true [⟨some 80, .mv (.tmp 4), none, []⟩,
                     ⟨some 81, .mv (.tmp 11), none, []⟩,
                     ⟨some 82, .iadS 1 (.tmp 80) (.tmp 81), none, [0, 1]⟩,
                     ⟨some 83, .load1 (.tmp 82), none, [2, 0, 1]⟩,
                     ⟨some 84, .mv (.tmp 13), none, []⟩,
                     ⟨some 85, .fad 0 (.tmp 2), none, []⟩,
                     ⟨some 86, .load1 (.tmp 85), none, [5]⟩,
                     ⟨some 87, .mv (.tmp 9), none, []⟩,
                     ⟨some 88, .mv (.tmp 12), none, []⟩,
                     ⟨some 89, .bin .add (.tmp 87) (.tmp 88), none, [7, 8]⟩,
                     ⟨some 90, .bin .add (.tmp 89) (.const (.int .i64 1)), none, [9, 7, 8]⟩,
                     ⟨some 91, .iadS 1 (.tmp 86) (.tmp 90), none, [6, 5, 10, 9, 7, 8]⟩,
                     ⟨some 92, .load1 (.tmp 91), none, [11, 6, 5, 10, 9, 7, 8]⟩,
                     ⟨some 93, .bin .mul (.tmp 84) (.tmp 92), none, [4, 12, 11, 6, 5, 10, 9, 7, 8]⟩,
                     ⟨some 94, .bin .add (.tmp 83) (.tmp 93), none, [3, 2, 0, 1, 13, 4, 12, 11, 6, 5, 10, 9, 7, 8]⟩,
                     ⟨some 95, .iadS 1 (.tmp 80) (.tmp 81), none, [0, 1, 2, 3, 4, 5, 6, 7, 8, 9, 10, 11, 12, 13, 14]⟩,
                     ⟨none, .store 1 (.tmp 95) (.tmp 94), none, [15, 0, 1, 2, 3, 4, 5, 6, 7, 8, 9, 10, 11, 12, 13, 14]⟩] [80, 81, 82, 83, 84, 85, 86, 87, 88, 89, 90, 91, 92, 93, 94, 95])
                   .skip))))))
              (.region false [⟨some 96, .bin .add (.tmp 44) (.const (.int .i64 1)), none, []⟩,
                ⟨some 44, .mv (.tmp 96), none, []⟩] [96]))))))))))
       (.region false [⟨some 97, .bin .add (.tmp 28) (.const (.int .i64 1)), none, []⟩,
         ⟨some 28, .mv (.tmp 97), none, []⟩] [97])))))))
  (.seq
   (.region true [⟨some 98, .mv (.tmp 4), none, []⟩,
     ⟨some 99, .mv (.tmp 1), none, []⟩,
     ⟨some 100, .fad 1 (.tmp 2), none, []⟩,
     ⟨some 101, .load1 (.tmp 100), none, [2]⟩,
     ⟨some 102, .len_ (.tmp 101), none, [3, 2]⟩,
     ⟨some 103, .bin .sub (.tmp 102) (.const (.int .i64 1)), none, [4, 3, 2]⟩,
     ⟨some 104, .bin .mul (.tmp 99) (.tmp 103), none, [1, 5, 4, 3, 2]⟩,
     ⟨some 4, .mv (.tmp 98), none, [0]⟩,
     ⟨some 5, .mv (.tmp 104), none, [6, 1, 5, 4, 3, 2, 7, 0]⟩,
     ⟨some 6, .mv (.const (.int .i64 0)), none, [8, 6, 1, 5, 4, 3, 2, 7, 0]⟩] [98, 99, 100, 101, 102, 103, 104])
  .ret))))))
set_option maxRecDepth 100000 in
theorem khealth_Average : IsCode Try.prog 28 105 chealth_Average [.tmp 4, .tmp 5, .tmp 6] :=
  ⟨Try.f28, _, [79, 45, 29, 21, 17, 0, 2, 7, 1, 28, 27, 8, 4, 44, 43, 11, 10, 9, 13, 12, 5, 6], Try.func28, rfl, by decide, rfl, by kernel_rfl, by kernel_rfl⟩
/-- health_Check -/
def chealth_Check : ACode :=
  (.seq
   (.region false [⟨some 1, .box (.tmp 0), none, []⟩,
     ⟨some 2, .mv (.const (.int .i64 0)), none, []⟩] [])
  (.seq
   (.seq
    (.region false [⟨some 3, .fad 0 (.tmp 1), none, []⟩,
      ⟨some 4, .load1 (.tmp 3), none, []⟩,
      ⟨some 5, .len_ (.tmp 4), none, []⟩,
      ⟨some 6, .bin .gtr (.tmp 5) (.const (.int .i64 400)), none, []⟩,
      ⟨some 7, .mv (.tmp 6), none, []⟩,
      ⟨some 8, .fad 0 (.tmp 1), (some (some 7, false)), []⟩,
      ⟨some 9, .load1 (.tmp 8), (some (some 7, false)), []⟩,
      ⟨some 10, .call (.func 105) [(.tmp 9), (.const (.int .i64 (-100))), (.const (.int .i64 100))], (some (some 7, false)), []⟩,
      ⟨some 11, .un .not (.tmp 10), (some (some 7, false)), []⟩,
      ⟨some 12, .pick (.tmp 7) (.const (.bool true)) (.tmp 11), none, []⟩,
      ⟨some 13, .mv (.tmp 12), none, []⟩,
      ⟨some 14, .fad 1 (.tmp 1), (some (some 13, false)), []⟩,
      ⟨some 15, .load1 (.tmp 14), (some (some 13, false)), []⟩,
      ⟨some 16, .len_ (.tmp 15), (some (some 13, false)), []⟩,
      ⟨some 17, .call (.func 59) [(.tmp 16), (.const (.int .i64 2)), (.const (.int .i64 9))], (some (some 13, false)), []⟩,
      ⟨some 18, .un .not (.tmp 17), (some (some 13, false)), []⟩,
      ⟨some 19, .pick (.tmp 13) (.const (.bool true)) (.tmp 18), none, []⟩,
      ⟨some 20, .mv (.tmp 19), none, []⟩,
      ⟨some 21, .fad 1 (.tmp 1), (some (some 20, false)), []⟩,
      ⟨some 22, .load1 (.tmp 21), (some (some 20, false)), []⟩,
      ⟨some 23, .fad 0 (.tmp 1), (some (some 20, false)), []⟩,
      ⟨some 24, .load1 (.tmp 23), (some (some 20, false)), []⟩,
      ⟨some 25, .len_ (.tmp 24), (some (some 20, false)), []⟩,
      ⟨some 26, .bin .sub (.tmp 25) (.const (.int .i64 1)), (some (some 20, false)), []⟩,
      ⟨some 27, .call (.func 105) [(.tmp 22), (.const (.int .i64 0)), (.tmp 26)], (some (some 20, false)), []⟩,
      ⟨some 28, .un .not (.tmp 27), (some (some 20, false)), []⟩,
      ⟨some 29, .pick (.tmp 20) (.const (.bool true)) (.tmp 28), none, []⟩,
      ⟨some 30, .mv (.tmp 29), none, []⟩,
      ⟨some 31, .fad 1 (.tmp 1), (some (some 30, false)), []⟩,
      ⟨some 32, .load1 (.tmp 31), (some (some 30, false)), []⟩,
      ⟨some 33, .call (.func 107) [(.tmp 32)], (some (some 30, false)), []⟩,
      ⟨some 34, .un .not (.tmp 33), (some (some 30, false)), []⟩,
      ⟨some 35, .pick (.tmp 30) (.const (.bool true)) (.tmp 34), none, []⟩] [3, 4, 5, 6, 7, 8, 9, 10, 11, 12, 13, 14, 15, 16, 17, 18, 19, 20, 21, 22, 23, 24, 25, 26, 27, 28, 29, 30, 31, 32, 33, 34])
   (.cond (.tmp 35)
     (.seq
      (.region false [⟨some 2, .mv (.const (.int .i64 80)), none, []⟩] [])
     .ret)
     .skip))
  (.seq
   (.region false [⟨some 2, .mv (.const (.int .i64 0)), none, []⟩] [])
  .ret)))
set_option maxRecDepth 100000 in
theorem khealth_Check : IsCode Try.prog 61 36 chealth_Check [.tmp 2] :=
  ⟨Try.f61, _, [35, 0, 1, 2], Try.func61, rfl, by decide, rfl, by kernel_rfl, by kernel_rfl⟩
/-- health_all -/
def chealth_all : ACode :=
  (.seq
   (.region false [⟨some 4, .box (.tmp 1), none, []⟩,
     ⟨some 5, .box (.tmp 2), none, []⟩,
     ⟨some 6, .mv (.const (.bool false)), none, []⟩] [])
  (.seq
   (.region false [⟨some 7, .mv (.tmp 0), none, []⟩,
     ⟨some 8, .mkfn 131 [] [(.tmp 4), (.tmp 5)], none, []⟩,
     ⟨some 9, .call (.func 94) [(.tmp 7), (.tmp 8)], none, []⟩,
     ⟨some 10, .un .not (.tmp 9), none, []⟩,
     ⟨some 6, .mv (.tmp 10), none, []⟩] [7, 8, 9, 10])
  .ret))
set_option maxRecDepth 100000 in
theorem khealth_all : IsCode Try.prog 105 11 chealth_all [.tmp 6] :=
  ⟨Try.f105, _, [1, 2, 0, 4, 5, 6], Try.func105, rfl, by decide, rfl, by kernel_rfl, by kernel_rfl⟩
/-- health_all_S1 -/
def chealth_all_S1 : ACode :=
  (.seq
   (.region false [⟨some 4, .mv (.const (.bool false)), none, []⟩] [])
  (.seq
   (.region false [⟨some 5, .mv (.tmp 0), none, []⟩,
     ⟨some 6, .load1 (.tmp 1), none, []⟩,
     ⟨some 7, .load1 (.tmp 2), none, []⟩,
     ⟨some 8, .call (.func 59) [(.tmp 5), (.tmp 6), (.tmp 7)], none, []⟩,
     ⟨some 9, .un .not (.tmp 8), none, []⟩,
     ⟨some 4, .mv (.tmp 9), none, []⟩] [5, 6, 7, 8, 9])
  .ret))
set_option maxRecDepth 100000 in
theorem khealth_all_S1 : IsCode Try.prog 131 10 chealth_all_S1 [.tmp 4] :=
  ⟨Try.f131, _, [0, 1, 2, 4], Try.func131, rfl, by decide, rfl, by kernel_rfl, by kernel_rfl⟩
/-- health_rising -/
def chealth_rising : ACode :=
  (.seq
   (.region false [⟨some 2, .mv (.const (.bool false)), none, []⟩] [])
  (.seq
   (.seq
    (.region false [⟨some 4, .mv (.tmp 0), none, []⟩,
      ⟨some 5, .len_ (.tmp 4), none, []⟩,
      ⟨some 6, .mv (.const (.int .i64 0)), none, []⟩] [4])
   (.block 0
     (.loop
       (.seq
        (.region false [⟨some 7, .bin .lss (.tmp 6) (.tmp 5), none, []⟩] [])
       (.seq
        (.cond (.tmp 7)
          .skip
          (.exit 0))
       (.seq
        (.block 1
          (.seq
           (.region false [⟨some 8, .mv (.tmp 6), none, []⟩,
             ⟨some 3, .mv (.tmp 8), none, []⟩] [8])
          (.seq
           (.region true [⟨some 9, .mv (.tmp 3), none, []⟩,
             ⟨some 10, .bin .gtr (.tmp 9) (.const (.int .i64 0)), none, [0]⟩,
             ⟨some 11, .mv (.tmp 10), none, [1, 0]⟩,
             ⟨some 12, .mv (.tmp 0), (some (some 11, true)), [2, 1, 0]⟩,
             ⟨some 13, .mv (.tmp 3), (some (some 11, true)), [2, 1, 0]⟩,
             ⟨some 14, .iadS 1 (.tmp 12) (.tmp 13), (some (some 11, true)), [3, 2, 1, 0, 4]⟩,
             ⟨some 15, .load1 (.tmp 14), (some (some 11, true)), [5, 3, 2, 1, 0, 4]⟩,
             ⟨some 16, .mv (.tmp 0), (some (some 11, true)), [2, 1, 0]⟩,
             ⟨some 17, .mv (.tmp 3), (some (some 11, true)), [2, 1, 0]⟩,
             ⟨some 18, .bin .sub (.tmp 17) (.const (.int .i64 1)), (some (some 11, true)), [8, 2, 1, 0]⟩,
             ⟨some 19, .iadS 1 (.tmp 16) (.tmp 18), (some (some 11, true)), [7, 2, 1, 0, 9, 8]⟩,
             ⟨some 20, .load1 (.tmp 19), (some (some 11, true)), [10, 7, 2, 1, 0, 9, 8]⟩,
             ⟨some 21, .bin .leq (.tmp 15) (.tmp 20), (some (some 11, true)), [6, 5, 3, 2, 1, 0, 4, 11, 10, 7, 9, 8]⟩,
             ⟨some 22, .pick (.tmp 11) (.tmp 21) (.const (.bool false)), none, [2, 1, 0, 12, 6, 5, 3, 4, 11, 10, 7, 9, 8]⟩] [9, 10, 11, 12, 13, 14, 15, 16, 17, 18, 19, 20, 21])
          (.cond (.tmp 22)
            (.seq
             (.region false [⟨some 2, .mv (.const (.bool false)), none, []⟩] [])
            .ret)
            .skip))))
       (.region false [⟨some 23, .bin .add (.tmp 6) (.const (.int .i64 1)), none, []⟩,
         ⟨some 6, .mv (.tmp 23), none, []⟩] [23])))))))
  (.seq
   (.region false [⟨some 2, .mv (.const (.bool true)), none, []⟩] [])
  .ret)))
set_option maxRecDepth 100000 in
theorem khealth_rising : IsCode Try.prog 107 24 chealth_rising [.tmp 2] :=
  ⟨Try.f107, _, [22, 7, 0, 6, 5, 3, 2], Try.func107, rfl, by decide, rfl, by kernel_rfl, by kernel_rfl⟩
/-- health_within -/
def chealth_within : ACode :=
  (.seq
   (.region false [⟨some 6, .mv (.const (.bool false)), none, []⟩] [])
  (.seq
   (.region false [⟨some 7, .mv (.tmp 0), none, []⟩,
     ⟨some 8, .mv (.tmp 1), none, []⟩,
     ⟨some 9, .bin .geq (.tmp 7) (.tmp 8), none, []⟩,
     ⟨some 10, .mv (.tmp 9), none, []⟩,
     ⟨some 11, .mv (.tmp 0), (some (some 10, true)), []⟩,
     ⟨some 12, .mv (.tmp 2), (some (some 10, true)), []⟩,
     ⟨some 13, .bin .leq (.tmp 11) (.tmp 12), (some (some 10, true)), []⟩,
     ⟨some 14, .pick (.tmp 10) (.tmp 13) (.const (.bool false)), none, []⟩,
     ⟨some 6, .mv (.tmp 14), none, []⟩] [7, 8, 9, 10, 11, 12, 13, 14])
  .ret))
set_option maxRecDepth 100000 in
theorem khealth_within : IsCode Try.prog 59 15 chealth_within [.tmp 6] :=
  ⟨Try.f59, _, [0, 1, 2, 6], Try.func59, rfl, by decide, rfl, by kernel_rfl, by kernel_rfl⟩
/-- ref08_Average -/
def cref08_Average : ACode :=
  (.seq
   (.region false [⟨some 2, .box (.tmp 0), none, []⟩,
     ⟨some 4, .mv (.const (.slice none 0 0)), none, []⟩,
     ⟨some 5, .mv (.const (.int .i64 0)), none, []⟩,
     ⟨some 6, .mv (.const (.int .i64 0)), none, []⟩] [])
  (.seq
   (.seq
    (.region false [⟨some 12, .loadN 2 (.tmp 2), none, []⟩,
      ⟨some 13, .call (.func 102) [(.tmp 12)], none, []⟩,
      ⟨some 7, .mv (.tmp 13), none, []⟩] [12, 13])
   (.seq
    (.region false [⟨some 14, .mv (.tmp 7), none, []⟩,
      ⟨some 15, .bin .neq (.tmp 14) (.const (.int .i64 0)), none, []⟩] [14])
   (.cond (.tmp 15)
     (.seq
      (.region false [⟨some 16, .mv (.tmp 7), none, []⟩,
        ⟨some 4, .mv (.const (.slice none 0 0)), none, []⟩,
        ⟨some 5, .mv (.const (.int .i64 0)), none, []⟩,
        ⟨some 6, .mv (.tmp 16), none, []⟩] [16])
     .ret)
     .skip)))
  (.seq
   (.seq
    (.region false [⟨some 17, .mv (.tmp 1), none, []⟩,
      ⟨some 18, .call (.func 103) [(.tmp 17), (.const (.int .i64 1)), (.const (.int .i64 24))], none, []⟩,
      ⟨some 19, .un .not (.tmp 18), none, []⟩] [17, 18])
   (.cond (.tmp 19)
     (.seq
      (.region false [⟨some 4, .mv (.const (.slice none 0 0)), none, []⟩,
        ⟨some 5, .mv (.const (.int .i64 0)), none, []⟩,
        ⟨some 6, .mv (.const (.int .i64 1)), none, []⟩] [])
     .ret)
     .skip))
  (.seq
   (.region false [⟨some 20, .mv (.tmp 1), none, []⟩,
     ⟨some 21, .mksl 1 8 [(.val (.int .i64 0))] (.tmp 20) (.tmp 20), none, []⟩,
     ⟨some 8, .mv (.tmp 21), none, []⟩] [20, 21])
  (.seq
   (.region false [⟨some 22, .fad 1 (.tmp 2), none, []⟩,
     ⟨some 23, .load1 (.tmp 22), none, []⟩,
     ⟨some 24, .len_ (.tmp 23), none, []⟩,
     ⟨some 25, .bin .sub (.tmp 24) (.const (.int .i64 1)), none, []⟩,
     ⟨some 9, .mv (.tmp 25), none, []⟩] [22, 23, 24, 25])
  (.seq
   (.seq
    (.region false [⟨some 10, .mv (.const (.int .i64 0)), none, []⟩] [])
   (.block 0
     (.loop
       (.seq
        (.seq
         (.region false [⟨some 26, .mv (.tmp 10), none, []⟩,
           ⟨some 27, .mv (.tmp 9), none, []⟩,
           ⟨some 28, .bin .lss (.tmp 26) (.tmp 27), none, []⟩] [26, 27])
        (.cond (.tmp 28)
          .skip
          (.exit 0)))
       (.seq
        (.block 1
          (.seq
           (.region false [⟨some 11, .mv (.const (.int .i64 0)), none, []⟩] [])
          (.block 2
            (.loop
              (.seq
               (.seq
                (.region false [⟨some 31, .mv (.tmp 11), none, []⟩,
                  ⟨some 32, .mv (.tmp 1), none, []⟩,
                  ⟨some 33, .bin .lss (.tmp 31) (.tmp 32), none, []⟩] [31, 32])
               (.cond (.tmp 33)
                 .skip
                 (.exit 2)))
              (.seq
               (.block 3
                 (.region true [⟨some 36, .mv (.tmp 8), none, []⟩,
                   ⟨some 37, .mv (.tmp 11), none, []⟩,
                   ⟨some 38, .iadS 1 (.tmp 36) (.tmp 37), none, [0, 1]⟩,
                   ⟨some 39, .load1 (.tmp 38), none, [2, 0, 1]⟩,
                   ⟨some 40, .loadN 2 (.tmp 2), none, []⟩,
                   ⟨some 41, .mv (.tmp 10), none, []⟩,
                   ⟨some 42, .mv (.tmp 11), none, []⟩,
                   ⟨some 43, .mv (.tmp 1), none, []⟩,
                   ⟨some 44, .call (.func 104) [(.tmp 40), (.tmp 41), (.tmp 42), (.tmp 43)], none, [4, 5, 6, 7]⟩,
                   ⟨some 45, .bin .add (.tmp 39) (.tmp 44), none, [3, 2, 0, 1, 8, 4, 5, 6, 7]⟩,
                   ⟨some 46, .iadS 1 (.tmp 36) (.tmp 37), none, [0, 1, 2, 3, 4, 5, 6, 7, 8, 9]⟩,
                   ⟨none, .store 1 (.tmp 46) (.tmp 45), none, [10, 0, 1, 2, 3, 4, 5, 6, 7, 8, 9]⟩] [36, 37, 38, 39, 40, 41, 42, 43, 44, 45, 46]))
              (.region false [⟨some 34, .mv (.tmp 11), none, []⟩,
                ⟨some 35, .bin .add (.tmp 34) (.const (.int .i64 1)), none, []⟩,
                ⟨some 11, .mv (.tmp 35), none, []⟩] [34, 35])))))))
       (.region false [⟨some 29, .mv (.tmp 10), none, []⟩,
         ⟨some 30, .bin .add (.tmp 29) (.const (.int .i64 1)), none, []⟩,
         ⟨some 10, .mv (.tmp 30), none, []⟩] [29, 30]))))))
  (.seq
   (.region false [⟨some 47, .mv (.tmp 8), none, []⟩,
     ⟨some 48, .mv (.tmp 1), none, []⟩,
     ⟨some 49, .mv (.tmp 9), none, []⟩,
     ⟨some 50, .bin .mul (.tmp 48) (.tmp 49), none, []⟩,
     ⟨some 4, .mv (.tmp 47), none, []⟩,
     ⟨some 5, .mv (.tmp 50), none, []⟩,
     ⟨some 6, .mv (.const (.int .i64 0)), none, []⟩] [47, 48, 49, 50])
  .ret)))))))
set_option maxRecDepth 100000 in
theorem kref08_Average : IsCode Try.prog 57 51 cref08_Average [.tmp 4, .tmp 5, .tmp 6] :=
  ⟨Try.f57, _, [33, 28, 19, 15, 0, 2, 7, 1, 10, 9, 11, 8, 4, 5, 6], Try.func57, rfl, by decide, rfl, by kernel_rfl, by kernel_rfl⟩
/-- ref08_Check -/
def cref08_Check : ACode :=
  (.seq
   (.region false [⟨some 1, .box (.tmp 0), none, []⟩,
     ⟨some 2, .mv (.const (.int .i64 0)), none, []⟩] [])
  (.seq
   (.seq
    (.region false [⟨some 5, .fad 0 (.tmp 1), none, []⟩,
      ⟨some 6, .load1 (.tmp 5), none, []⟩,
      ⟨some 7, .len_ (.tmp 6), none, []⟩,
      ⟨some 8, .bin .gtr (.tmp 7) (.const (.int .i64 400)), none, []⟩,
      ⟨some 9, .mv (.tmp 8), none, []⟩,
      ⟨some 10, .fad 1 (.tmp 1), (some (some 9, false)), []⟩,
      ⟨some 11, .load1 (.tmp 10), (some (some 9, false)), []⟩,
      ⟨some 12, .len_ (.tmp 11), (some (some 9, false)), []⟩,
      ⟨some 13, .call (.func 103) [(.tmp 12), (.const (.int .i64 2)), (.const (.int .i64 9))], (some (some 9, false)), []⟩,
      ⟨some 14, .un .not (.tmp 13), (some (some 9, false)), []⟩,
      ⟨some 15, .pick (.tmp 9) (.const (.bool true)) (.tmp 14), none, []⟩] [5, 6, 7, 8, 9, 10, 11, 12, 13, 14])
   (.cond (.tmp 15)
     (.seq
      (.region false [⟨some 2, .mv (.const (.int .i64 80)), none, []⟩] [])
     .ret)
     .skip))
  (.seq
   (.seq
    (.region false [⟨some 3, .mv (.const (.int .i64 0)), none, []⟩] [])
   (.block 0
     (.loop
       (.seq
        (.seq
         (.region false [⟨some 16, .mv (.tmp 3), none, []⟩,
           ⟨some 17, .fad 0 (.tmp 1), none, []⟩,
           ⟨some 18, .load1 (.tmp 17), none, []⟩,
           ⟨some 19, .len_ (.tmp 18), none, []⟩,
           ⟨some 20, .bin .lss (.tmp 16) (.tmp 19), none, []⟩] [16, 17, 18, 19])
        (.cond (.tmp 20)
          .skip
          (.exit 0)))
       (.seq
        (.block 1
          (.seq
           (.region false [⟨some 23, .fad 0 (.tmp 1), none, []⟩,
             ⟨some 24, .load1 (.tmp 23), none, []⟩,
             ⟨some 25, .mv (.tmp 3), none, []⟩,
             ⟨some 26, .iadS 1 (.tmp 24) (.tmp 25), none, []⟩,
             ⟨some 27, .load1 (.tmp 26), none, []⟩,
             ⟨some 28, .call (.func 103) [(.tmp 27), (.const (.int .i64 (-100))), (.const (.int .i64 100))], none, []⟩,
             ⟨some 29, .un .not (.tmp 28), none, []⟩] [23, 24, 25, 26, 27, 28])
          (.cond (.tmp 29)
            (.seq
             (.region false [⟨some 2, .mv (.const (.int .i64 80)), none, []⟩] [])
            .ret)
            .skip)))
       (.region false [⟨some 21, .mv (.tmp 3), none, []⟩,
         ⟨some 22, .bin .add (.tmp 21) (.const (.int .i64 1)), none, []⟩,
         ⟨some 3, .mv (.tmp 22), none, []⟩] [21, 22]))))))
  (.seq
   (.seq
    (.region false [⟨some 4, .mv (.const (.int .i64 0)), none, []⟩] [])
   (.block 2
     (.loop
       (.seq
        (.seq
         (.region false [⟨some 30, .mv (.tmp 4), none, []⟩,
           ⟨some 31, .fad 1 (.tmp 1), none, []⟩,
           ⟨some 32, .load1 (.tmp 31), none, []⟩,
           ⟨some 33, .len_ (.tmp 32), none, []⟩,
           ⟨some 34, .bin .lss (.tmp 30) (.tmp 33), none, []⟩] [30, 31, 32, 33])
        (.cond (.tmp 34)
          .skip
          (.exit 2)))
       (.seq
        (.block 3
          (.seq
           (.region true [⟨some 37, .fad 1 (.tmp 1), none, []⟩,
             ⟨some 38, .load1 (.tmp 37), none, [0]⟩,
             ⟨some 39, .mv (.tmp 4), none, []⟩,
             ⟨some 40, .iadS 1 (.tmp 38) (.tmp 39), none, [1, 0, 2]⟩,
             ⟨some 41, .load1 (.tmp 40), none, [3, 1, 0, 2]⟩,
             ⟨some 42, .fad 0 (.tmp 1), none, []⟩,
             ⟨some 43, .load1 (.tmp 42), none, [5]⟩,
             ⟨some 44, .len_ (.tmp 43), none, [6, 5]⟩,
             ⟨some 45, .bin .sub (.tmp 44) (.const (.int .i64 1)), none, [7, 6, 5]⟩,
             ⟨some 46, .call (.func 103) [(.tmp 41), (.const (.int .i64 0)), (.tmp 45)], none, [4, 3, 1, 0, 2, 8, 7, 6, 5]⟩,
             ⟨some 47, .un .not (.tmp 46), none, [9, 4, 3, 1, 0, 2, 8, 7, 6, 5]⟩,
             ⟨some 48, .mv (.tmp 47), none, [10, 9, 4, 3, 1, 0, 2, 8, 7, 6, 5]⟩,
             ⟨some 49, .mv (.tmp 4), (some (some 48, false)), [11, 10, 9, 4, 3, 1, 0, 2, 8, 7, 6, 5]⟩,
             ⟨some 50, .bin .gtr (.tmp 49) (.const (.int .i64 0)), (some (some 48, false)), [12, 11, 10, 9, 4, 3, 1, 0, 2, 8, 7, 6, 5]⟩,
             ⟨some 51, .mv (.tmp 50), (some (some 48, false)), [13, 12, 11, 10, 9, 4, 3, 1, 0, 2, 8, 7, 6, 5]⟩,
             ⟨some 52, .fad 1 (.tmp 1), (some (some 51, true)), [14, 13, 12, 11, 10, 9, 4, 3, 1, 0, 2, 8, 7, 6, 5]⟩,
             ⟨some 53, .load1 (.tmp 52), (some (some 51, true)), [15, 14, 13, 12, 11, 10, 9, 4, 3, 1, 0, 2, 8, 7, 6, 5]⟩,
             ⟨some 54, .mv (.tmp 4), (some (some 51, true)), [14, 13, 12, 11, 10, 9, 4, 3, 1, 0, 2, 8, 7, 6, 5]⟩,
             ⟨some 55, .iadS 1 (.tmp 53) (.tmp 54), (some (some 51, true)), [16, 15, 14, 13, 12, 11, 10, 9, 4, 3, 1, 0, 2, 8, 7, 6, 5, 17]⟩,
             ⟨some 56, .load1 (.tmp 55), (some (some 51, true)), [18, 16, 15, 14, 13, 12, 11, 10, 9, 4, 3, 1, 0, 2, 8, 7, 6, 5, 17]⟩,
             ⟨some 57, .fad 1 (.tmp 1), (some (some 51, true)), [14, 13, 12, 11, 10, 9, 4, 3, 1, 0, 2, 8, 7, 6, 5]⟩,
             ⟨some 58, .load1 (.tmp 57), (some (some 51, true)), [20, 14, 13, 12, 11, 10, 9, 4, 3, 1, 0, 2, 8, 7, 6, 5]⟩,
             ⟨some 59, .mv (.tmp 4), (some (some 51, true)), [14, 13, 12, 11, 10, 9, 4, 3, 1, 0, 2, 8, 7, 6, 5]⟩,
             ⟨some 60, .bin .sub (.tmp 59) (.const (.int .i64 1)), (some (some 51, true)), [22, 14, 13, 12, 11, 10, 9, 4, 3, 1, 0, 2, 8, 7, 6, 5]⟩,
             ⟨some 61, .iadS 1 (.tmp 58) (.tmp 60), (some (some 51, true)), [21, 20, 14, 13, 12, 11, 10, 9, 4, 3, 1, 0, 2, 8, 7, 6, 5, 23, 22]⟩,
             ⟨some 62, .load1 (.tmp 61), (some (some 51, true)), [24, 21, 20, 14, 13, 12, 11, 10, 9, 4, 3, 1, 0, 2, 8, 7, 6, 5, 23, 22]⟩,
             ⟨some 63, .bin .leq (.tmp 56) (.tmp 62), (some (some 51, true)), [19, 18, 16, 15, 14, 13, 12, 11, 10, 9, 4, 3, 1, 0, 2, 8, 7, 6, 5, 17, 25, 24, 21, 20, 23, 22]⟩,
             ⟨some 64, .pick (.tmp 51) (.tmp 63) (.const (.bool false)), (some (some 48, false)), [14, 13, 12, 11, 10, 9, 4, 3, 1, 0, 2, 8, 7, 6, 5, 26, 19, 18, 16, 15, 17, 25, 24, 21, 20, 23, 22]⟩,
             ⟨some 65, .pick (.tmp 48) (.const (.bool true)) (.tmp 64), none, [11, 10, 9, 4, 3, 1, 0, 2, 8, 7, 6, 5, 27, 14, 13, 12, 26, 19, 18, 16, 15, 17, 25, 24, 21, 20, 23, 22]⟩] [37, 38, 39, 40, 41, 42, 43, 44, 45, 46, 47, 48, 49, 50, 51, 52, 53, 54, 55, 56, 57, 58, 59, 60, 61, 62, 63, 64])
          (.cond (.tmp 65)
            (.seq
             (.region false [⟨some 2, .mv (.const (.int .i64 80)), none, []⟩] [])
            .ret)
            .skip)))
       (.region false [⟨some 35, .mv (.tmp 4), none, []⟩,
         ⟨some 36, .bin .add (.tmp 35) (.const (.int .i64 1)), none, []⟩,
         ⟨some 4, .mv (.tmp 36), none, []⟩] [35, 36]))))))
  (.seq
   (.region false [⟨some 2, .mv (.const (.int .i64 0)), none, []⟩] [])
  .ret)))))
set_option maxRecDepth 100000 in
theorem kref08_Check : IsCode Try.prog 102 66 cref08_Check [.tmp 2] :=
  ⟨Try.f102, _, [65, 34, 29, 20, 15, 0, 1, 3, 4, 2], Try.func102, rfl, by decide, rfl, by kernel_rfl, by kernel_rfl⟩
/-- ref08_value -/
def cref08_value : ACode :=
  (.seq
   (.region false [⟨some 4, .box (.tmp 0), none, []⟩,
     ⟨some 8, .mv (.const (.int .i64 0)), none, []⟩] [])
  (.seq
   (.region true [⟨some 13, .fad 1 (.tmp 4), none, []⟩,
     ⟨some 14, .load1 (.tmp 13), none, [0]⟩,
     ⟨some 15, .mv (.tmp 1), none, []⟩,
     ⟨some 16, .iadS 1 (.tmp 14) (.tmp 15), none, [1, 0, 2]⟩,
     ⟨some 17, .load1 (.tmp 16), none, [3, 1, 0, 2]⟩,
     ⟨some 18, .fad 1 (.tmp 4), none, []⟩,
     ⟨some 19, .load1 (.tmp 18), none, [5]⟩,
     ⟨some 20, .mv (.tmp 1), none, []⟩,
     ⟨some 21, .bin .add (.tmp 20) (.const (.int .i64 1)), none, [7]⟩,
     ⟨some 22, .iadS 1 (.tmp 19) (.tmp 21), none, [6, 5, 8, 7]⟩,
     ⟨some 23, .load1 (.tmp 22), none, [9, 6, 5, 8, 7]⟩,
     ⟨some 9, .mv (.tmp 17), none, [4, 3, 1, 0, 2]⟩,
     ⟨some 10, .mv (.tmp 23), none, [10, 9, 6, 5, 8, 7, 11, 4, 3, 1, 0, 2]⟩] [13, 14, 15, 16, 17, 18, 19, 20, 21, 22, 23])
  (.seq
   (.region true [⟨some 24, .mv (.tmp 2), none, []⟩,
     ⟨some 25, .mv (.tmp 10), none, []⟩,
     ⟨some 26, .mv (.tmp 9), none, []⟩,
     ⟨some 27, .bin .sub (.tmp 25) (.tmp 26), none, [1, 2]⟩,
     ⟨some 28, .bin .mul (.tmp 24) (.tmp 27), none, [0, 3, 1, 2]⟩,
     ⟨some 29, .mv (.tmp 3), none, []⟩,
     ⟨some 30, .bin .quo (.tmp 28) (.tmp 29), none, [4, 0, 3, 1, 2, 5]⟩,
     ⟨some 31, .mv (.tmp 2), none, []⟩,
     ⟨some 32, .mv (.tmp 10), none, []⟩,
     ⟨some 33, .mv (.tmp 9), none, []⟩,
     ⟨some 34, .bin .sub (.tmp 32) (.tmp 33), none, [8, 9]⟩,
     ⟨some 35, .bin .mul (.tmp 31) (.tmp 34), none, [7, 10, 8, 9]⟩,
     ⟨some 36, .mv (.tmp 3), none, []⟩,
     ⟨some 37, .bin .rem (.tmp 35) (.tmp 36), none, [11, 7, 10, 8, 9, 12]⟩,
     ⟨some 11, .mv (.tmp 30), none, [6, 4, 0, 3, 1, 2, 5]⟩,
     ⟨some 12, .mv (.tmp 37), none, [13, 11, 7, 10, 8, 9, 12, 14, 6, 4, 0, 3, 1, 2, 5]⟩] [24, 25, 26, 27, 28, 29, 30, 31, 32, 33, 34, 35, 36, 37])
  (.seq
   (.seq
    (.region false [⟨some 38, .mv (.tmp 12), none, []⟩,
      ⟨some 39, .bin .eql (.tmp 38) (.const (.int .i64 0)), none, []⟩] [38])
   (.cond (.tmp 39)
     (.seq
      (.region false [⟨some 40, .mv (.tmp 3), none, []⟩,
        ⟨some 41, .fad 0 (.tmp 4), none, []⟩,
        ⟨some 42, .load1 (.tmp 41), none, []⟩,
        ⟨some 43, .mv (.tmp 9), none, []⟩,
        ⟨some 44, .mv (.tmp 11), none, []⟩,
        ⟨some 45, .bin .add (.tmp 43) (.tmp 44), none, []⟩,
        ⟨some 46, .iadS 1 (.tmp 42) (.tmp 45), none, []⟩,
        ⟨some 47, .load1 (.tmp 46), none, []⟩,
        ⟨some 48, .bin .mul (.tmp 40) (.tmp 47), none, []⟩,
        ⟨some 8, .mv (.tmp 48), none, []⟩] [40, 41, 42, 43, 44, 45, 46, 47, 48])
     .ret)
     .skip))
  (.seq
   (.region true [⟨some 49, .mv (.tmp 3), none, []⟩,
     ⟨some 50, .mv (.tmp 12), none, []⟩,
     ⟨some 51, .bin .sub (.tmp 49) (.tmp 50), none, [0, 1]⟩,
     ⟨some 52, .fad 0 (.tmp 4), none, []⟩,
     ⟨some 53, .load1 (.tmp 52), none, [3]⟩,
     ⟨some 54, .mv (.tmp 9), none, []⟩,
     ⟨some 55, .mv (.tmp 11), none, []⟩,
     ⟨some 56, .bin .add (.tmp 54) (.tmp 55), none, [5, 6]⟩,
     ⟨some 57, .iadS 1 (.tmp 53) (.tmp 56), none, [4, 3, 7, 5, 6]⟩,
     ⟨some 58, .load1 (.tmp 57), none, [8, 4, 3, 7, 5, 6]⟩,
     ⟨some 59, .bin .mul (.tmp 51) (.tmp 58), none, [2, 0, 1, 9, 8, 4, 3, 7, 5, 6]⟩,
     ⟨some 60, .mv (.tmp 12), none, []⟩,
     ⟨some 61, .fad 0 (.tmp 4), none, []⟩,
     ⟨some 62, .load1 (.tmp 61), none, [12]⟩,
     ⟨some 63, .mv (.tmp 9), none, []⟩,
     ⟨some 64, .mv (.tmp 11), none, []⟩,
     ⟨some 65, .bin .add (.tmp 63) (.tmp 64), none, [14, 15]⟩,
     ⟨some 66, .bin .add (.tmp 65) (.const (.int .i64 1)), none, [16, 14, 15]⟩,
     ⟨some 67, .iadS 1 (.tmp 62) (.tmp 66), none, [13, 12, 17, 16, 14, 15]⟩,
     ⟨some 68, .load1 (.tmp 67), none, [18, 13, 12, 17, 16, 14, 15]⟩,
     ⟨some 69, .bin .mul (.tmp 60) (.tmp 68), none, [11, 19, 18, 13, 12, 17, 16, 14, 15]⟩,
     ⟨some 70, .bin .add (.tmp 59) (.tmp 69), none, [10, 2, 0, 1, 9, 8, 4, 3, 7, 5, 6, 20, 11, 19, 18, 13, 12, 17, 16, 14, 15]⟩,
     ⟨some 8, .mv (.tmp 70), none, [21, 10, 2, 0, 1, 9, 8, 4, 3, 7, 5, 6, 20, 11, 19, 18, 13, 12, 17, 16, 14, 15]⟩] [49, 50, 51, 52, 53, 54, 55, 56, 57, 58, 59, 60, 61, 62, 63, 64, 65, 66, 67, 68, 69, 70])
  .ret)))))
set_option maxRecDepth 100000 in
theorem kref08_value : IsCode Try.prog 104 71 cref08_value [.tmp 8] :=
  ⟨Try.f104, _, [39, 0, 4, 1, 2, 10, 9, 3, 12, 11, 8], Try.func104, rfl, by decide, rfl, by kernel_rfl, by kernel_rfl⟩
/-- ref08_within -/
def cref08_within : ACode :=
  (.seq
   (.region false [⟨some 6, .mv (.const (.bool false)), none, []⟩] [])
  (.seq
   (.region false [⟨some 7, .mv (.tmp 0), none, []⟩,
     ⟨some 8, .mv (.tmp 1), none, []⟩,
     ⟨some 9, .bin .geq (.tmp 7) (.tmp 8), none, []⟩,
     ⟨some 10, .mv (.tmp 9), none, []⟩,
     ⟨some 11, .mv (.tmp 0), (some (some 10, true)), []⟩,
     ⟨some 12, .mv (.tmp 2), (some (some 10, true)), []⟩,
     ⟨some 13, .bin .leq (.tmp 11) (.tmp 12), (some (some 10, true)), []⟩,
     ⟨some 14, .pick (.tmp 10) (.tmp 13) (.const (.bool false)), none, []⟩,
     ⟨some 6, .mv (.tmp 14), none, []⟩] [7, 8, 9, 10, 11, 12, 13, 14])
  .ret))
set_option maxRecDepth 100000 in
theorem kref08_within : IsCode Try.prog 103 15 cref08_within [.tmp 6] :=
  ⟨Try.f103, _, [0, 1, 2, 6], Try.func103, rfl, by decide, rfl, by kernel_rfl, by kernel_rfl⟩
end Go.Proofs.Ytgibbaadjbohdaa
/- health: Check and Average of a vibration. No conditions. -/
set_option linter.unusedSimpArgs false
set_option linter.unusedVariables false
namespace Go.Proofs.Ytgibbaadjbohdaa
open Go.RowKit Lift

set_option maxRecDepth 100000 in
set_option maxHeartbeats 1000000 in
theorem hwithin_ac (n a b : Int) : AC Try.prog 59 [dI n, dI a, dI b] [] [] (dB (wI n a b)) := by
  refine khealth_within.ac (n0 := 0) (by simp) ⟨.val _, .val _, .val _, trivial⟩ trivial rfl ?_
  unfold chealth_within wI
  cases q1 : decide (a ≤ n) <;> cases q2 : decide (n ≤ b)
  all_goals
    (have hg : (987654321 : Nat) - 987654321 = 0 := rfl; have hr := hg; repeat' (first | refine aw_seq ?_ | (refine aw_skip ?_; try simp only [thenQ, blockQ, if_true, if_false, Nat.reduceEqDiff, reduceCtorEq]) | (refine aw_exit ?_; try simp only [thenQ, blockQ, if_true, if_false, Nat.reduceEqDiff, reduceCtorEq]) | refine aw_ret ?_ | refine aw_block ?_ | refine aw_condT rfl ?_ | refine aw_condF rfl ?_ | ((first | refine aw_region ?_ | refine ago_if (by omega) ?_ | skip); simp (config := {maxSteps := 10000000}) (disch := first | exact okYes (by kernel_rfl) | omega) only [thenQ, List.map, dB, Bool.and_false, List.length, Nat.zero_add, Nat.reduceMul, envOf, dI, Nat.reduceAdd, ARun_none, AOpRun, aexec, FSt.ev, AGo_ok, St.app, putO, eput_c, Nat.reduceBEq, eput_n, cond_false, hups, ARun_nil, dropE_c, inL_n, dropE_n, St.F, ↓eget_h, eget_c, isSh, Bool.false_eq_true, ↓reduceIte, Option.map, abin, ge_iff_le, q1, ARun_some, AG_ft, beq_self_eq_true, cond_true, inL_c, Bool.and_true, AG_tt, q2])))
    all_goals (refine end_to [] [] (by first | exact .inl rfl | exact .inr rfl) rfl (by kernel_rfl) (by kernel_rfl) (by kernel_rfl) ?_ ?_ <;> repeat' (first | exact trivial | exact vr_val _))
set_option maxRecDepth 100000 in
set_option maxHeartbeats 1000000 in
theorem hall1_ac (x a b : Int) : AC Try.prog 131 [dI x, .ptr 0 0, .ptr 8 0] [(0, [dI a]), (8, [dI b])] [(0, some [dI a]), (8, some [dI b])] (dB (!wI x a b)) := by
  refine khealth_all_S1.ac (n0 := 200) (by simp) ⟨.val _, .ptr _ _ (by omega), .ptr _ _ (by omega), trivial⟩ ⟨⟨by omega, by intro d hd; simp at hd; subst hd; exact .val _⟩, ⟨by omega, by intro d hd; simp at hd; subst hd; exact .val _⟩, trivial⟩ rfl ?_
  unfold chealth_all_S1
  (have hg : (987654321 : Nat) - 987654321 = 0 := rfl; have hr := hg; repeat' (first | refine aw_seq ?_ | (refine aw_skip ?_; with_reducible repeat' (first | refine thenQ_n ?_ | refine blockQ_n ?_ | refine thenQ_e ?_ | refine blockQ_t ?_ | refine blockQ_f (by decide) ?_)) | (refine aw_exit ?_; with_reducible repeat' (first | refine thenQ_n ?_ | refine blockQ_n ?_ | refine thenQ_e ?_ | refine blockQ_t ?_ | refine blockQ_f (by decide) ?_)) | refine aw_ret ?_ | refine aw_block ?_ | refine aw_condT rfl ?_ | refine aw_condF rfl ?_ | ((first | refine aw_hide fun K hK => aw_region ?_ | refine acall0 (hwithin_ac _ _ _) ?_ | refine ago_if (by omega) ?_ | skip); simp (config := {maxSteps := 10000000}) (disch := first | exact okYes (by kernel_rfl) | omega) only [List.length, Nat.zero_add, Nat.reduceMul, Nat.reduceAdd, envOf, dI, ARun_none, AOpRun, aexec, FSt.ev, AGo_ok, St.app, putO, eput_c, Nat.reduceBEq, eput_n, cond_false, hups, List.map, ARun_nil, dropE_c, inL_n, dropE_n, St.F, ↓eget_h, Option.map, run1, eget_c, hget_c, beq_self_eq_true, hget_n, cond_true, List.getElem?_cons_zero, ↓hget_h, dB, inL_c]) | (subst hK; with_reducible repeat' (first | refine thenQ_n ?_ | refine blockQ_n ?_ | refine thenQ_e ?_ | refine blockQ_t ?_ | refine blockQ_f (by decide) ?_))))
  all_goals (refine end_to [] [(0, 0), (8, 8)] (by first | exact .inl rfl | exact .inr rfl) rfl (by kernel_rfl) (by kernel_rfl) (by kernel_rfl) ?_ ?_ <;> repeat' (first | exact trivial | exact vr_val _ | refine And.intro ⟨_, rfl, _, rfl, by decide, ?_⟩ ?_ | apply And.intro))
set_option maxRecDepth 100000 in
set_option maxHeartbeats 4000000 in
theorem hidx_ac (l : List Int) (a b : Int) (hl : l.length ≤ 1000000) : AC Try.prog 129 [.list (ints l), .fn 131 [] [.ptr 0 0, .ptr 8 0]] [(0, [dI a]), (8, [dI b])] [(0, some [dI a]), (8, some [dI b])] (dI (match l.findIdx? (fun x => !wI x a b) with
    | some k => (k : Int)
    | none => -1)) := by
  refine kslices_IndexFunc_L_L_Jint_Kint_J.ac (n0 := 200) (by simp) ⟨.list _, .fn _ _ _ (by simp) (by intro d hd; simp at hd; rcases hd with rfl | rfl <;> exact .ptr _ _ (by omega)), trivial⟩ ⟨⟨by omega, by intro d hd; simp at hd; subst hd; exact .val _⟩, ⟨by omega, by intro d hd; simp at hd; subst hd; exact .val _⟩, trivial⟩ rfl ?_
  unfold cslices_IndexFunc_L_L_Jint_Kint_J
  (have hg : (987654321 : Nat) - 987654321 = 0 := rfl; have hr := hg; repeat' (first | refine aw_seq ?_ | (refine aw_skip ?_; with_reducible repeat' (first | refine thenQ_n ?_ | refine blockQ_n ?_ | refine thenQ_e ?_ | refine blockQ_t ?_ | refine blockQ_f (by decide) ?_)) | (refine aw_exit ?_; with_reducible repeat' (first | refine thenQ_n ?_ | refine blockQ_n ?_ | refine thenQ_e ?_ | refine blockQ_t ?_ | refine blockQ_f (by decide) ?_)) | refine aw_ret ?_ | refine aw_block ?_ | refine aw_condT rfl ?_ | refine aw_condF rfl ?_ | ((first | refine aw_hide fun K hK => aw_region ?_ | refine ago_if (by omega) ?_ | skip); simp (config := {maxSteps := 10000000}) (disch := first | exact okYes (by kernel_rfl) | omega) only [List.length, Nat.zero_add, Nat.reduceMul, Nat.reduceAdd, envOf, dI, ARun_none, AOpRun, aexec, FSt.ev, AGo_ok, St.app, putO, eput_c, Nat.reduceBEq, eput_n, cond_false, hups, List.map, ARun_nil, dropE_c, inL_n, dropE_n, St.F, ↓eget_h, eget_c, ints_len, inL_c, beq_self_eq_true, cond_true, Int.reduceNeg]) | (subst hK; with_reducible repeat' (first | refine thenQ_n ?_ | refine blockQ_n ?_ | refine thenQ_e ?_ | refine blockQ_t ?_ | refine blockQ_f (by decide) ?_))))
  refine aw_loop (fun k : Nat => ⟨[(0, .list (ints l)), (1, .fn 131 [] [.ptr 0 0, .ptr 8 0]), (7, dI l.length), (8, dI k)], [(0, [dI a]), (8, [dI b])], 400⟩) (fun k => k ≤ l.length ∧ ∀ j, j < k → wI (l[j]?.getD 0) a b = true) (fun k => l.length - k) ⟨0, ⟨by omega, fun j hj => by omega⟩, ?_⟩ ?_
  · unfold dI
    refine wk_to [] [(0, 0), (8, 8)] (by kernel_rfl) (by kernel_rfl) (by kernel_rfl) (by kernel_rfl) (by kernel_rfl) ?_ ?_ <;> repeat' (first | exact trivial | exact vr_val _ | exact vr_list _ | exact vr_ptr _ _ _ rfl | apply vr_fn | refine And.intro ⟨_, rfl, .inl ⟨_, rfl, by decide, ?_⟩⟩ ?_ | apply And.intro)
  rintro k ⟨hk, hin⟩
  by_cases hk2 : k < l.length
  · have g1 := ints_gd l k hk2
    cases he : wI (l[k]?.getD 0) a b with
    | false =>
      have q : l.findIdx? (fun x => !wI x a b) = some k := by
        rw [List.findIdx?_eq_some_iff_getElem]
        refine ⟨hk2, by have := he; simp [hk2] at this; simp [this], fun j hj => ?_⟩
        have := hin j hj
        simpa [show j < l.length by omega] using this
      rw [q]
      (have hg : (987654321 : Nat) - 987654321 = 0 := rfl; have hr := hg; repeat' (first | refine aw_seq ?_ | (refine aw_skip ?_; with_reducible repeat' (first | refine thenQ_n ?_ | refine blockQ_n ?_ | refine thenQ_e ?_ | refine blockQ_t ?_ | refine blockQ_f (by decide) ?_)) | (refine aw_exit ?_; with_reducible repeat' (first | refine thenQ_n ?_ | refine blockQ_n ?_ | refine thenQ_e ?_ | refine blockQ_t ?_ | refine blockQ_f (by decide) ?_)) | refine aw_ret ?_ | refine aw_block ?_ | refine aw_condT rfl ?_ | refine aw_condF rfl ?_ | (refine aw_cond rfl (fun hg => ?_) (fun hg => ?_) <;> (try (have hq := hg; simp only [Bool.not_eq_true', Bool.not_eq_false', Bool.and_eq_true, Bool.and_eq_false_iff, Bool.or_eq_true, Bool.or_eq_false_iff, decide_eq_true_eq, decide_eq_false_iff_not, bne_iff_ne, beq_iff_eq, beq_eq_false_iff_ne, bne_eq_false_iff_eq, ne_eq, Int.not_lt, Int.not_le, Decidable.not_not] at hq)) <;> (try (have hr := hg; simp only [decide_eq_true_eq, decide_eq_false_iff_not] at hr)) <;> (try (exfalso; omega))) | ((first | refine aw_hide fun K hK => aw_region ?_ | refine acallB (hall1_ac _ a b) (by repeat' (first | exact trivial | exact rfl | refine And.intro ?_ ?_)) (by kernel_rfl) (by kernel_rfl) (by kernel_rfl) ?_ | refine ago_if (by omega) ?_ | skip); simp (config := {maxSteps := 10000000}) (disch := first | exact okYes (by kernel_rfl) | omega) only [List.length, Nat.zero_add, Nat.reduceMul, Nat.reduceAdd, dI, ARun_none, AOpRun, aexec, FSt.ev, St.F, eget_c, Nat.reduceBEq, ↓eget_h, cond_false, isSh, Bool.false_eq_true, ↓reduceIte, Option.map, abin, AGo_ok, St.app, putO, eput_c, eput_n, hups, List.map, ARun_nil, dropE_c, inL_n, dropE_n, hr, decide_true, inL_c, beq_self_eq_true, cond_true, Int.natCast_nonneg, ints_all, and_self, opt1, Int.toNat_natCast, g1, run1, List.getElem?_cons_zero, dB, he, Bool.not_false, hput_c, hput_n, List.append_nil, blockQ, thenQ]) | (subst hK; with_reducible repeat' (first | refine thenQ_n ?_ | refine blockQ_n ?_ | refine thenQ_e ?_ | refine blockQ_t ?_ | refine blockQ_f (by decide) ?_))))
      all_goals (refine end_to [] [(0, 0), (8, 8)] (by first | exact .inl rfl | exact .inr rfl) rfl (by kernel_rfl) (by kernel_rfl) (by kernel_rfl) ?_ ?_ <;> repeat' (first | exact trivial | exact vr_val _ | refine And.intro ⟨_, rfl, _, rfl, by decide, ?_⟩ ?_ | apply And.intro))
    | true =>
      (have hg : (987654321 : Nat) - 987654321 = 0 := rfl; have hr := hg; repeat' (first | refine aw_seq ?_ | (refine aw_skip ?_; with_reducible repeat' (first | refine thenQ_n ?_ | refine blockQ_n ?_ | refine thenQ_e ?_ | refine blockQ_t ?_ | refine blockQ_f (by decide) ?_)) | (refine aw_exit ?_; with_reducible repeat' (first | refine thenQ_n ?_ | refine blockQ_n ?_ | refine thenQ_e ?_ | refine blockQ_t ?_ | refine blockQ_f (by decide) ?_)) | refine aw_ret ?_ | refine aw_block ?_ | refine aw_condT rfl ?_ | refine aw_condF rfl ?_ | (refine aw_cond rfl (fun hg => ?_) (fun hg => ?_) <;> (try (have hq := hg; simp only [Bool.not_eq_true', Bool.not_eq_false', Bool.and_eq_true, Bool.and_eq_false_iff, Bool.or_eq_true, Bool.or_eq_false_iff, decide_eq_true_eq, decide_eq_false_iff_not, bne_iff_ne, beq_iff_eq, beq_eq_false_iff_ne, bne_eq_false_iff_eq, ne_eq, Int.not_lt, Int.not_le, Decidable.not_not] at hq)) <;> (try (have hr := hg; simp only [decide_eq_true_eq, decide_eq_false_iff_not] at hr)) <;> (try (exfalso; omega))) | ((first | refine aw_hide fun K hK => aw_region ?_ | refine acallB (hall1_ac _ a b) (by repeat' (first | exact trivial | exact rfl | refine And.intro ?_ ?_)) (by kernel_rfl) (by kernel_rfl) (by kernel_rfl) ?_ | refine ago_if (by omega) ?_ | skip); simp (config := {maxSteps := 10000000}) (disch := first | exact okYes (by kernel_rfl) | omega) only [List.length, Nat.zero_add, Nat.reduceMul, Nat.reduceAdd, dI, ARun_none, AOpRun, aexec, FSt.ev, St.F, eget_c, Nat.reduceBEq, ↓eget_h, cond_false, isSh, Bool.false_eq_true, ↓reduceIte, Option.map, abin, AGo_ok, St.app, putO, eput_c, eput_n, hups, List.map, ARun_nil, dropE_c, inL_n, dropE_n, hr, decide_true, inL_c, beq_self_eq_true, cond_true, Int.natCast_nonneg, ints_all, and_self, opt1, Int.toNat_natCast, g1, run1, List.getElem?_cons_zero, dB, he, Bool.not_true, hput_c, hput_n, List.append_nil, fits]) | (subst hK; with_reducible repeat' (first | refine thenQ_n ?_ | refine blockQ_n ?_ | refine thenQ_e ?_ | refine blockQ_t ?_ | refine blockQ_f (by decide) ?_))))
      refine ⟨k + 1, ⟨by omega, fun j hj => ?_⟩, by omega, ?_⟩
      · rcases (by omega : j < k ∨ j = k) with h | rfl
        · exact hin j h
        · exact he
      · refine wk_to [] [(0, 0), (8, 8)] (by kernel_rfl) (by kernel_rfl) (by kernel_rfl) (by kernel_rfl) (by kernel_rfl) ?_ ?_ <;> repeat' (first | exact trivial | exact vr_val _ | exact vr_list _ | exact vr_ptr _ _ _ rfl | apply vr_fn | refine And.intro ⟨_, rfl, .inl ⟨_, rfl, by decide, ?_⟩⟩ ?_ | apply And.intro)
  · obtain rfl : k = l.length := by omega
    have q : l.findIdx? (fun x => !wI x a b) = none := by
      rw [List.findIdx?_eq_none_iff]
      intro y hy
      obtain ⟨j, hj, rfl⟩ := List.getElem_of_mem hy
      have := hin j hj
      simp [hj] at this
      simp [this]
    rw [q]
    (have hg : (987654321 : Nat) - 987654321 = 0 := rfl; have hr := hg; repeat' (first | refine aw_seq ?_ | (refine aw_skip ?_; with_reducible repeat' (first | refine thenQ_n ?_ | refine blockQ_n ?_ | refine thenQ_e ?_ | refine blockQ_t ?_ | refine blockQ_f (by decide) ?_)) | (refine aw_exit ?_; with_reducible repeat' (first | refine thenQ_n ?_ | refine blockQ_n ?_ | refine thenQ_e ?_ | refine blockQ_t ?_ | refine blockQ_f (by decide) ?_)) | refine aw_ret ?_ | refine aw_block ?_ | refine aw_condT rfl ?_ | refine aw_condF rfl ?_ | (refine aw_cond rfl (fun hg => ?_) (fun hg => ?_) <;> (try (have hq := hg; simp only [Bool.not_eq_true', Bool.not_eq_false', Bool.and_eq_true, Bool.and_eq_false_iff, Bool.or_eq_true, Bool.or_eq_false_iff, decide_eq_true_eq, decide_eq_false_iff_not, bne_iff_ne, beq_iff_eq, beq_eq_false_iff_ne, bne_eq_false_iff_eq, ne_eq, Int.not_lt, Int.not_le, Decidable.not_not] at hq)) <;> (try (have hr := hg; simp only [decide_eq_true_eq, decide_eq_false_iff_not] at hr)) <;> (try (exfalso; omega))) | ((first | refine aw_hide fun K hK => aw_region ?_ | refine ago_if (by omega) ?_ | skip); simp (config := {maxSteps := 10000000}) (disch := first | exact okYes (by kernel_rfl) | omega) only [List.length, Nat.zero_add, Nat.reduceMul, Nat.reduceAdd, dI, ARun_none, AOpRun, aexec, FSt.ev, St.F, eget_c, Nat.reduceBEq, ↓eget_h, cond_false, isSh, Bool.false_eq_true, ↓reduceIte, Option.map, abin, AGo_ok, St.app, putO, eput_c, eput_n, hups, List.map, ARun_nil, dropE_c, inL_n, dropE_n, Int.reduceNeg, hr, decide_false]) | (subst hK; with_reducible repeat' (first | refine thenQ_n ?_ | refine blockQ_n ?_ | refine thenQ_e ?_ | refine blockQ_t ?_ | refine blockQ_f (by decide) ?_))))
    all_goals (refine end_to [] [(0, 0), (8, 8)] (by first | exact .inl rfl | exact .inr rfl) rfl (by kernel_rfl) (by kernel_rfl) (by kernel_rfl) ?_ ?_ <;> repeat' (first | exact trivial | exact vr_val _ | refine And.intro ⟨_, rfl, _, rfl, by decide, ?_⟩ ?_ | apply And.intro))
set_option maxRecDepth 100000 in
set_option maxHeartbeats 2000000 in
theorem hcont_ac (l : List Int) (a b : Int) (hl : l.length ≤ 1000000) : AC Try.prog 94 [.list (ints l), .fn 131 [] [.ptr 0 0, .ptr 8 0]] [(0, [dI a]), (8, [dI b])] [(0, some [dI a]), (8, some [dI b])] (dB (!allI l a b)) := by
  refine kslices_ContainsFunc_L_L_Jint_Kint_J.ac (n0 := 200) (by simp) ⟨.list _, .fn _ _ _ (by simp) (by intro d hd; simp at hd; rcases hd with rfl | rfl <;> exact .ptr _ _ (by omega)), trivial⟩ ⟨⟨by omega, by intro d hd; simp at hd; subst hd; exact .val _⟩, ⟨by omega, by intro d hd; simp at hd; subst hd; exact .val _⟩, trivial⟩ rfl ?_
  unfold cslices_ContainsFunc_L_L_Jint_Kint_J
  have hf := hidx_ac l a b hl
  cases h : l.findIdx? (fun x => !wI x a b) with
  | none =>
    have ha : allI l a b = true := by
      rw [List.findIdx?_eq_none_iff] at h
      refine List.all_eq_true.2 fun x hx => ?_
      have := h x hx
      simpa using this
    rw [h] at hf
    rw [ha]
    (have hg : (987654321 : Nat) - 987654321 = 0 := rfl; have hr := hg; repeat' (first | refine aw_seq ?_ | (refine aw_skip ?_; with_reducible repeat' (first | refine thenQ_n ?_ | refine blockQ_n ?_ | refine thenQ_e ?_ | refine blockQ_t ?_ | refine blockQ_f (by decide) ?_)) | (refine aw_exit ?_; with_reducible repeat' (first | refine thenQ_n ?_ | refine blockQ_n ?_ | refine thenQ_e ?_ | refine blockQ_t ?_ | refine blockQ_f (by decide) ?_)) | refine aw_ret ?_ | refine aw_block ?_ | refine aw_condT rfl ?_ | refine aw_condF rfl ?_ | ((first | refine aw_hide fun K hK => aw_region ?_ | refine acallB (hf) (by repeat' (first | exact trivial | exact rfl | refine And.intro ?_ ?_)) (by kernel_rfl) (by kernel_rfl) (by kernel_rfl) ?_ | refine ago_if (by omega) ?_ | skip); simp (config := {maxSteps := 10000000}) (disch := first | exact okYes (by kernel_rfl) | omega) only [List.length, Nat.zero_add, Nat.reduceMul, Nat.reduceAdd, envOf, dI, ARun_none, AOpRun, aexec, FSt.ev, AGo_ok, St.app, putO, eput_c, Nat.reduceBEq, eput_n, cond_false, hups, List.map, ARun_nil, dropE_c, inL_n, dropE_n, St.F, ↓eget_h, eget_c, Int.reduceNeg, hput_c, beq_self_eq_true, hput_n, cond_true, List.append_nil, isSh, Bool.false_eq_true, ↓reduceIte, Option.map, abin, inL_c, dB, Bool.not_true]) | (subst hK; with_reducible repeat' (first | refine thenQ_n ?_ | refine blockQ_n ?_ | refine thenQ_e ?_ | refine blockQ_t ?_ | refine blockQ_f (by decide) ?_))))
    all_goals (refine end_to [] [(0, 0), (8, 8)] (by first | exact .inl rfl | exact .inr rfl) rfl (by kernel_rfl) (by kernel_rfl) (by kernel_rfl) ?_ ?_ <;> repeat' (first | exact trivial | exact vr_val _ | refine And.intro ⟨_, rfl, _, rfl, by decide, ?_⟩ ?_ | apply And.intro))
  | some k =>
    have ha : allI l a b = false := by
      rw [List.findIdx?_eq_some_iff_getElem] at h
      obtain ⟨hk, he, _⟩ := h
      refine List.all_eq_false.2 ⟨l[k], List.getElem_mem hk, by simpa using he⟩
    rw [h] at hf
    rw [ha]
    have q : decide ((k : Int) ≥ 0) = true := decide_eq_true (by omega)
    (have hg : (987654321 : Nat) - 987654321 = 0 := rfl; have hr := hg; repeat' (first | refine aw_seq ?_ | (refine aw_skip ?_; with_reducible repeat' (first | refine thenQ_n ?_ | refine blockQ_n ?_ | refine thenQ_e ?_ | refine blockQ_t ?_ | refine blockQ_f (by decide) ?_)) | (refine aw_exit ?_; with_reducible repeat' (first | refine thenQ_n ?_ | refine blockQ_n ?_ | refine thenQ_e ?_ | refine blockQ_t ?_ | refine blockQ_f (by decide) ?_)) | refine aw_ret ?_ | refine aw_block ?_ | refine aw_condT rfl ?_ | refine aw_condF rfl ?_ | ((first | refine aw_hide fun K hK => aw_region ?_ | refine acallB (hf) (by repeat' (first | exact trivial | exact rfl | refine And.intro ?_ ?_)) (by kernel_rfl) (by kernel_rfl) (by kernel_rfl) ?_ | refine ago_if (by omega) ?_ | skip); simp (config := {maxSteps := 10000000}) (disch := first | exact okYes (by kernel_rfl) | omega) only [List.length, Nat.zero_add, Nat.reduceMul, Nat.reduceAdd, envOf, dI, ARun_none, AOpRun, aexec, FSt.ev, AGo_ok, St.app, putO, eput_c, Nat.reduceBEq, eput_n, cond_false, hups, List.map, ARun_nil, dropE_c, inL_n, dropE_n, St.F, ↓eget_h, eget_c, hput_c, beq_self_eq_true, hput_n, cond_true, List.append_nil, isSh, Bool.false_eq_true, ↓reduceIte, Option.map, abin, Int.natCast_nonneg, decide_true, inL_c, dB, Bool.not_false]) | (subst hK; with_reducible repeat' (first | refine thenQ_n ?_ | refine blockQ_n ?_ | refine thenQ_e ?_ | refine blockQ_t ?_ | refine blockQ_f (by decide) ?_))))
    all_goals (refine end_to [] [(0, 0), (8, 8)] (by first | exact .inl rfl | exact .inr rfl) rfl (by kernel_rfl) (by kernel_rfl) (by kernel_rfl) ?_ ?_ <;> repeat' (first | exact trivial | exact vr_val _ | refine And.intro ⟨_, rfl, _, rfl, by decide, ?_⟩ ?_ | apply And.intro))
set_option maxRecDepth 100000 in
set_option maxHeartbeats 2000000 in
theorem hall_ac (l : List Int) (a b : Int) (hl : l.length ≤ 1000000) : AC Try.prog 105 [.list (ints l), dI a, dI b] [] [] (dB (allI l a b)) := by
  refine khealth_all.ac (n0 := 0) (by simp) ⟨.list _, .val _, .val _, trivial⟩ trivial rfl ?_
  unfold chealth_all
  have ch := hcont_ac l a b hl
  refine aw_seq (aw_region ?_)
  simp (config := {maxSteps := 10000000}) (disch := first | exact okYes (by kernel_rfl) | omega) only [thenQ, List.map, dB, List.length, Nat.zero_add, Nat.reduceAdd, Nat.reduceMul, envOf, dI, ARun_none, AOpRun, aexec, D.isBot, FSt.ev, St.F, eget_c, Nat.reduceBEq, ↓eget_h, cond_false, Bool.false_eq_true, Option.isSome, hget_n, or_self, ↓reduceIte, D.cells, AGo_ok, St.app, putO, eput_c, eput_n, hups, hput_n, hget_c, hput_c, ARun_nil, dropE_c, inL_n, dropE_n]
  refine aw_wk (s' := ⟨[(0, .list (ints l)), (4, .ptr 0 0), (5, .ptr 8 0)], [(0, [dI a]), (8, [dI b])], 200⟩) ?_ ?_
  · unfold dI
    refine wk_to [] [(0, 0), (8, 8)] (by kernel_rfl) (by kernel_rfl) (by kernel_rfl) (by kernel_rfl) (by kernel_rfl) ?_ ?_ <;> repeat' (first | exact trivial | exact vr_val _ | exact vr_list _ | exact vr_ptr _ _ _ rfl | refine And.intro ⟨_, rfl, .inl ⟨_, rfl, by decide, ?_⟩⟩ ?_ | apply And.intro)
  (have hg : (987654321 : Nat) - 987654321 = 0 := rfl; have hr := hg; repeat' (first | refine aw_seq ?_ | (refine aw_skip ?_; with_reducible repeat' (first | refine thenQ_n ?_ | refine blockQ_n ?_ | refine thenQ_e ?_ | refine blockQ_t ?_ | refine blockQ_f (by decide) ?_)) | (refine aw_exit ?_; with_reducible repeat' (first | refine thenQ_n ?_ | refine blockQ_n ?_ | refine thenQ_e ?_ | refine blockQ_t ?_ | refine blockQ_f (by decide) ?_)) | refine aw_ret ?_ | refine aw_block ?_ | refine aw_condT rfl ?_ | refine aw_condF rfl ?_ | ((first | refine aw_hide fun K hK => aw_region ?_ | refine acallB (ch) (by repeat' (first | exact trivial | exact rfl | refine And.intro ?_ ?_)) (by kernel_rfl) (by kernel_rfl) (by kernel_rfl) ?_ | refine ago_if (by omega) ?_ | skip); simp (config := {maxSteps := 10000000}) (disch := first | exact okYes (by kernel_rfl) | omega) only [List.length, Nat.zero_add, Nat.reduceAdd, Nat.reduceMul, dI, ARun_none, AOpRun, aexec, FSt.ev, St.F, ↓eget_h, AGo_ok, St.app, putO, eput_c, Nat.reduceBEq, eput_n, cond_false, hups, List.map, eget_c, dB, hput_c, beq_self_eq_true, hput_n, cond_true, List.append_nil, Bool.not_not, ARun_nil, dropE_c, inL_c, inL_n, dropE_n]) | (subst hK; with_reducible repeat' (first | refine thenQ_n ?_ | refine blockQ_n ?_ | refine thenQ_e ?_ | refine blockQ_t ?_ | refine blockQ_f (by decide) ?_))))
  (refine end_to [] [] (by first | exact .inl rfl | exact .inr rfl) rfl (by kernel_rfl) (by kernel_rfl) (by kernel_rfl) ?_ ?_ <;> repeat' (first | exact trivial | exact vr_val _))
set_option maxRecDepth 100000 in
set_option maxHeartbeats 2000000 in
theorem hrising_ac (l : List Int) (hl : l.length ≤ 1000000) : AC Try.prog 107 [.list (ints l)] [] [] (dB (risI l)) := by
  refine khealth_rising.ac (n0 := 0) (by simp) ⟨.list _, trivial⟩ trivial rfl ?_
  unfold chealth_rising
  (have hg : (987654321 : Nat) - 987654321 = 0 := rfl; have hr := hg; repeat' (first | refine aw_seq ?_ | (refine aw_skip ?_; with_reducible repeat' (first | refine thenQ_n ?_ | refine blockQ_n ?_ | refine thenQ_e ?_ | refine blockQ_t ?_ | refine blockQ_f (by decide) ?_)) | (refine aw_exit ?_; with_reducible repeat' (first | refine thenQ_n ?_ | refine blockQ_n ?_ | refine thenQ_e ?_ | refine blockQ_t ?_ | refine blockQ_f (by decide) ?_)) | refine aw_ret ?_ | refine aw_block ?_ | refine aw_condT rfl ?_ | refine aw_condF rfl ?_ | ((first | refine aw_hide fun K hK => aw_region ?_ | refine ago_if (by omega) ?_ | skip); simp (config := {maxSteps := 10000000}) (disch := first | exact okYes (by kernel_rfl) | omega) only [List.length, Nat.zero_add, Nat.reduceMul, envOf, ARun_none, AOpRun, aexec, FSt.ev, AGo_ok, St.app, putO, eput_c, Nat.reduceBEq, eput_n, cond_false, hups, List.map, ARun_nil, dropE_c, inL_n, dropE_n, Nat.reduceAdd, St.F, ↓eget_h, eget_c, ints_len, inL_c, beq_self_eq_true, cond_true, dB]) | (subst hK; with_reducible repeat' (first | refine thenQ_n ?_ | refine blockQ_n ?_ | refine thenQ_e ?_ | refine blockQ_t ?_ | refine blockQ_f (by decide) ?_))))
  refine aw_loop (fun k : Nat => ⟨[(0, .list (ints l)), (5, dI l.length), (6, dI k)], [], 400⟩) (fun k => k ≤ l.length ∧ ∀ j, j < k → 0 < j → iat l (j - 1) < iat l j) (fun k => l.length - k) ⟨0, ⟨by omega, fun j hj => by omega⟩, ?_⟩ ?_
  · refine wk_to [] [] (by kernel_rfl) (by kernel_rfl) (by kernel_rfl) (by kernel_rfl) (by kernel_rfl) ?_ ?_ <;> repeat' (first | exact trivial | exact vr_val _ | exact vr_list _ | apply And.intro)
  rintro k ⟨hk, hin⟩
  by_cases hk2 : k < l.length
  case neg =>
    obtain rfl : k = l.length := by omega
    rw [risI_yes hin]
    (have hg : (987654321 : Nat) - 987654321 = 0 := rfl; have hr := hg; repeat' (first | refine aw_seq ?_ | (refine aw_skip ?_; with_reducible repeat' (first | refine thenQ_n ?_ | refine blockQ_n ?_ | refine thenQ_e ?_ | refine blockQ_t ?_ | refine blockQ_f (by decide) ?_)) | (refine aw_exit ?_; with_reducible repeat' (first | refine thenQ_n ?_ | refine blockQ_n ?_ | refine thenQ_e ?_ | refine blockQ_t ?_ | refine blockQ_f (by decide) ?_)) | refine aw_ret ?_ | refine aw_block ?_ | refine aw_condT rfl ?_ | refine aw_condF rfl ?_ | (refine aw_cond rfl (fun hg => ?_) (fun hg => ?_) <;> (try (have hq := hg; simp only [Bool.not_eq_true', Bool.not_eq_false', Bool.and_eq_true, Bool.and_eq_false_iff, Bool.or_eq_true, Bool.or_eq_false_iff, decide_eq_true_eq, decide_eq_false_iff_not, bne_iff_ne, beq_iff_eq, beq_eq_false_iff_ne, bne_eq_false_iff_eq, ne_eq, Int.not_lt, Int.not_le, Decidable.not_not] at hq)) <;> (try (have hr := hg; simp only [decide_eq_true_eq, decide_eq_false_iff_not] at hr)) <;> (try (exfalso; omega))) | ((first | refine aw_hide fun K hK => aw_region ?_ | refine ago_if (by omega) ?_ | skip); simp (config := {maxSteps := 10000000}) (disch := first | exact okYes (by kernel_rfl) | omega) only [List.length, Nat.zero_add, Nat.reduceMul, Nat.reduceAdd, dI, ARun_none, AOpRun, aexec, FSt.ev, St.F, eget_c, Nat.reduceBEq, ↓eget_h, cond_false, isSh, Bool.false_eq_true, ↓reduceIte, Option.map, abin, AGo_ok, St.app, putO, eput_c, eput_n, hups, List.map, ARun_nil, dropE_c, inL_n, dropE_n, hr, decide_false]) | (subst hK; with_reducible repeat' (first | refine thenQ_n ?_ | refine blockQ_n ?_ | refine thenQ_e ?_ | refine blockQ_t ?_ | refine blockQ_f (by decide) ?_))))
    all_goals (refine end_to [] [] (by first | exact .inl rfl | exact .inr rfl) rfl (by kernel_rfl) (by kernel_rfl) (by kernel_rfl) ?_ ?_ <;> repeat' (first | exact trivial | exact vr_val _))
  have ki : (k : Int) < (l.length : Int) := by omega
  have step : (0 < k → iat l (k - 1) < iat l k) → ∀ j, j < k + 1 → 0 < j → iat l (j - 1) < iat l j := fun h j hj h0 => by
    rcases (by omega : j < k ∨ j = k) with h1 | rfl
    · exact hin j h1 h0
    · exact h h0
  rcases Nat.eq_zero_or_pos k with rfl | h0
  · (have hg : (987654321 : Nat) - 987654321 = 0 := rfl; have hr := hg; repeat' (first | refine aw_seq ?_ | (refine aw_skip ?_; with_reducible repeat' (first | refine thenQ_n ?_ | refine blockQ_n ?_ | refine thenQ_e ?_ | refine blockQ_t ?_ | refine blockQ_f (by decide) ?_)) | (refine aw_exit ?_; with_reducible repeat' (first | refine thenQ_n ?_ | refine blockQ_n ?_ | refine thenQ_e ?_ | refine blockQ_t ?_ | refine blockQ_f (by decide) ?_)) | refine aw_ret ?_ | refine aw_block ?_ | refine aw_condT rfl ?_ | refine aw_condF rfl ?_ | (refine aw_cond rfl (fun hg => ?_) (fun hg => ?_) <;> (try (have hq := hg; simp only [Bool.not_eq_true', Bool.not_eq_false', Bool.and_eq_true, Bool.and_eq_false_iff, Bool.or_eq_true, Bool.or_eq_false_iff, decide_eq_true_eq, decide_eq_false_iff_not, bne_iff_ne, beq_iff_eq, beq_eq_false_iff_ne, bne_eq_false_iff_eq, ne_eq, Int.not_lt, Int.not_le, Decidable.not_not] at hq)) <;> (try (have hr := hg; simp only [decide_eq_true_eq, decide_eq_false_iff_not] at hr)) <;> (try (exfalso; omega))) | (refine ag_bool (fun hg => ?_) (fun hg => ?_) <;> (try (have hq := hg; simp only [Bool.not_eq_true', Bool.not_eq_false', Bool.and_eq_true, Bool.and_eq_false_iff, Bool.or_eq_true, Bool.or_eq_false_iff, decide_eq_true_eq, decide_eq_false_iff_not, bne_iff_ne, beq_iff_eq, beq_eq_false_iff_ne, bne_eq_false_iff_eq, ne_eq, Int.not_lt, Int.not_le, Decidable.not_not] at hq)) <;> (try (have hr := hg; simp only [decide_eq_true_eq, decide_eq_false_iff_not] at hr)) <;> (try (exfalso; omega)) <;> simp (config := {maxSteps := 10000000}) (disch := first | exact okYes (by kernel_rfl) | omega) only [hr, decide_false, AG_ft, Nat.reduceAdd, St.app, putO, eput_c, Nat.reduceBEq, eput_n, cond_false, hups, ARun_some, eget_c, ↓eget_h, ARun_none, AOpRun, aexec, FSt.ev, St.F, Bool.false_eq_true, ↓reduceIte, AGo_ok, List.map, ARun_nil, dropE_c, inL_c, inL_n, beq_self_eq_true, cond_true, dropE_n]) | ((first | refine aw_hide fun K hK => aw_region ?_ | refine ago_if (by omega) ?_ | skip); simp (config := {maxSteps := 10000000}) (disch := first | exact okYes (by kernel_rfl) | omega) only [List.length, Nat.zero_add, Nat.reduceMul, Nat.reduceAdd, dI, cast_lit, ARun_none, AOpRun, aexec, FSt.ev, St.F, eget_c, Nat.reduceBEq, ↓eget_h, cond_false, isSh, Bool.false_eq_true, ↓reduceIte, Option.map, abin, AGo_ok, St.app, putO, eput_c, eput_n, hups, List.map, ARun_nil, dropE_c, inL_n, dropE_n, hr, decide_true, inL_c, beq_self_eq_true, cond_true, ARun_some, Int.reduceAdd, fits]) | (subst hK; with_reducible repeat' (first | refine thenQ_n ?_ | refine blockQ_n ?_ | refine thenQ_e ?_ | refine blockQ_t ?_ | refine blockQ_f (by decide) ?_))))
    refine ⟨1, ⟨by omega, step (fun h => by omega)⟩, by omega, ?_⟩
    refine wk_to [] [] (by kernel_rfl) (by kernel_rfl) (by kernel_rfl) (by kernel_rfl) (by kernel_rfl) ?_ ?_ <;> repeat' (first | exact trivial | exact vr_val _ | exact vr_list _ | apply And.intro)
  obtain ⟨j, rfl⟩ : ∃ j, k = j + 1 := ⟨k - 1, by omega⟩
  have g1 := ints_gd l (j + 1) hk2
  have g2 := ints_gd l j (by omega)
  rw [show l[j + 1]?.getD 0 = iat l (j + 1) from rfl] at g1
  rw [show l[j]?.getD 0 = iat l j from rfl] at g2
  have e1 : IntKind.i64.wrap (((j + 1 : Nat) : Int) - 1) = (j : Int) := by rw [wrap_in (by omega) (by omega)]; omega
  have kj : (j : Int) < (l.length : Int) := by omega
  have q0 : decide (((j + 1 : Nat) : Int) > 0) = true := decide_eq_true (by omega)
  have hst := step
  generalize hk3 : j + 1 = k at *
  cases q1 : decide (iat l k ≤ iat l j) with
  | true =>
    rw [risI_no (k := k) (by omega) hk2 (by have := of_decide_eq_true q1; rw [show k - 1 = j by omega]; exact this)]
    (have hg : (987654321 : Nat) - 987654321 = 0 := rfl; have hr := hg; repeat' (first | refine aw_seq ?_ | (refine aw_skip ?_; with_reducible repeat' (first | refine thenQ_n ?_ | refine blockQ_n ?_ | refine thenQ_e ?_ | refine blockQ_t ?_ | refine blockQ_f (by decide) ?_)) | (refine aw_exit ?_; with_reducible repeat' (first | refine thenQ_n ?_ | refine blockQ_n ?_ | refine thenQ_e ?_ | refine blockQ_t ?_ | refine blockQ_f (by decide) ?_)) | refine aw_ret ?_ | refine aw_block ?_ | refine aw_condT rfl ?_ | refine aw_condF rfl ?_ | (refine aw_cond rfl (fun hg => ?_) (fun hg => ?_) <;> (try (have hq := hg; simp only [Bool.not_eq_true', Bool.not_eq_false', Bool.and_eq_true, Bool.and_eq_false_iff, Bool.or_eq_true, Bool.or_eq_false_iff, decide_eq_true_eq, decide_eq_false_iff_not, bne_iff_ne, beq_iff_eq, beq_eq_false_iff_ne, bne_eq_false_iff_eq, ne_eq, Int.not_lt, Int.not_le, Decidable.not_not] at hq)) <;> (try (have hr := hg; simp only [decide_eq_true_eq, decide_eq_false_iff_not] at hr)) <;> (try (exfalso; omega))) | ((first | refine aw_hide fun K hK => aw_region ?_ | refine ago_if (by omega) ?_ | skip); simp (config := {maxSteps := 10000000}) (disch := first | exact okYes (by kernel_rfl) | omega) only [List.length, Nat.zero_add, Nat.reduceMul, Nat.reduceAdd, dI, ARun_none, AOpRun, aexec, FSt.ev, St.F, eget_c, Nat.reduceBEq, ↓eget_h, cond_false, isSh, Bool.false_eq_true, ↓reduceIte, Option.map, abin, AGo_ok, St.app, putO, eput_c, eput_n, hups, List.map, ARun_nil, dropE_c, inL_n, dropE_n, hr, decide_true, inL_c, beq_self_eq_true, cond_true, q0, ARun_some, AG_tt, Int.natCast_nonneg, ints_all, and_self, opt1, Int.toNat_natCast, g1, run1, List.getElem?_cons_zero, e1, g2, q1, blockQ, thenQ]) | (subst hK; with_reducible repeat' (first | refine thenQ_n ?_ | refine blockQ_n ?_ | refine thenQ_e ?_ | refine blockQ_t ?_ | refine blockQ_f (by decide) ?_))))
    all_goals (refine end_to [] [] (by first | exact .inl rfl | exact .inr rfl) rfl (by kernel_rfl) (by kernel_rfl) (by kernel_rfl) ?_ ?_ <;> repeat' (first | exact trivial | exact vr_val _))
  | false =>
    (have hg : (987654321 : Nat) - 987654321 = 0 := rfl; have hr := hg; repeat' (first | refine aw_seq ?_ | (refine aw_skip ?_; with_reducible repeat' (first | refine thenQ_n ?_ | refine blockQ_n ?_ | refine thenQ_e ?_ | refine blockQ_t ?_ | refine blockQ_f (by decide) ?_)) | (refine aw_exit ?_; with_reducible repeat' (first | refine thenQ_n ?_ | refine blockQ_n ?_ | refine thenQ_e ?_ | refine blockQ_t ?_ | refine blockQ_f (by decide) ?_)) | refine aw_ret ?_ | refine aw_block ?_ | refine aw_condT rfl ?_ | refine aw_condF rfl ?_ | (refine aw_cond rfl (fun hg => ?_) (fun hg => ?_) <;> (try (have hq := hg; simp only [Bool.not_eq_true', Bool.not_eq_false', Bool.and_eq_true, Bool.and_eq_false_iff, Bool.or_eq_true, Bool.or_eq_false_iff, decide_eq_true_eq, decide_eq_false_iff_not, bne_iff_ne, beq_iff_eq, beq_eq_false_iff_ne, bne_eq_false_iff_eq, ne_eq, Int.not_lt, Int.not_le, Decidable.not_not] at hq)) <;> (try (have hr := hg; simp only [decide_eq_true_eq, decide_eq_false_iff_not] at hr)) <;> (try (exfalso; omega))) | ((first | refine aw_hide fun K hK => aw_region ?_ | refine ago_if (by omega) ?_ | skip); simp (config := {maxSteps := 10000000}) (disch := first | exact okYes (by kernel_rfl) | omega) only [List.length, Nat.zero_add, Nat.reduceMul, Nat.reduceAdd, dI, ARun_none, AOpRun, aexec, FSt.ev, St.F, eget_c, Nat.reduceBEq, ↓eget_h, cond_false, isSh, Bool.false_eq_true, ↓reduceIte, Option.map, abin, AGo_ok, St.app, putO, eput_c, eput_n, hups, List.map, ARun_nil, dropE_c, inL_n, dropE_n, hr, decide_true, inL_c, beq_self_eq_true, cond_true, q0, ARun_some, AG_tt, Int.natCast_nonneg, ints_all, and_self, opt1, Int.toNat_natCast, g1, run1, List.getElem?_cons_zero, e1, g2, q1, fits]) | (subst hK; with_reducible repeat' (first | refine thenQ_n ?_ | refine blockQ_n ?_ | refine thenQ_e ?_ | refine blockQ_t ?_ | refine blockQ_f (by decide) ?_))))
    refine ⟨k + 1, ⟨by omega, hst (fun _ => by have := of_decide_eq_false q1; rw [show k - 1 = j by omega]; omega)⟩, by omega, ?_⟩
    refine wk_to [] [] (by kernel_rfl) (by kernel_rfl) (by kernel_rfl) (by kernel_rfl) (by kernel_rfl) ?_ ?_ <;> repeat' (first | exact trivial | exact vr_val _ | exact vr_list _ | apply And.intro)
theorem in_vib (S : Nat → Prop) (s m : List Int) : In S (.agg [.list (ints s), .list (ints m)]) := .agg _ (by intro d hd; simp at hd; rcases hd with rfl | rfl <;> exact .list _)
theorem vib_yes {s m : List Int} (h1 : s.length ≤ 400) (h2 : allI s (-100) 100 = true) (h3 : wI (m.length : Int) 2 9 = true) (h4 : allI m 0 ((s.length : Int) - 1) = true) (h5 : risI m = true) : vibE s m = 0 := by
  unfold vibE vibB; rw [decide_eq_true h1, h2, h3, h4, h5]; rfl
theorem vib_no {s m : List Int} (h : vibB s m = false) : vibE s m = 80 := by unfold vibE; rw [h]; rfl
set_option maxRecDepth 100000 in
set_option maxHeartbeats 4000000 in
theorem hcheck_ac (s m : List Int) (hs : s.length ≤ 1000000) (hm : m.length ≤ 1000000) : AC Try.prog 61 [.agg [.list (ints s), .list (ints m)]] [] [] (dI (vibE s m)) := by
  refine khealth_Check.ac (n0 := 0) (by simp) ⟨in_vib _ _ _, trivial⟩ trivial rfl ?_
  unfold chealth_Check
  have c1 := hall_ac s (-100) 100 hs
  have c2 := hwithin_ac m.length 2 9
  have c3 := hall_ac m 0 ((s.length : Int) - 1) hm
  have c4 := hrising_ac m hm
  have sl := ints_len s
  have ml := ints_len m
  cases q1 : decide ((s.length : Int) > 400) with
  | true =>
    have h1 := of_decide_eq_true q1
    rw [vib_no (by unfold vibB; rw [decide_eq_false (by omega)]; rfl)]
    (have hg : (987654321 : Nat) - 987654321 = 0 := rfl; have hr := hg; repeat' (first | refine aw_seq ?_ | (refine aw_skip ?_; with_reducible repeat' (first | refine thenQ_n ?_ | refine blockQ_n ?_ | refine thenQ_e ?_ | refine blockQ_t ?_ | refine blockQ_f (by decide) ?_)) | (refine aw_exit ?_; with_reducible repeat' (first | refine thenQ_n ?_ | refine blockQ_n ?_ | refine thenQ_e ?_ | refine blockQ_t ?_ | refine blockQ_f (by decide) ?_)) | refine aw_ret ?_ | refine aw_block ?_ | refine aw_condT rfl ?_ | refine aw_condF rfl ?_ | ((first | refine aw_hide fun K hK => aw_region ?_ | refine ago_if (by omega) ?_ | skip); simp (config := {maxSteps := 10000000}) (disch := first | exact okYes (by kernel_rfl) | omega) only [List.length, Nat.zero_add, Nat.reduceAdd, Nat.reduceMul, envOf, ARun_none, AOpRun, aexec, D.isBot, FSt.ev, St.F, ↓eget_h, Bool.false_eq_true, Option.isSome, hget_n, or_self, ↓reduceIte, D.cells, AGo_ok, St.app, putO, eput_c, Nat.reduceBEq, eput_n, cond_false, hups, hput_n, List.map, ARun_nil, dropE_c, inL_n, dropE_n, Int.reduceNeg, eget_c, Option.map, run1, hget_c, beq_self_eq_true, cond_true, List.getElem?_cons_zero, sl, isSh, abin, q1, ARun_some, AG_tf, inL_c, thenQ, dI]) | (subst hK; with_reducible repeat' (first | refine thenQ_n ?_ | refine blockQ_n ?_ | refine thenQ_e ?_ | refine blockQ_t ?_ | refine blockQ_f (by decide) ?_))))
    all_goals (refine end_to [] [] (by first | exact .inl rfl | exact .inr rfl) rfl (by kernel_rfl) (by kernel_rfl) (by kernel_rfl) ?_ ?_ <;> repeat' (first | exact trivial | exact vr_val _))
  | false =>
  have h1 := of_decide_eq_false q1
  have h1' : decide (s.length ≤ 400) = true := decide_eq_true (by omega)
  cases q2 : allI s (-100) 100 with
  | false =>
    rw [q2] at c1
    rw [vib_no (by unfold vibB; rw [q2]; simp)]
    (have hg : (987654321 : Nat) - 987654321 = 0 := rfl; have hr := hg; repeat' (first | refine aw_seq ?_ | (refine aw_skip ?_; with_reducible repeat' (first | refine thenQ_n ?_ | refine blockQ_n ?_ | refine thenQ_e ?_ | refine blockQ_t ?_ | refine blockQ_f (by decide) ?_)) | (refine aw_exit ?_; with_reducible repeat' (first | refine thenQ_n ?_ | refine blockQ_n ?_ | refine thenQ_e ?_ | refine blockQ_t ?_ | refine blockQ_f (by decide) ?_)) | refine aw_ret ?_ | refine aw_block ?_ | refine aw_condT rfl ?_ | refine aw_condF rfl ?_ | ((first | refine aw_hide fun K hK => aw_region ?_ | refine acall0 (c1) ?_ | refine ago_if (by omega) ?_ | skip); simp (config := {maxSteps := 10000000}) (disch := first | exact okYes (by kernel_rfl) | omega) only [List.length, Nat.zero_add, Nat.reduceAdd, Nat.reduceMul, envOf, ARun_none, AOpRun, aexec, D.isBot, FSt.ev, St.F, ↓eget_h, Bool.false_eq_true, Option.isSome, hget_n, or_self, ↓reduceIte, D.cells, AGo_ok, St.app, putO, eput_c, Nat.reduceBEq, eput_n, cond_false, hups, hput_n, List.map, ARun_nil, dropE_c, inL_n, dropE_n, Int.reduceNeg, eget_c, Option.map, run1, hget_c, beq_self_eq_true, cond_true, List.getElem?_cons_zero, sl, isSh, abin, q1, ARun_some, AG_ff, dB, Bool.not_false, AG_tf, inL_c, thenQ, dI]) | (subst hK; with_reducible repeat' (first | refine thenQ_n ?_ | refine blockQ_n ?_ | refine thenQ_e ?_ | refine blockQ_t ?_ | refine blockQ_f (by decide) ?_))))
    all_goals (refine end_to [] [] (by first | exact .inl rfl | exact .inr rfl) rfl (by kernel_rfl) (by kernel_rfl) (by kernel_rfl) ?_ ?_ <;> repeat' (first | exact trivial | exact vr_val _))
  | true =>
  rw [q2] at c1
  cases q3 : wI (m.length : Int) 2 9 with
  | false =>
    rw [q3] at c2
    rw [vib_no (by unfold vibB; rw [q3]; simp)]
    (have hg : (987654321 : Nat) - 987654321 = 0 := rfl; have hr := hg; repeat' (first | refine aw_seq ?_ | (refine aw_skip ?_; with_reducible repeat' (first | refine thenQ_n ?_ | refine blockQ_n ?_ | refine thenQ_e ?_ | refine blockQ_t ?_ | refine blockQ_f (by decide) ?_)) | (refine aw_exit ?_; with_reducible repeat' (first | refine thenQ_n ?_ | refine blockQ_n ?_ | refine thenQ_e ?_ | refine blockQ_t ?_ | refine blockQ_f (by decide) ?_)) | refine aw_ret ?_ | refine aw_block ?_ | refine aw_condT rfl ?_ | refine aw_condF rfl ?_ | ((first | refine aw_hide fun K hK => aw_region ?_ | refine acall0 (c1) ?_ | refine acall0 (c2) ?_ | refine ago_if (by omega) ?_ | skip); simp (config := {maxSteps := 10000000}) (disch := first | exact okYes (by kernel_rfl) | omega) only [List.length, Nat.zero_add, Nat.reduceAdd, Nat.reduceMul, envOf, ARun_none, AOpRun, aexec, D.isBot, FSt.ev, St.F, ↓eget_h, Bool.false_eq_true, Option.isSome, hget_n, or_self, ↓reduceIte, D.cells, AGo_ok, St.app, putO, eput_c, Nat.reduceBEq, eput_n, cond_false, hups, hput_n, List.map, ARun_nil, dropE_c, inL_n, dropE_n, Int.reduceNeg, eget_c, Option.map, run1, hget_c, beq_self_eq_true, cond_true, List.getElem?_cons_zero, sl, isSh, abin, q1, ARun_some, AG_ff, dB, Bool.not_true, List.getElem?_cons_succ, ml, Bool.not_false, AG_tf, inL_c, thenQ, dI]) | (subst hK; with_reducible repeat' (first | refine thenQ_n ?_ | refine blockQ_n ?_ | refine thenQ_e ?_ | refine blockQ_t ?_ | refine blockQ_f (by decide) ?_))))
    all_goals (refine end_to [] [] (by first | exact .inl rfl | exact .inr rfl) rfl (by kernel_rfl) (by kernel_rfl) (by kernel_rfl) ?_ ?_ <;> repeat' (first | exact trivial | exact vr_val _))
  | true =>
  rw [q3] at c2
  cases q4 : allI m 0 ((s.length : Int) - 1) with
  | false =>
    rw [q4] at c3
    rw [vib_no (by unfold vibB; rw [q4]; simp)]
    (have hg : (987654321 : Nat) - 987654321 = 0 := rfl; have hr := hg; repeat' (first | refine aw_seq ?_ | (refine aw_skip ?_; with_reducible repeat' (first | refine thenQ_n ?_ | refine blockQ_n ?_ | refine thenQ_e ?_ | refine blockQ_t ?_ | refine blockQ_f (by decide) ?_)) | (refine aw_exit ?_; with_reducible repeat' (first | refine thenQ_n ?_ | refine blockQ_n ?_ | refine thenQ_e ?_ | refine blockQ_t ?_ | refine blockQ_f (by decide) ?_)) | refine aw_ret ?_ | refine aw_block ?_ | refine aw_condT rfl ?_ | refine aw_condF rfl ?_ | ((first | refine aw_hide fun K hK => aw_region ?_ | refine acall0 (c1) ?_ | refine acall0 (c2) ?_ | refine acall0 (c3) ?_ | refine ago_if (by omega) ?_ | skip); simp (config := {maxSteps := 10000000}) (disch := first | exact okYes (by kernel_rfl) | omega) only [List.length, Nat.zero_add, Nat.reduceAdd, Nat.reduceMul, envOf, ARun_none, AOpRun, aexec, D.isBot, FSt.ev, St.F, ↓eget_h, Bool.false_eq_true, Option.isSome, hget_n, or_self, ↓reduceIte, D.cells, AGo_ok, St.app, putO, eput_c, Nat.reduceBEq, eput_n, cond_false, hups, hput_n, List.map, ARun_nil, dropE_c, inL_n, dropE_n, Int.reduceNeg, eget_c, Option.map, run1, hget_c, beq_self_eq_true, cond_true, List.getElem?_cons_zero, sl, isSh, abin, q1, ARun_some, AG_ff, dB, Bool.not_true, List.getElem?_cons_succ, ml, fits, Bool.not_false, AG_tf, inL_c, thenQ, dI]) | (subst hK; with_reducible repeat' (first | refine thenQ_n ?_ | refine blockQ_n ?_ | refine thenQ_e ?_ | refine blockQ_t ?_ | refine blockQ_f (by decide) ?_))))
    all_goals (refine end_to [] [] (by first | exact .inl rfl | exact .inr rfl) rfl (by kernel_rfl) (by kernel_rfl) (by kernel_rfl) ?_ ?_ <;> repeat' (first | exact trivial | exact vr_val _))
  | true =>
  rw [q4] at c3
  cases q5 : risI m with
  | false =>
    rw [q5] at c4
    rw [vib_no (by unfold vibB; rw [q5]; simp)]
    (have hg : (987654321 : Nat) - 987654321 = 0 := rfl; have hr := hg; repeat' (first | refine aw_seq ?_ | (refine aw_skip ?_; with_reducible repeat' (first | refine thenQ_n ?_ | refine blockQ_n ?_ | refine thenQ_e ?_ | refine blockQ_t ?_ | refine blockQ_f (by decide) ?_)) | (refine aw_exit ?_; with_reducible repeat' (first | refine thenQ_n ?_ | refine blockQ_n ?_ | refine thenQ_e ?_ | refine blockQ_t ?_ | refine blockQ_f (by decide) ?_)) | refine aw_ret ?_ | refine aw_block ?_ | refine aw_condT rfl ?_ | refine aw_condF rfl ?_ | ((first | refine aw_hide fun K hK => aw_region ?_ | refine acall0 (c1) ?_ | refine acall0 (c2) ?_ | refine acall0 (c3) ?_ | refine acall0 (c4) ?_ | refine ago_if (by omega) ?_ | skip); simp (config := {maxSteps := 10000000}) (disch := first | exact okYes (by kernel_rfl) | omega) only [List.length, Nat.zero_add, Nat.reduceAdd, Nat.reduceMul, envOf, ARun_none, AOpRun, aexec, D.isBot, FSt.ev, St.F, ↓eget_h, Bool.false_eq_true, Option.isSome, hget_n, or_self, ↓reduceIte, D.cells, AGo_ok, St.app, putO, eput_c, Nat.reduceBEq, eput_n, cond_false, hups, hput_n, List.map, ARun_nil, dropE_c, inL_n, dropE_n, Int.reduceNeg, eget_c, Option.map, run1, hget_c, beq_self_eq_true, cond_true, List.getElem?_cons_zero, sl, isSh, abin, q1, ARun_some, AG_ff, dB, Bool.not_true, List.getElem?_cons_succ, ml, fits, Bool.not_false, inL_c, thenQ, dI]) | (subst hK; with_reducible repeat' (first | refine thenQ_n ?_ | refine blockQ_n ?_ | refine thenQ_e ?_ | refine blockQ_t ?_ | refine blockQ_f (by decide) ?_))))
    all_goals (refine end_to [] [] (by first | exact .inl rfl | exact .inr rfl) rfl (by kernel_rfl) (by kernel_rfl) (by kernel_rfl) ?_ ?_ <;> repeat' (first | exact trivial | exact vr_val _))
  | true =>
    rw [q5] at c4
    rw [vib_yes (by omega) q2 q3 q4 q5]
    (have hg : (987654321 : Nat) - 987654321 = 0 := rfl; have hr := hg; repeat' (first | refine aw_seq ?_ | (refine aw_skip ?_; with_reducible repeat' (first | refine thenQ_n ?_ | refine blockQ_n ?_ | refine thenQ_e ?_ | refine blockQ_t ?_ | refine blockQ_f (by decide) ?_)) | (refine aw_exit ?_; with_reducible repeat' (first | refine thenQ_n ?_ | refine blockQ_n ?_ | refine thenQ_e ?_ | refine blockQ_t ?_ | refine blockQ_f (by decide) ?_)) | refine aw_ret ?_ | refine aw_block ?_ | refine aw_condT rfl ?_ | refine aw_condF rfl ?_ | ((first | refine aw_hide fun K hK => aw_region ?_ | refine acall0 (c1) ?_ | refine acall0 (c2) ?_ | refine acall0 (c3) ?_ | refine acall0 (c4) ?_ | refine ago_if (by omega) ?_ | skip); simp (config := {maxSteps := 10000000}) (disch := first | exact okYes (by kernel_rfl) | omega) only [List.length, Nat.zero_add, Nat.reduceAdd, Nat.reduceMul, envOf, ARun_none, AOpRun, aexec, D.isBot, FSt.ev, St.F, ↓eget_h, Bool.false_eq_true, Option.isSome, hget_n, or_self, ↓reduceIte, D.cells, AGo_ok, St.app, putO, eput_c, Nat.reduceBEq, eput_n, cond_false, hups, hput_n, List.map, ARun_nil, dropE_c, inL_n, dropE_n, Int.reduceNeg, eget_c, Option.map, run1, hget_c, beq_self_eq_true, cond_true, List.getElem?_cons_zero, sl, isSh, abin, q1, ARun_some, AG_ff, dB, Bool.not_true, List.getElem?_cons_succ, ml, fits, inL_c, dI]) | (subst hK; with_reducible repeat' (first | refine thenQ_n ?_ | refine blockQ_n ?_ | refine thenQ_e ?_ | refine blockQ_t ?_ | refine blockQ_f (by decide) ?_))))
    all_goals (refine end_to [] [] (by first | exact .inl rfl | exact .inr rfl) rfl (by kernel_rfl) (by kernel_rfl) (by kernel_rfl) ?_ ?_ <;> repeat' (first | exact trivial | exact vr_val _))
end Go.Proofs.Ytgibbaadjbohdaa
