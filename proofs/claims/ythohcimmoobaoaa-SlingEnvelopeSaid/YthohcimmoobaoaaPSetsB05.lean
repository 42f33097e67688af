/- Texts of the laws, shared part 5. No conditions. -/
import Derived.Test.YthohcimmoobaoaaPSetsB04
import Derived.Test.YthohcimmoobaoaaRows
/- The functions' bodies, translated. Written by a program; no conditions. -/
namespace Go.Proofs.Ythohcimmoobaoaa
open Go.RowKit Lift

/-- sling_Swing -/
def csling_Swing : ACode :=
  (.seq
   (.region false [⟨some 3, .box (.tmp 0), none, []⟩,
     ⟨some 4, .box (.tmp 1), none, []⟩,
     ⟨some 6, .mv (.const (.slice none 0 0)), none, []⟩,
     ⟨some 7, .mv (.const (.int .i64 0)), none, []⟩] [])
  (.seq
   (.seq
    (.region false [⟨some 12, .loadN 3 (.tmp 3), none, []⟩,
      ⟨some 13, .call (.func 25) [(.tmp 12)], none, []⟩,
      ⟨some 8, .mv (.tmp 13), none, []⟩] [12, 13])
   (.seq
    (.region false [⟨some 14, .mv (.tmp 8), none, []⟩,
      ⟨some 15, .bin .neq (.tmp 14) (.const (.int .i64 0)), none, []⟩] [14])
   (.cond (.tmp 15)
     (.seq
      (.region false [⟨some 16, .mv (.tmp 8), none, []⟩,
        ⟨some 6, .mv (.const (.slice none 0 0)), none, []⟩,
        ⟨some 7, .mv (.tmp 16), none, []⟩] [16])
     .ret)
     .skip)))
  (.seq
   (.seq
    (.region false [⟨some 17, .mv (.tmp 2), none, []⟩,
      ⟨some 18, .len_ (.tmp 17), none, []⟩,
      ⟨some 19, .bin .gtr (.tmp 18) (.const (.int .i64 16)), none, []⟩] [17, 18])
   (.cond (.tmp 19)
     (.seq
      (.region false [⟨some 6, .mv (.const (.slice none 0 0)), none, []⟩,
        ⟨some 7, .mv (.const (.int .i64 2)), none, []⟩] [])
     .ret)
     .skip))
  (.seq
   (.seq
    (.region false [⟨some 20, .loadN 2 (.tmp 4), none, []⟩,
      ⟨some 21, .call (.func 50) [(.tmp 20)], none, []⟩,
      ⟨some 22, .un .not (.tmp 21), none, []⟩,
      ⟨some 23, .mv (.tmp 22), none, []⟩,
      ⟨some 24, .mv (.tmp 2), (some (some 23, false)), []⟩,
      ⟨some 25, .call (.func 51) [(.tmp 24), (.func 52)], (some (some 23, false)), []⟩,
      ⟨some 26, .pick (.tmp 23) (.const (.bool true)) (.tmp 25), none, []⟩] [20, 21, 22, 23, 24, 25])
   (.cond (.tmp 26)
     (.seq
      (.region false [⟨some 6, .mv (.const (.slice none 0 0)), none, []⟩,
        ⟨some 7, .mv (.const (.int .i64 1)), none, []⟩] [])
     .ret)
     .skip))
  (.seq
   (.region false [⟨some 27, .loadN 3 (.tmp 3), none, []⟩,
     ⟨some 28, .iadA 2 1 (.tmp 4) (.const (.int .i64 0)), none, []⟩,
     ⟨some 29, .load1 (.tmp 28), none, []⟩,
     ⟨some 30, .iadA 2 1 (.tmp 4) (.const (.int .i64 1)), none, []⟩,
     ⟨some 31, .load1 (.tmp 30), none, []⟩,
     ⟨some 32, .build [(.val (.int .i64 0)), (.val (.int .i64 0)), (.val (.int .i64 0)), (.val (.int .i64 0)), (.val (.int .i64 0)), (.val (.int .i64 0))] [(0, 3, (.tmp 27)), (3, 1, (.tmp 29)), (4, 1, (.tmp 31)), (5, 1, (.const (.int .i64 1)))], none, []⟩,
     ⟨some 33, .box (.tmp 32), none, []⟩,
     ⟨some 9, .mv (.tmp 33), none, []⟩] [27, 28, 29, 30, 31, 32, 33])
  (.seq
   (.seq
    (.region false [⟨some 34, .mv (.tmp 2), none, []⟩,
      ⟨some 35, .len_ (.tmp 34), none, []⟩,
      ⟨some 36, .mv (.const (.int .i64 0)), none, []⟩] [])
   (.block 0
     (.loop
       (.seq
        (.region false [⟨some 37, .bin .lss (.tmp 36) (.tmp 35), none, []⟩] [])
       (.seq
        (.cond (.tmp 37)
          .skip
          (.exit 0))
       (.seq
        (.block 1
          (.seq
           (.region false [⟨some 38, .iadS 1 (.tmp 34) (.tmp 36), none, []⟩,
             ⟨some 39, .load1 (.tmp 38), none, []⟩,
             ⟨some 11, .mv (.tmp 39), none, []⟩] [38, 39])
          (.seq
           (.region false [⟨some 40, .mv (.tmp 9), none, []⟩,
             ⟨some 41, .mv (.tmp 11), none, []⟩,
             ⟨some 42, .call (.func 54) [(.tmp 40), (.tmp 41)], none, []⟩] [40, 41, 42])
          (.region false [⟨some 43, .mv (.tmp 6), none, []⟩,
            ⟨some 44, .mv (.tmp 9), none, []⟩,
            ⟨some 45, .call (.func 55) [(.tmp 44)], none, []⟩,
            ⟨some 46, .buildSl 2 1 [(.val (.int .i64 0)), (.val (.int .i64 0))] [(0, 2, (.tmp 45))], none, []⟩,
            ⟨some 47, .app 2 16 (.tmp 43) (.tmp 46), none, []⟩,
            ⟨some 6, .mv (.tmp 47), none, []⟩] [43, 44, 45, 46, 47]))))
       (.region false [⟨some 48, .bin .add (.tmp 36) (.const (.int .i64 1)), none, []⟩,
         ⟨some 36, .mv (.tmp 48), none, []⟩] [48])))))))
  (.seq
   (.region false [⟨some 49, .mv (.tmp 6), none, []⟩,
     ⟨some 6, .mv (.tmp 49), none, []⟩,
     ⟨some 7, .mv (.const (.int .i64 0)), none, []⟩] [49])
  .ret)))))))
set_option maxRecDepth 100000 in
theorem ksling_Swing : IsCode Try.prog 16 50 csling_Swing [.tmp 6, .tmp 7] :=
  ⟨Try.f16, _, [37, 26, 19, 15, 0, 1, 3, 8, 2, 4, 36, 35, 34, 9, 11, 6, 7], Try.func16, rfl, by decide, rfl, by kernel_rfl, by kernel_rfl⟩
/-- sling_newSet -/
def csling_newSet : ACode :=
  (.seq
   (.region false [⟨some 5, .box (.tmp 0), none, []⟩,
     ⟨some 7, .box (.tmp 2), none, []⟩,
     ⟨some 10, .mv (.const (.pointer none)), none, []⟩,
     ⟨some 11, .mv (.const (.int .i64 0)), none, []⟩] [])
  (.seq
   (.seq
    (.region false [⟨some 16, .loadN 3 (.tmp 5), none, []⟩,
      ⟨some 17, .call (.func 25) [(.tmp 16)], none, []⟩,
      ⟨some 12, .mv (.tmp 17), none, []⟩] [16, 17])
   (.seq
    (.region false [⟨some 18, .mv (.tmp 12), none, []⟩,
      ⟨some 19, .bin .neq (.tmp 18) (.const (.int .i64 0)), none, []⟩] [18])
   (.cond (.tmp 19)
     (.seq
      (.region false [⟨some 20, .mv (.tmp 12), none, []⟩,
        ⟨some 10, .mv (.const (.pointer none)), none, []⟩,
        ⟨some 11, .mv (.tmp 20), none, []⟩] [20])
     .ret)
     .skip)))
  (.seq
   (.seq
    (.region true [⟨some 21, .mv (.tmp 1), none, []⟩,
      ⟨some 22, .loadN 2 (.tmp 7), none, []⟩,
      ⟨some 23, .buildSl 2 1 [(.val (.int .i64 0)), (.val (.int .i64 0))] [(0, 2, (.tmp 22))], none, [1]⟩,
      ⟨some 24, .buildSl 1 2 [(.val (.slice none 0 0)), (.val (.slice none 0 0))] [(0, 1, (.tmp 21)), (1, 1, (.tmp 23))], none, [0, 2, 1]⟩,
      ⟨some 25, .mv (.tmp 4), none, []⟩,
      ⟨some 26, .call (.func 106) [(.tmp 25)], none, [4]⟩,
      ⟨some 27, .app 1 24 (.tmp 24) (.tmp 26), none, [3, 0, 2, 1, 5, 4]⟩,
      ⟨some 28, .len_ (.tmp 27), none, [6, 3, 0, 2, 1, 5, 4]⟩,
      ⟨some 29, .mv (.const (.int .i64 0)), none, []⟩] [21, 22, 23, 24, 25, 26])
   (.block 0
     (.loop
       (.seq
        (.region false [⟨some 30, .bin .lss (.tmp 29) (.tmp 28), none, []⟩] [])
       (.seq
        (.cond (.tmp 30)
          .skip
          (.exit 0))
       (.seq
        (.block 1
          (.seq
           (.region false [⟨some 31, .iadS 1 (.tmp 27) (.tmp 29), none, []⟩,
             ⟨some 32, .load1 (.tmp 31), none, []⟩,
             ⟨some 14, .mv (.tmp 32), none, []⟩] [31, 32])
          (.seq
           (.region false [⟨some 33, .mv (.tmp 14), none, []⟩,
             ⟨some 34, .call (.func 72) [(.tmp 33)], none, []⟩,
             ⟨some 15, .mv (.tmp 34), none, []⟩] [33, 34])
          (.seq
           (.region false [⟨some 35, .mv (.tmp 15), none, []⟩,
             ⟨some 36, .bin .neq (.tmp 35) (.const (.int .i64 0)), none, []⟩] [35])
          (.cond (.tmp 36)
            (.seq
             (.region false [⟨some 37, .mv (.tmp 15), none, []⟩,
               ⟨some 10, .mv (.const (.pointer none)), none, []⟩,
               ⟨some 11, .mv (.tmp 37), none, []⟩] [37])
            .ret)
            .skip)))))
       (.region false [⟨some 38, .bin .add (.tmp 29) (.const (.int .i64 1)), none, []⟩,
         ⟨some 29, .mv (.tmp 38), none, []⟩] [38])))))))
  (.seq
   (.seq
    (.region true [⟨some 39, .mv (.tmp 1), none, []⟩,
      ⟨some 40, .len_ (.tmp 39), none, [0]⟩,
      ⟨some 41, .bin .neq (.tmp 40) (.const (.int .i64 2)), none, [1, 0]⟩,
      ⟨some 42, .mv (.tmp 41), none, [2, 1, 0]⟩,
      ⟨some 43, .mv (.tmp 1), (some (some 42, false)), [3, 2, 1, 0]⟩,
      ⟨some 44, .iadS 2 (.tmp 43) (.const (.int .i64 0)), (some (some 42, false)), [4, 3, 2, 1, 0]⟩,
      ⟨some 45, .fad 0 (.tmp 44), (some (some 42, false)), [5, 4, 3, 2, 1, 0]⟩,
      ⟨some 46, .load1 (.tmp 45), (some (some 42, false)), [6, 5, 4, 3, 2, 1, 0]⟩,
      ⟨some 47, .mv (.tmp 1), (some (some 42, false)), [3, 2, 1, 0]⟩,
      ⟨some 48, .iadS 2 (.tmp 47) (.const (.int .i64 1)), (some (some 42, false)), [8, 3, 2, 1, 0]⟩,
      ⟨some 49, .fad 0 (.tmp 48), (some (some 42, false)), [9, 8, 3, 2, 1, 0]⟩,
      ⟨some 50, .load1 (.tmp 49), (some (some 42, false)), [10, 9, 8, 3, 2, 1, 0]⟩,
      ⟨some 51, .build [(.val (.int .i64 0)), (.val (.int .i64 0))] [(0, 1, (.tmp 46)), (1, 1, (.tmp 50))], (some (some 42, false)), [7, 6, 5, 4, 3, 2, 1, 0, 11, 10, 9, 8]⟩,
      ⟨some 52, .call (.func 50) [(.tmp 51)], (some (some 42, false)), [12, 7, 6, 5, 4, 3, 2, 1, 0, 11, 10, 9, 8]⟩,
      ⟨some 53, .un .not (.tmp 52), (some (some 42, false)), [13, 12, 7, 6, 5, 4, 3, 2, 1, 0, 11, 10, 9, 8]⟩,
      ⟨some 54, .pick (.tmp 42) (.const (.bool true)) (.tmp 53), none, [3, 2, 1, 0, 14, 13, 12, 7, 6, 5, 4, 11, 10, 9, 8]⟩,
      ⟨some 55, .mv (.tmp 54), none, [15, 3, 2, 1, 0, 14, 13, 12, 7, 6, 5, 4, 11, 10, 9, 8]⟩,
      ⟨some 56, .mv (.tmp 1), (some (some 55, false)), [16, 15, 3, 2, 1, 0, 14, 13, 12, 7, 6, 5, 4, 11, 10, 9, 8]⟩,
      ⟨some 57, .iadS 2 (.tmp 56) (.const (.int .i64 0)), (some (some 55, false)), [17, 16, 15, 3, 2, 1, 0, 14, 13, 12, 7, 6, 5, 4, 11, 10, 9, 8]⟩,
      ⟨some 58, .fad 1 (.tmp 57), (some (some 55, false)), [18, 17, 16, 15, 3, 2, 1, 0, 14, 13, 12, 7, 6, 5, 4, 11, 10, 9, 8]⟩,
      ⟨some 59, .load1 (.tmp 58), (some (some 55, false)), [19, 18, 17, 16, 15, 3, 2, 1, 0, 14, 13, 12, 7, 6, 5, 4, 11, 10, 9, 8]⟩,
      ⟨some 60, .mv (.tmp 1), (some (some 55, false)), [16, 15, 3, 2, 1, 0, 14, 13, 12, 7, 6, 5, 4, 11, 10, 9, 8]⟩,
      ⟨some 61, .iadS 2 (.tmp 60) (.const (.int .i64 1)), (some (some 55, false)), [21, 16, 15, 3, 2, 1, 0, 14, 13, 12, 7, 6, 5, 4, 11, 10, 9, 8]⟩,
      ⟨some 62, .fad 1 (.tmp 61), (some (some 55, false)), [22, 21, 16, 15, 3, 2, 1, 0, 14, 13, 12, 7, 6, 5, 4, 11, 10, 9, 8]⟩,
      ⟨some 63, .load1 (.tmp 62), (some (some 55, false)), [23, 22, 21, 16, 15, 3, 2, 1, 0, 14, 13, 12, 7, 6, 5, 4, 11, 10, 9, 8]⟩,
      ⟨some 64, .build [(.val (.int .i64 0)), (.val (.int .i64 0))] [(0, 1, (.tmp 59)), (1, 1, (.tmp 63))], (some (some 55, false)), [20, 19, 18, 17, 16, 15, 3, 2, 1, 0, 14, 13, 12, 7, 6, 5, 4, 11, 10, 9, 8, 24, 23, 22, 21]⟩,
      ⟨some 65, .call (.func 50) [(.tmp 64)], (some (some 55, false)), [25, 20, 19, 18, 17, 16, 15, 3, 2, 1, 0, 14, 13, 12, 7, 6, 5, 4, 11, 10, 9, 8, 24, 23, 22, 21]⟩,
      ⟨some 66, .un .not (.tmp 65), (some (some 55, false)), [26, 25, 20, 19, 18, 17, 16, 15, 3, 2, 1, 0, 14, 13, 12, 7, 6, 5, 4, 11, 10, 9, 8, 24, 23, 22, 21]⟩,
      ⟨some 67, .pick (.tmp 55) (.const (.bool true)) (.tmp 66), none, [16, 15, 3, 2, 1, 0, 14, 13, 12, 7, 6, 5, 4, 11, 10, 9, 8, 27, 26, 25, 20, 19, 18, 17, 24, 23, 22, 21]⟩,
      ⟨some 68, .mv (.tmp 67), none, [28, 16, 15, 3, 2, 1, 0, 14, 13, 12, 7, 6, 5, 4, 11, 10, 9, 8, 27, 26, 25, 20, 19, 18, 17, 24, 23, 22, 21]⟩,
      ⟨some 69, .fad 0 (.tmp 7), (some (some 68, false)), [29, 28, 16, 15, 3, 2, 1, 0, 14, 13, 12, 7, 6, 5, 4, 11, 10, 9, 8, 27, 26, 25, 20, 19, 18, 17, 24, 23, 22, 21]⟩,
      ⟨some 70, .load1 (.tmp 69), (some (some 68, false)), [30, 29, 28, 16, 15, 3, 2, 1, 0, 14, 13, 12, 7, 6, 5, 4, 11, 10, 9, 8, 27, 26, 25, 20, 19, 18, 17, 24, 23, 22, 21]⟩,
      ⟨some 71, .call (.func 53) [(.tmp 70), (.const (.int .i64 (-100))), (.const (.int .i64 100))], (some (some 68, false)), [31, 30, 29, 28, 16, 15, 3, 2, 1, 0, 14, 13, 12, 7, 6, 5, 4, 11, 10, 9, 8, 27, 26, 25, 20, 19, 18, 17, 24, 23, 22, 21]⟩,
      ⟨some 72, .un .not (.tmp 71), (some (some 68, false)), [32, 31, 30, 29, 28, 16, 15, 3, 2, 1, 0, 14, 13, 12, 7, 6, 5, 4, 11, 10, 9, 8, 27, 26, 25, 20, 19, 18, 17, 24, 23, 22, 21]⟩,
      ⟨some 73, .pick (.tmp 68) (.const (.bool true)) (.tmp 72), none, [29, 28, 16, 15, 3, 2, 1, 0, 14, 13, 12, 7, 6, 5, 4, 11, 10, 9, 8, 27, 26, 25, 20, 19, 18, 17, 24, 23, 22, 21, 33, 32, 31, 30]⟩,
      ⟨some 74, .mv (.tmp 73), none, [34, 29, 28, 16, 15, 3, 2, 1, 0, 14, 13, 12, 7, 6, 5, 4, 11, 10, 9, 8, 27, 26, 25, 20, 19, 18, 17, 24, 23, 22, 21, 33, 32, 31, 30]⟩,
      ⟨some 75, .fad 1 (.tmp 7), (some (some 74, false)), [35, 34, 29, 28, 16, 15, 3, 2, 1, 0, 14, 13, 12, 7, 6, 5, 4, 11, 10, 9, 8, 27, 26, 25, 20, 19, 18, 17, 24, 23, 22, 21, 33, 32, 31, 30]⟩,
      ⟨some 76, .load1 (.tmp 75), (some (some 74, false)), [36, 35, 34, 29, 28, 16, 15, 3, 2, 1, 0, 14, 13, 12, 7, 6, 5, 4, 11, 10, 9, 8, 27, 26, 25, 20, 19, 18, 17, 24, 23, 22, 21, 33, 32, 31, 30]⟩,
      ⟨some 77, .call (.func 53) [(.tmp 76), (.const (.int .i64 (-100))), (.const (.int .i64 100))], (some (some 74, false)), [37, 36, 35, 34, 29, 28, 16, 15, 3, 2, 1, 0, 14, 13, 12, 7, 6, 5, 4, 11, 10, 9, 8, 27, 26, 25, 20, 19, 18, 17, 24, 23, 22, 21, 33, 32, 31, 30]⟩,
      ⟨some 78, .un .not (.tmp 77), (some (some 74, false)), [38, 37, 36, 35, 34, 29, 28, 16, 15, 3, 2, 1, 0, 14, 13, 12, 7, 6, 5, 4, 11, 10, 9, 8, 27, 26, 25, 20, 19, 18, 17, 24, 23, 22, 21, 33, 32, 31, 30]⟩,
      ⟨some 79, .pick (.tmp 74) (.const (.bool true)) (.tmp 78), none, [35, 34, 29, 28, 16, 15, 3, 2, 1, 0, 14, 13, 12, 7, 6, 5, 4, 11, 10, 9, 8, 27, 26, 25, 20, 19, 18, 17, 24, 23, 22, 21, 33, 32, 31, 30, 39, 38, 37, 36]⟩,
      ⟨some 80, .mv (.tmp 79), none, [40, 35, 34, 29, 28, 16, 15, 3, 2, 1, 0, 14, 13, 12, 7, 6, 5, 4, 11, 10, 9, 8, 27, 26, 25, 20, 19, 18, 17, 24, 23, 22, 21, 33, 32, 31, 30, 39, 38, 37, 36]⟩,
      ⟨some 81, .mv (.tmp 3), (some (some 80, false)), [41, 40, 35, 34, 29, 28, 16, 15, 3, 2, 1, 0, 14, 13, 12, 7, 6, 5, 4, 11, 10, 9, 8, 27, 26, 25, 20, 19, 18, 17, 24, 23, 22, 21, 33, 32, 31, 30, 39, 38, 37, 36]⟩,
      ⟨some 82, .call (.func 53) [(.tmp 81), (.const (.int .i64 0)), (.const (.int .i64 16))], (some (some 80, false)), [42, 41, 40, 35, 34, 29, 28, 16, 15, 3, 2, 1, 0, 14, 13, 12, 7, 6, 5, 4, 11, 10, 9, 8, 27, 26, 25, 20, 19, 18, 17, 24, 23, 22, 21, 33, 32, 31, 30, 39, 38, 37, 36]⟩,
      ⟨some 83, .un .not (.tmp 82), (some (some 80, false)), [43, 42, 41, 40, 35, 34, 29, 28, 16, 15, 3, 2, 1, 0, 14, 13, 12, 7, 6, 5, 4, 11, 10, 9, 8, 27, 26, 25, 20, 19, 18, 17, 24, 23, 22, 21, 33, 32, 31, 30, 39, 38, 37, 36]⟩,
      ⟨some 84, .pick (.tmp 80) (.const (.bool true)) (.tmp 83), none, [41, 40, 35, 34, 29, 28, 16, 15, 3, 2, 1, 0, 14, 13, 12, 7, 6, 5, 4, 11, 10, 9, 8, 27, 26, 25, 20, 19, 18, 17, 24, 23, 22, 21, 33, 32, 31, 30, 39, 38, 37, 36, 44, 43, 42]⟩] [39, 40, 41, 42, 43, 44, 45, 46, 47, 48, 49, 50, 51, 52, 53, 54, 55, 56, 57, 58, 59, 60, 61, 62, 63, 64, 65, 66, 67, 68, 69, 70, 71, 72, 73, 74, 75, 76, 77, 78, 79, 80, 81, 82, 83])
   (.cond (.tmp 84)
     (.seq
      (.region false [⟨some 10, .mv (.const (.pointer none)), none, []⟩,
        ⟨some 11, .mv (.const (.int .i64 1)), none, []⟩] [])
     .ret)
     .skip))
  (.seq
   (.region false [⟨some 85, .loadN 3 (.tmp 5), none, []⟩,
     ⟨some 86, .mv (.tmp 1), none, []⟩,
     ⟨some 87, .loadN 2 (.tmp 7), none, []⟩,
     ⟨some 88, .build [(.val (.int .i64 0)), (.val (.int .i64 0)), (.val (.int .i64 0)), (.val (.slice none 0 0)), (.val (.int .i64 0)), (.val (.int .i64 0))] [(0, 3, (.tmp 85)), (3, 1, (.tmp 86)), (4, 2, (.tmp 87))], none, []⟩,
     ⟨some 89, .box (.tmp 88), none, []⟩,
     ⟨some 10, .mv (.tmp 89), none, []⟩,
     ⟨some 11, .mv (.const (.int .i64 0)), none, []⟩] [85, 86, 87, 88, 89])
  .ret)))))
set_option maxRecDepth 100000 in
theorem ksling_newSet : IsCode Try.prog 79 90 csling_newSet [.tmp 10, .tmp 11] :=
  ⟨Try.f79, _, [84, 36, 30, 19, 0, 2, 5, 12, 1, 7, 4, 29, 28, 27, 14, 15, 3, 10, 11], Try.func79, rfl, by decide, rfl, by kernel_rfl, by kernel_rfl⟩
/-- ref07_CheckSets -/
def cref07_CheckSets : ACode :=
  (.seq
   (.region false [⟨some 4, .box (.tmp 0), none, []⟩,
     ⟨some 6, .box (.tmp 2), none, []⟩,
     ⟨some 8, .mv (.const (.int .i64 0)), none, []⟩] [])
  (.seq
   (.seq
    (.region false [⟨some 10, .loadN 3 (.tmp 4), none, []⟩,
      ⟨some 11, .call (.func 17) [(.tmp 10)], none, []⟩,
      ⟨some 9, .mv (.tmp 11), none, []⟩] [10, 11])
   (.seq
    (.region false [⟨some 12, .mv (.tmp 9), none, []⟩,
      ⟨some 13, .bin .neq (.tmp 12) (.const (.int .i64 0)), none, []⟩] [12])
   (.cond (.tmp 13)
     (.seq
      (.region false [⟨some 14, .mv (.tmp 9), none, []⟩,
        ⟨some 8, .mv (.tmp 14), none, []⟩] [14])
     .ret)
     .skip)))
  (.seq
   (.seq
    (.region false [⟨some 15, .mv (.tmp 1), none, []⟩,
      ⟨some 16, .call (.func 86) [(.tmp 15)], none, []⟩,
      ⟨some 17, .bin .neq (.tmp 16) (.const (.int .i64 0)), none, []⟩,
      ⟨some 18, .mv (.tmp 17), none, []⟩,
      ⟨some 19, .loadN 2 (.tmp 6), (some (some 18, false)), []⟩,
      ⟨some 20, .call (.func 61) [(.tmp 19)], (some (some 18, false)), []⟩,
      ⟨some 21, .un .not (.tmp 20), (some (some 18, false)), []⟩,
      ⟨some 22, .pick (.tmp 18) (.const (.bool true)) (.tmp 21), none, []⟩] [15, 16, 17, 18, 19, 20, 21])
   (.cond (.tmp 22)
     (.seq
      (.region false [⟨some 8, .mv (.const (.int .i64 10)), none, []⟩] [])
     .ret)
     .skip))
  (.seq
   (.region false [⟨some 23, .mv (.tmp 1), none, []⟩,
     ⟨some 24, .loadN 2 (.tmp 6), none, []⟩,
     ⟨some 25, .mv (.tmp 3), none, []⟩,
     ⟨some 26, .call (.func 87) [(.tmp 23), (.tmp 24), (.tmp 25)], none, []⟩,
     ⟨some 8, .mv (.tmp 26), none, []⟩] [23, 24, 25, 26])
  .ret))))
set_option maxRecDepth 100000 in
theorem kref07_CheckSets : IsCode Try.prog 41 27 cref07_CheckSets [.tmp 8] :=
  ⟨Try.f41, _, [22, 13, 0, 2, 4, 9, 1, 6, 3, 8], Try.func41, rfl, by decide, rfl, by kernel_rfl, by kernel_rfl⟩
/-- ref07_checkNumbers -/
def cref07_checkNumbers : ACode :=
  (.seq
   (.region false [⟨some 4, .box (.tmp 1), none, []⟩,
     ⟨some 6, .mv (.const (.int .i64 0)), none, []⟩] [])
  (.seq
   (.seq
    (.region false [⟨some 7, .mv (.tmp 0), none, []⟩,
      ⟨some 8, .len_ (.tmp 7), none, []⟩,
      ⟨some 9, .bin .neq (.tmp 8) (.const (.int .i64 2)), none, []⟩,
      ⟨some 10, .mv (.tmp 9), none, []⟩,
      ⟨some 11, .mv (.tmp 0), (some (some 10, false)), []⟩,
      ⟨some 12, .iadS 2 (.tmp 11) (.const (.int .i64 0)), (some (some 10, false)), []⟩,
      ⟨some 13, .loadN 2 (.tmp 12), (some (some 10, false)), []⟩,
      ⟨some 14, .call (.func 108) [(.tmp 13), (.const (.int .i64 1000))], (some (some 10, false)), []⟩,
      ⟨some 15, .un .not (.tmp 14), (some (some 10, false)), []⟩,
      ⟨some 16, .pick (.tmp 10) (.const (.bool true)) (.tmp 15), none, []⟩,
      ⟨some 17, .mv (.tmp 16), none, []⟩,
      ⟨some 18, .mv (.tmp 0), (some (some 17, false)), []⟩,
      ⟨some 19, .iadS 2 (.tmp 18) (.const (.int .i64 1)), (some (some 17, false)), []⟩,
      ⟨some 20, .loadN 2 (.tmp 19), (some (some 17, false)), []⟩,
      ⟨some 21, .call (.func 108) [(.tmp 20), (.const (.int .i64 1000))], (some (some 17, false)), []⟩,
      ⟨some 22, .un .not (.tmp 21), (some (some 17, false)), []⟩,
      ⟨some 23, .pick (.tmp 17) (.const (.bool true)) (.tmp 22), none, []⟩,
      ⟨some 24, .mv (.tmp 23), none, []⟩,
      ⟨some 25, .loadN 2 (.tmp 4), (some (some 24, false)), []⟩,
      ⟨some 26, .call (.func 108) [(.tmp 25), (.const (.int .i64 100))], (some (some 24, false)), []⟩,
      ⟨some 27, .un .not (.tmp 26), (some (some 24, false)), []⟩,
      ⟨some 28, .pick (.tmp 24) (.const (.bool true)) (.tmp 27), none, []⟩,
      ⟨some 29, .mv (.tmp 28), none, []⟩,
      ⟨some 30, .mv (.tmp 2), (some (some 29, false)), []⟩,
      ⟨some 31, .call (.func 56) [(.tmp 30), (.const (.int .i64 0)), (.const (.int .i64 16))], (some (some 29, false)), []⟩,
      ⟨some 32, .un .not (.tmp 31), (some (some 29, false)), []⟩,
      ⟨some 33, .pick (.tmp 29) (.const (.bool true)) (.tmp 32), none, []⟩] [7, 8, 9, 10, 11, 12, 13, 14, 15, 16, 17, 18, 19, 20, 21, 22, 23, 24, 25, 26, 27, 28, 29, 30, 31, 32])
   (.cond (.tmp 33)
     (.seq
      (.region false [⟨some 6, .mv (.const (.int .i64 1)), none, []⟩] [])
     .ret)
     .skip))
  (.seq
   (.region false [⟨some 6, .mv (.const (.int .i64 0)), none, []⟩] [])
  .ret)))
set_option maxRecDepth 100000 in
theorem kref07_checkNumbers : IsCode Try.prog 87 34 cref07_checkNumbers [.tmp 6] :=
  ⟨Try.f87, _, [33, 1, 0, 4, 2, 6], Try.func87, rfl, by decide, rfl, by kernel_rfl, by kernel_rfl⟩
/-- psling_set_parts -/
def cpsling_set_parts : ACode :=
  (.seq
   (.region false [⟨some 4, .mv (.const (.slice none 0 0)), none, []⟩,
     ⟨some 5, .mv (.const (.int .i64 0)), none, []⟩] [])
  (.seq
   (.seq
    (.region false [⟨some 10, .mv (.tmp 1), none, []⟩,
      ⟨some 11, .bin .add (.tmp 10) (.const (.int .i64 2)), none, []⟩,
      ⟨some 12, .mv (.const (.int .i64 0)), none, []⟩] [10])
   (.block 0
     (.loop
       (.seq
        (.region false [⟨some 13, .bin .lss (.tmp 12) (.tmp 11), none, []⟩] [])
       (.seq
        (.cond (.tmp 13)
          .skip
          (.exit 0))
       (.seq
        (.block 1
          (.seq
           (.region false [⟨some 14, .mv (.tmp 12), none, []⟩,
             ⟨some 6, .mv (.tmp 14), none, []⟩] [14])
          (.seq
           (.region false [⟨some 15, .mv (.tmp 0), none, []⟩,
             ⟨some 16, .nilc (.tmp 15), none, []⟩,
             ⟨some 17, .fad 0 (.tmp 16), none, []⟩,
             ⟨some 18, .loadN 3 (.tmp 17), none, []⟩,
             ⟨some 19, .build [(.val (.int .i64 0)), (.val (.int .i64 0)), (.val (.int .i64 0)), (.val (.int .i64 0)), (.val (.int .i64 0)), (.val (.int .i64 0))] [(0, 3, (.tmp 18)), (5, 1, (.const (.int .i64 1)))], none, []⟩,
             ⟨some 20, .box (.tmp 19), none, []⟩,
             ⟨some 7, .mv (.tmp 20), none, []⟩] [15, 16, 17, 18, 19, 20])
          (.seq
           (.seq
            (.region false [⟨some 21, .mv (.tmp 6), none, []⟩] [])
           (.block 2
             (.seq
              (.region false [⟨some 23, .bin .eql (.tmp 21) (.const (.int .i64 0)), none, []⟩,
                ⟨some 22, .mv (.tmp 23), none, []⟩] [23])
             (.cond (.tmp 22)
               (.region false [⟨some 24, .mv (.tmp 7), none, []⟩,
                 ⟨some 25, .nilc (.tmp 24), none, []⟩,
                 ⟨some 26, .fad 3 (.tmp 25), none, []⟩,
                 ⟨none, .store 1 (.tmp 26) (.const (.int .i64 1)), none, []⟩] [24, 25, 26])
               (.seq
                (.region false [⟨some 28, .bin .eql (.tmp 21) (.const (.int .i64 1)), none, []⟩,
                  ⟨some 27, .mv (.tmp 28), none, []⟩] [28])
               (.cond (.tmp 27)
                 (.region false [⟨some 29, .mv (.tmp 7), none, []⟩,
                   ⟨some 30, .nilc (.tmp 29), none, []⟩,
                   ⟨some 31, .fad 4 (.tmp 30), none, []⟩,
                   ⟨none, .store 1 (.tmp 31) (.const (.int .i64 1)), none, []⟩] [29, 30, 31])
                 .skip))))))
          (.seq
           (.seq
            (.region false [⟨some 32, .mv (.tmp 1), none, []⟩,
              ⟨some 33, .mv (.const (.int .i64 0)), none, []⟩] [])
           (.block 3
             (.loop
               (.seq
                (.region false [⟨some 34, .bin .lss (.tmp 33) (.tmp 32), none, []⟩] [])
               (.seq
                (.cond (.tmp 34)
                  .skip
                  (.exit 3))
               (.seq
                (.block 4
                  (.seq
                   (.region false [⟨some 35, .mv (.tmp 33), none, []⟩,
                     ⟨some 8, .mv (.tmp 35), none, []⟩] [35])
                  (.seq
                   (.region false [⟨some 9, .mv (.const (.int .i64 0)), none, []⟩] [])
                  (.seq
                   (.seq
                    (.region false [⟨some 36, .mv (.tmp 6), none, []⟩,
                      ⟨some 37, .mv (.tmp 8), none, []⟩,
                      ⟨some 38, .bin .add (.tmp 37) (.const (.int .i64 2)), none, []⟩,
                      ⟨some 39, .bin .eql (.tmp 36) (.tmp 38), none, []⟩] [36, 37, 38])
                   (.cond (.tmp 39)
                     (.region false [⟨some 9, .mv (.const (.int .i64 1)), none, []⟩] [])
                     .skip))
                  (.region false [⟨some 40, .mv (.tmp 7), none, []⟩,
                    ⟨some 41, .mv (.tmp 9), none, []⟩,
                    ⟨some 42, .call (.func 54) [(.tmp 40), (.tmp 41)], none, []⟩] [40, 41, 42])))))
               (.region false [⟨some 43, .bin .add (.tmp 33) (.const (.int .i64 1)), none, []⟩,
                 ⟨some 33, .mv (.tmp 43), none, []⟩] [43])))))))
          (.region true [⟨some 44, .mv (.tmp 4), none, []⟩,
            ⟨some 45, .mv (.tmp 7), none, []⟩,
            ⟨some 46, .nilc (.tmp 45), none, [1]⟩,
            ⟨some 47, .fad 3 (.tmp 46), none, [2, 1]⟩,
            ⟨some 48, .load1 (.tmp 47), none, [3, 2, 1]⟩,
            ⟨some 49, .buildSl 1 1 [(.val (.int .i64 0))] [(0, 1, (.tmp 48))], none, [4, 3, 2, 1]⟩,
            ⟨some 50, .app 1 8 (.tmp 44) (.tmp 49), none, [0, 5, 4, 3, 2, 1]⟩,
            ⟨some 51, .mv (.tmp 7), none, []⟩,
            ⟨some 52, .nilc (.tmp 51), none, [7]⟩,
            ⟨some 53, .fad 5 (.tmp 52), none, [8, 7]⟩,
            ⟨some 54, .load1 (.tmp 53), none, [9, 8, 7]⟩,
            ⟨some 4, .mv (.tmp 50), none, [6, 0, 5, 4, 3, 2, 1]⟩,
            ⟨some 5, .mv (.tmp 54), none, [10, 9, 8, 7, 11, 6, 0, 5, 4, 3, 2, 1]⟩] [44, 45, 46, 47, 48, 49, 50, 51, 52, 53, 54]))))))
       (.region false [⟨some 55, .bin .add (.tmp 12) (.const (.int .i64 1)), none, []⟩,
         ⟨some 12, .mv (.tmp 55), none, []⟩] [55])))))))
  (.seq
   (.region false [⟨some 56, .mv (.tmp 4), none, []⟩,
     ⟨some 57, .mv (.tmp 5), none, []⟩,
     ⟨some 4, .mv (.tmp 56), none, []⟩,
     ⟨some 5, .mv (.tmp 57), none, []⟩] [56, 57])
  .ret)))
set_option maxRecDepth 100000 in
theorem kpsling_set_parts : IsCode Try.prog 83 58 cpsling_set_parts [.tmp 4, .tmp 5] :=
  ⟨Try.f83, _, [39, 34, 27, 22, 13, 1, 12, 11, 0, 6, 21, 7, 33, 32, 8, 9, 4, 5], Try.func83, rfl, by decide, rfl, by kernel_rfl, by kernel_rfl⟩
/-- psling_set_most -/
def cpsling_set_most : ACode :=
  (.seq
   (.region false [⟨some 6, .mv (.const (.int .i64 0)), none, []⟩,
     ⟨some 7, .mv (.const (.int .i64 0)), none, []⟩] [])
  (.seq
   (.region false [⟨some 12, .mv (.tmp 0), none, []⟩,
     ⟨some 13, .mv (.tmp 1), none, []⟩,
     ⟨some 14, .call (.func 83) [(.tmp 12), (.tmp 13)], none, []⟩,
     ⟨some 11, .mv (.tmp 14), none, []⟩,
     ⟨some 15, .ext (.tmp 11) 0, none, []⟩,
     ⟨some 16, .ext (.tmp 11) 1, none, []⟩,
     ⟨some 8, .mv (.tmp 15), none, []⟩,
     ⟨some 7, .mv (.tmp 16), none, []⟩] [12, 13, 14, 11, 15, 16])
  (.seq
   (.seq
    (.region false [⟨some 17, .mv (.tmp 8), none, []⟩,
      ⟨some 18, .len_ (.tmp 17), none, []⟩,
      ⟨some 19, .mv (.const (.int .i64 0)), none, []⟩] [])
   (.block 0
     (.loop
       (.seq
        (.region false [⟨some 20, .bin .lss (.tmp 19) (.tmp 18), none, []⟩] [])
       (.seq
        (.cond (.tmp 20)
          .skip
          (.exit 0))
       (.seq
        (.block 1
          (.seq
           (.region false [⟨some 21, .mv (.tmp 19), none, []⟩,
             ⟨some 22, .iadS 1 (.tmp 17) (.tmp 19), none, []⟩,
             ⟨some 23, .load1 (.tmp 22), none, []⟩,
             ⟨some 9, .mv (.tmp 21), none, []⟩,
             ⟨some 10, .mv (.tmp 23), none, []⟩] [21, 22, 23])
          (.region false [⟨some 24, .mv (.tmp 6), none, []⟩,
            ⟨some 25, .mv (.tmp 10), none, []⟩,
            ⟨some 26, .mv (.tmp 10), none, []⟩,
            ⟨some 27, .mv (.tmp 0), none, []⟩,
            ⟨some 28, .mv (.tmp 9), none, []⟩,
            ⟨some 29, .call (.func 85) [(.tmp 27), (.tmp 28)], none, []⟩,
            ⟨some 30, .mv (.tmp 2), none, []⟩,
            ⟨some 31, .call (.func 84) [(.tmp 26), (.tmp 29), (.tmp 30)], none, []⟩,
            ⟨some 32, .bin .mul (.tmp 25) (.tmp 31), none, []⟩,
            ⟨some 33, .bin .add (.tmp 24) (.tmp 32), none, []⟩,
            ⟨some 6, .mv (.tmp 33), none, []⟩] [24, 25, 26, 27, 28, 29, 30, 31, 32, 33])))
       (.region false [⟨some 34, .bin .add (.tmp 19) (.const (.int .i64 1)), none, []⟩,
         ⟨some 19, .mv (.tmp 34), none, []⟩] [34])))))))
  (.seq
   (.region false [⟨some 35, .mv (.tmp 6), none, []⟩,
     ⟨some 36, .mv (.tmp 7), none, []⟩,
     ⟨some 6, .mv (.tmp 35), none, []⟩,
     ⟨some 7, .mv (.tmp 36), none, []⟩] [35, 36])
  .ret))))
set_option maxRecDepth 100000 in
theorem kpsling_set_most : IsCode Try.prog 81 37 cpsling_set_most [.tmp 6, .tmp 7] :=
  ⟨Try.f81, _, [20, 0, 1, 8, 19, 18, 17, 6, 10, 9, 2, 7], Try.func81, rfl, by decide, rfl, by kernel_rfl, by kernel_rfl⟩
/-- psling_set_keeps -/
def cpsling_set_keeps : ACode :=
  (.seq
   (.region false [⟨some 5, .box (.tmp 2), none, []⟩,
     ⟨some 6, .mv (.const (.int .i64 0)), none, []⟩,
     ⟨some 7, .mv (.const (.bool false)), none, []⟩] [])
  (.seq
   (.seq
    (.region false [⟨some 13, .mv (.tmp 1), none, []⟩,
      ⟨some 14, .bin .add (.tmp 13) (.const (.int .i64 1)), none, []⟩,
      ⟨some 15, .mv (.const (.int .i64 0)), none, []⟩] [13])
   (.block 0
     (.loop
       (.seq
        (.region false [⟨some 16, .bin .lss (.tmp 15) (.tmp 14), none, []⟩] [])
       (.seq
        (.cond (.tmp 16)
          .skip
          (.exit 0))
       (.seq
        (.block 1
          (.seq
           (.region false [⟨some 17, .mv (.tmp 15), none, []⟩,
             ⟨some 8, .mv (.tmp 17), none, []⟩] [17])
          (.seq
           (.region false [⟨some 19, .mv (.tmp 0), none, []⟩,
             ⟨some 20, .mv (.tmp 8), none, []⟩,
             ⟨some 21, .call (.func 81) [(.tmp 19), (.tmp 20), (.const (.bool false))], none, []⟩,
             ⟨some 18, .mv (.tmp 21), none, []⟩,
             ⟨some 22, .ext (.tmp 18) 0, none, []⟩,
             ⟨some 23, .ext (.tmp 18) 1, none, []⟩,
             ⟨some 9, .mv (.tmp 22), none, []⟩,
             ⟨some 10, .mv (.tmp 23), none, []⟩] [19, 20, 21, 18, 22, 23])
          (.seq
           (.region false [⟨some 25, .mv (.tmp 0), none, []⟩,
             ⟨some 26, .mv (.tmp 8), none, []⟩,
             ⟨some 27, .call (.func 81) [(.tmp 25), (.tmp 26), (.const (.bool true))], none, []⟩,
             ⟨some 24, .mv (.tmp 27), none, []⟩,
             ⟨some 28, .ext (.tmp 24) 0, none, []⟩,
             ⟨some 29, .ext (.tmp 24) 1, none, []⟩,
             ⟨some 11, .mv (.tmp 28), none, []⟩,
             ⟨some 12, .mv (.tmp 29), none, []⟩] [25, 26, 27, 24, 28, 29, 12])
          (.seq
           (.region false [⟨some 30, .mv (.tmp 9), none, []⟩,
             ⟨some 31, .fad 0 (.tmp 5), none, []⟩,
             ⟨some 32, .load1 (.tmp 31), none, []⟩,
             ⟨some 33, .mv (.tmp 10), none, []⟩,
             ⟨some 34, .bin .mul (.tmp 32) (.tmp 33), none, []⟩,
             ⟨some 35, .bin .lss (.tmp 30) (.tmp 34), none, []⟩,
             ⟨some 36, .mv (.tmp 35), none, []⟩,
             ⟨some 37, .mv (.tmp 11), (some (some 36, false)), []⟩,
             ⟨some 38, .fad 1 (.tmp 5), (some (some 36, false)), []⟩,
             ⟨some 39, .load1 (.tmp 38), (some (some 36, false)), []⟩,
             ⟨some 40, .mv (.tmp 10), (some (some 36, false)), []⟩,
             ⟨some 41, .bin .mul (.tmp 39) (.tmp 40), (some (some 36, false)), []⟩,
             ⟨some 42, .bin .gtr (.tmp 37) (.tmp 41), (some (some 36, false)), []⟩,
             ⟨some 43, .pick (.tmp 36) (.const (.bool true)) (.tmp 42), none, []⟩] [30, 31, 32, 33, 34, 35, 36, 37, 38, 39, 40, 41, 42])
          (.cond (.tmp 43)
            (.seq
             (.region false [⟨some 44, .mv (.tmp 8), none, []⟩,
               ⟨some 6, .mv (.tmp 44), none, []⟩,
               ⟨some 7, .mv (.const (.bool true)), none, []⟩] [44])
            .ret)
            .skip))))))
       (.region false [⟨some 45, .bin .add (.tmp 15) (.const (.int .i64 1)), none, []⟩,
         ⟨some 15, .mv (.tmp 45), none, []⟩] [45])))))))
  (.seq
   (.region false [⟨some 6, .mv (.const (.int .i64 0)), none, []⟩,
     ⟨some 7, .mv (.const (.bool false)), none, []⟩] [])
  .ret)))
set_option maxRecDepth 100000 in
theorem kpsling_set_keeps : IsCode Try.prog 90 46 cpsling_set_keeps [.tmp 6, .tmp 7] :=
  ⟨Try.f90, _, [43, 16, 2, 1, 15, 14, 0, 8, 9, 5, 10, 11, 6, 7], Try.func90, rfl, by decide, rfl, by kernel_rfl, by kernel_rfl⟩
/-- sling_Reach -/
def csling_Reach : ACode :=
  (.seq
   (.region false [⟨some 4, .box (.tmp 0), none, []⟩,
     ⟨some 6, .box (.tmp 2), none, []⟩,
     ⟨some 8, .mem [(.val (.int .i64 0)), (.val (.int .i64 0))], none, []⟩,
     ⟨some 9, .mem [(.val (.int .i64 0)), (.val (.int .i64 0))], none, []⟩,
     ⟨some 10, .mv (.const (.int .i64 0)), none, []⟩] [])
  (.seq
   (.region false [⟨some 13, .loadN 3 (.tmp 4), none, []⟩,
     ⟨some 14, .mv (.tmp 1), none, []⟩,
     ⟨some 15, .loadN 2 (.tmp 6), none, []⟩,
     ⟨some 16, .mv (.tmp 3), none, []⟩,
     ⟨some 17, .call (.func 79) [(.tmp 13), (.tmp 14), (.tmp 15), (.tmp 16), (.const (.slice none 0 0))], none, []⟩,
     ⟨some 12, .mv (.tmp 17), none, []⟩,
     ⟨some 18, .ext (.tmp 12) 0, none, []⟩,
     ⟨some 19, .ext (.tmp 12) 1, none, []⟩,
     ⟨some 11, .mv (.tmp 18), none, []⟩,
     ⟨some 10, .mv (.tmp 19), none, []⟩] [13, 14, 15, 16, 17, 12, 18, 19])
  (.seq
   (.seq
    (.region false [⟨some 20, .mv (.tmp 10), none, []⟩,
      ⟨some 21, .bin .neq (.tmp 20) (.const (.int .i64 0)), none, []⟩] [20])
   (.cond (.tmp 21)
     (.seq
      (.region true [⟨some 22, .loadN 2 (.tmp 8), none, []⟩,
        ⟨some 23, .loadN 2 (.tmp 9), none, []⟩,
        ⟨some 24, .mv (.tmp 10), none, []⟩,
        ⟨none, .store 2 (.tmp 8) (.tmp 22), none, [0]⟩,
        ⟨none, .store 2 (.tmp 9) (.tmp 23), none, [1, 3, 0]⟩,
        ⟨some 10, .mv (.tmp 24), none, [2, 4, 1, 3, 0]⟩] [22, 23, 24])
     .ret)
     .skip))
  (.seq
   (.region false [⟨some 25, .mv (.tmp 11), none, []⟩,
     ⟨some 26, .mv (.tmp 3), none, []⟩,
     ⟨some 27, .call (.func 81) [(.tmp 25), (.tmp 26), (.const (.bool false))], none, []⟩,
     ⟨some 28, .ext (.tmp 27) 0, none, []⟩,
     ⟨some 29, .ext (.tmp 27) 1, none, []⟩,
     ⟨some 30, .call (.func 80) [(.tmp 28), (.tmp 29)], none, []⟩,
     ⟨some 31, .mv (.tmp 11), none, []⟩,
     ⟨some 32, .mv (.tmp 3), none, []⟩,
     ⟨some 33, .call (.func 81) [(.tmp 31), (.tmp 32), (.const (.bool true))], none, []⟩,
     ⟨some 34, .ext (.tmp 33) 0, none, []⟩,
     ⟨some 35, .ext (.tmp 33) 1, none, []⟩,
     ⟨some 36, .call (.func 80) [(.tmp 34), (.tmp 35)], none, []⟩,
     ⟨none, .store 2 (.tmp 8) (.tmp 30), none, []⟩,
     ⟨none, .store 2 (.tmp 9) (.tmp 36), none, []⟩,
     ⟨some 10, .mv (.const (.int .i64 0)), none, []⟩] [25, 26, 27, 28, 29, 30, 31, 32, 33, 34, 35, 36])
  .ret))))
set_option maxRecDepth 100000 in
theorem ksling_Reach : IsCode Try.prog 36 37 csling_Reach [.cellN 8 2, .cellN 9 2, .tmp 10] :=
  ⟨Try.f36, _, [21, 0, 2, 4, 1, 6, 3, 10, 8, 9, 11], Try.func36, rfl, by decide, rfl, by kernel_rfl, by kernel_rfl⟩
/-- sling_Witness -/
def csling_Witness : ACode :=
  (.seq
   (.region false [⟨some 5, .box (.tmp 0), none, []⟩,
     ⟨some 7, .box (.tmp 2), none, []⟩,
     ⟨some 10, .mem [(.val (.int .i64 0)), (.val (.int .i64 0))], none, []⟩,
     ⟨some 11, .mv (.const (.slice none 0 0)), none, []⟩,
     ⟨some 12, .mv (.const (.int .i64 0)), none, []⟩] [])
  (.seq
   (.region false [⟨some 20, .loadN 3 (.tmp 5), none, []⟩,
     ⟨some 21, .mv (.tmp 1), none, []⟩,
     ⟨some 22, .loadN 2 (.tmp 7), none, []⟩,
     ⟨some 23, .mv (.tmp 3), none, []⟩,
     ⟨some 24, .call (.func 79) [(.tmp 20), (.tmp 21), (.tmp 22), (.tmp 23), (.const (.slice none 0 0))], none, []⟩,
     ⟨some 19, .mv (.tmp 24), none, []⟩,
     ⟨some 25, .ext (.tmp 19) 0, none, []⟩,
     ⟨some 26, .ext (.tmp 19) 1, none, []⟩,
     ⟨some 13, .mv (.tmp 25), none, []⟩,
     ⟨some 12, .mv (.tmp 26), none, []⟩] [20, 21, 22, 23, 24, 19, 25, 26])
  (.seq
   (.seq
    (.region false [⟨some 27, .mv (.tmp 12), none, []⟩,
      ⟨some 28, .bin .neq (.tmp 27) (.const (.int .i64 0)), none, []⟩] [27])
   (.cond (.tmp 28)
     (.seq
      (.region false [⟨some 29, .loadN 2 (.tmp 10), none, []⟩,
        ⟨some 30, .mv (.tmp 12), none, []⟩,
        ⟨none, .store 2 (.tmp 10) (.tmp 29), none, []⟩,
        ⟨some 11, .mv (.const (.slice none 0 0)), none, []⟩,
        ⟨some 12, .mv (.tmp 30), none, []⟩] [29, 30])
     .ret)
     .skip))
  (.seq
   (.region false [⟨some 32, .mv (.tmp 13), none, []⟩,
     ⟨some 33, .mv (.tmp 3), none, []⟩,
     ⟨some 34, .call (.func 83) [(.tmp 32), (.tmp 33)], none, []⟩,
     ⟨some 31, .mv (.tmp 34), none, []⟩,
     ⟨some 35, .ext (.tmp 31) 0, none, []⟩,
     ⟨some 36, .ext (.tmp 31) 1, none, []⟩,
     ⟨some 14, .mv (.tmp 35), none, []⟩,
     ⟨some 15, .mv (.tmp 36), none, []⟩] [32, 33, 34, 31, 35, 36, 15])
  (.seq
   (.seq
    (.region false [⟨some 37, .mv (.tmp 14), none, []⟩,
      ⟨some 38, .len_ (.tmp 37), none, []⟩,
      ⟨some 39, .mv (.const (.int .i64 0)), none, []⟩] [])
   (.block 0
     (.loop
       (.seq
        (.region false [⟨some 40, .bin .lss (.tmp 39) (.tmp 38), none, []⟩] [])
       (.seq
        (.cond (.tmp 40)
          .skip
          (.exit 0))
       (.seq
        (.block 1
          (.seq
           (.region false [⟨some 41, .mv (.tmp 39), none, []⟩,
             ⟨some 42, .iadS 1 (.tmp 37) (.tmp 39), none, []⟩,
             ⟨some 43, .load1 (.tmp 42), none, []⟩,
             ⟨some 16, .mv (.tmp 41), none, []⟩,
             ⟨some 17, .mv (.tmp 43), none, []⟩] [41, 42, 43])
          (.seq
           (.region false [⟨some 44, .mv (.tmp 17), none, []⟩,
             ⟨some 45, .mv (.tmp 13), none, []⟩,
             ⟨some 46, .mv (.tmp 16), none, []⟩,
             ⟨some 47, .call (.func 85) [(.tmp 45), (.tmp 46)], none, []⟩,
             ⟨some 48, .mv (.tmp 4), none, []⟩,
             ⟨some 49, .call (.func 84) [(.tmp 44), (.tmp 47), (.tmp 48)], none, []⟩,
             ⟨some 18, .mv (.tmp 49), none, []⟩] [44, 45, 46, 47, 48, 49])
          (.seq
           (.region false [⟨some 50, .mv (.tmp 16), none, []⟩,
             ⟨some 51, .bin .lss (.tmp 50) (.const (.int .i64 2)), none, []⟩] [50])
          (.cond (.tmp 51)
            (.region false [⟨some 52, .mv (.tmp 16), none, []⟩,
              ⟨some 53, .mv (.tmp 18), none, []⟩,
              ⟨some 54, .iadA 2 1 (.tmp 10) (.tmp 52), none, []⟩,
              ⟨none, .store 1 (.tmp 54) (.tmp 53), none, []⟩] [52, 53, 54])
            (.region false [⟨some 55, .mv (.tmp 11), none, []⟩,
              ⟨some 56, .mv (.tmp 18), none, []⟩,
              ⟨some 57, .buildSl 1 1 [(.val (.int .i64 0))] [(0, 1, (.tmp 56))], none, []⟩,
              ⟨some 58, .app 1 8 (.tmp 55) (.tmp 57), none, []⟩,
              ⟨some 11, .mv (.tmp 58), none, []⟩] [55, 56, 57, 58]))))))
       (.region false [⟨some 59, .bin .add (.tmp 39) (.const (.int .i64 1)), none, []⟩,
         ⟨some 39, .mv (.tmp 59), none, []⟩] [59])))))))
  (.seq
   (.region false [⟨some 60, .loadN 2 (.tmp 10), none, []⟩,
     ⟨some 61, .mv (.tmp 11), none, []⟩,
     ⟨none, .store 2 (.tmp 10) (.tmp 60), none, []⟩,
     ⟨some 11, .mv (.tmp 61), none, []⟩,
     ⟨some 12, .mv (.const (.int .i64 0)), none, []⟩] [60, 61])
  .ret))))))
set_option maxRecDepth 100000 in
theorem ksling_Witness : IsCode Try.prog 38 62 csling_Witness [.cellN 10 2, .tmp 11, .tmp 12] :=
  ⟨Try.f38, _, [51, 40, 28, 0, 2, 5, 1, 7, 3, 12, 10, 13, 14, 39, 38, 37, 17, 16, 4, 18, 11], Try.func38, rfl, by decide, rfl, by kernel_rfl, by kernel_rfl⟩
/-- sling_Keeps -/
def csling_Keeps : ACode :=
  (.seq
   (.region false [⟨some 5, .box (.tmp 0), none, []⟩,
     ⟨some 7, .box (.tmp 2), none, []⟩,
     ⟨some 9, .box (.tmp 4), none, []⟩,
     ⟨some 10, .mv (.const (.int .i64 0)), none, []⟩,
     ⟨some 11, .mv (.const (.bool false)), none, []⟩,
     ⟨some 12, .mv (.const (.int .i64 0)), none, []⟩] [])
  (.seq
   (.region false [⟨some 16, .loadN 3 (.tmp 5), none, []⟩,
     ⟨some 17, .mv (.tmp 1), none, []⟩,
     ⟨some 18, .loadN 2 (.tmp 7), none, []⟩,
     ⟨some 19, .mv (.tmp 3), none, []⟩,
     ⟨some 20, .loadN 2 (.tmp 9), none, []⟩,
     ⟨some 21, .buildSl 2 1 [(.val (.int .i64 0)), (.val (.int .i64 0))] [(0, 2, (.tmp 20))], none, []⟩,
     ⟨some 22, .call (.func 79) [(.tmp 16), (.tmp 17), (.tmp 18), (.tmp 19), (.tmp 21)], none, []⟩,
     ⟨some 15, .mv (.tmp 22), none, []⟩,
     ⟨some 23, .ext (.tmp 15) 0, none, []⟩,
     ⟨some 24, .ext (.tmp 15) 1, none, []⟩,
     ⟨some 13, .mv (.tmp 23), none, []⟩,
     ⟨some 12, .mv (.tmp 24), none, []⟩] [16, 17, 18, 19, 20, 21, 22, 15, 23, 24])
  (.seq
   (.seq
    (.region false [⟨some 25, .mv (.tmp 12), none, []⟩,
      ⟨some 26, .bin .neq (.tmp 25) (.const (.int .i64 0)), none, []⟩] [25])
   (.cond (.tmp 26)
     (.seq
      (.region false [⟨some 27, .mv (.tmp 12), none, []⟩,
        ⟨some 10, .mv (.const (.int .i64 0)), none, []⟩,
        ⟨some 11, .mv (.const (.bool false)), none, []⟩,
        ⟨some 12, .mv (.tmp 27), none, []⟩] [27])
     .ret)
     .skip))
  (.seq
   (.region false [⟨some 29, .mv (.tmp 13), none, []⟩,
     ⟨some 30, .mv (.tmp 3), none, []⟩,
     ⟨some 31, .loadN 2 (.tmp 9), none, []⟩,
     ⟨some 32, .call (.func 90) [(.tmp 29), (.tmp 30), (.tmp 31)], none, []⟩,
     ⟨some 28, .mv (.tmp 32), none, []⟩,
     ⟨some 33, .ext (.tmp 28) 0, none, []⟩,
     ⟨some 34, .ext (.tmp 28) 1, none, []⟩,
     ⟨some 10, .mv (.tmp 33), none, []⟩,
     ⟨some 14, .mv (.tmp 34), none, []⟩] [29, 30, 31, 32, 28, 33, 34])
  (.seq
   (.region false [⟨some 35, .mv (.tmp 10), none, []⟩,
     ⟨some 36, .mv (.tmp 14), none, []⟩,
     ⟨some 37, .un .not (.tmp 36), none, []⟩,
     ⟨some 10, .mv (.tmp 35), none, []⟩,
     ⟨some 11, .mv (.tmp 37), none, []⟩,
     ⟨some 12, .mv (.const (.int .i64 0)), none, []⟩] [35, 36, 37])
  .ret)))))
set_option maxRecDepth 100000 in
theorem ksling_Keeps : IsCode Try.prog 45 38 csling_Keeps [.tmp 10, .tmp 11, .tmp 12] :=
  ⟨Try.f45, _, [26, 0, 2, 4, 5, 1, 7, 3, 9, 12, 13, 10, 14, 11], Try.func45, rfl, by decide, rfl, by kernel_rfl, by kernel_rfl⟩
/-- law07_in -/
def claw07_in : ACode :=
  (.seq
   (.region false [⟨some 3, .box (.tmp 0), none, []⟩,
     ⟨some 4, .box (.tmp 1), none, []⟩,
     ⟨some 6, .mv (.const (.bool false)), none, []⟩] [])
  (.seq
   (.seq
    (.region false [⟨some 7, .mv (.const (.int .i64 0)), none, []⟩] [])
   (.block 0
     (.loop
       (.seq
        (.seq
         (.region false [⟨some 9, .mv (.tmp 7), none, []⟩,
           ⟨some 10, .bin .lss (.tmp 9) (.const (.int .i64 2)), none, []⟩] [9])
        (.cond (.tmp 10)
          .skip
          (.exit 0)))
       (.seq
        (.block 1
          (.seq
           (.region true [⟨some 13, .mv (.tmp 7), none, []⟩,
             ⟨some 14, .iadA 2 1 (.tmp 4) (.tmp 13), none, [0]⟩,
             ⟨some 15, .load1 (.tmp 14), none, [1, 0]⟩,
             ⟨some 16, .fad 0 (.tmp 3), none, []⟩,
             ⟨some 17, .load1 (.tmp 16), none, [3]⟩,
             ⟨some 18, .mv (.tmp 7), none, []⟩,
             ⟨some 19, .iadS 2 (.tmp 17) (.tmp 18), none, [4, 3, 5]⟩,
             ⟨some 20, .fad 0 (.tmp 19), none, [6, 4, 3, 5]⟩,
             ⟨some 21, .load1 (.tmp 20), none, [7, 6, 4, 3, 5]⟩,
             ⟨some 22, .bin .lss (.tmp 15) (.tmp 21), none, [2, 1, 0, 8, 7, 6, 4, 3, 5]⟩,
             ⟨some 23, .mv (.tmp 22), none, [9, 2, 1, 0, 8, 7, 6, 4, 3, 5]⟩,
             ⟨some 24, .mv (.tmp 7), (some (some 23, false)), [10, 9, 2, 1, 0, 8, 7, 6, 4, 3, 5]⟩,
             ⟨some 25, .iadA 2 1 (.tmp 4) (.tmp 24), (some (some 23, false)), [11, 10, 9, 2, 1, 0, 8, 7, 6, 4, 3, 5]⟩,
             ⟨some 26, .load1 (.tmp 25), (some (some 23, false)), [12, 11, 10, 9, 2, 1, 0, 8, 7, 6, 4, 3, 5]⟩,
             ⟨some 27, .fad 0 (.tmp 3), (some (some 23, false)), [10, 9, 2, 1, 0, 8, 7, 6, 4, 3, 5]⟩,
             ⟨some 28, .load1 (.tmp 27), (some (some 23, false)), [14, 10, 9, 2, 1, 0, 8, 7, 6, 4, 3, 5]⟩,
             ⟨some 29, .mv (.tmp 7), (some (some 23, false)), [10, 9, 2, 1, 0, 8, 7, 6, 4, 3, 5]⟩,
             ⟨some 30, .iadS 2 (.tmp 28) (.tmp 29), (some (some 23, false)), [15, 14, 10, 9, 2, 1, 0, 8, 7, 6, 4, 3, 5, 16]⟩,
             ⟨some 31, .fad 1 (.tmp 30), (some (some 23, false)), [17, 15, 14, 10, 9, 2, 1, 0, 8, 7, 6, 4, 3, 5, 16]⟩,
             ⟨some 32, .load1 (.tmp 31), (some (some 23, false)), [18, 17, 15, 14, 10, 9, 2, 1, 0, 8, 7, 6, 4, 3, 5, 16]⟩,
             ⟨some 33, .bin .gtr (.tmp 26) (.tmp 32), (some (some 23, false)), [13, 12, 11, 10, 9, 2, 1, 0, 8, 7, 6, 4, 3, 5, 19, 18, 17, 15, 14, 16]⟩,
             ⟨some 34, .pick (.tmp 23) (.const (.bool true)) (.tmp 33), none, [10, 9, 2, 1, 0, 8, 7, 6, 4, 3, 5, 20, 13, 12, 11, 19, 18, 17, 15, 14, 16]⟩] [13, 14, 15, 16, 17, 18, 19, 20, 21, 22, 23, 24, 25, 26, 27, 28, 29, 30, 31, 32, 33])
          (.cond (.tmp 34)
            (.seq
             (.region false [⟨some 6, .mv (.const (.bool false)), none, []⟩] [])
            .ret)
            .skip)))
       (.region false [⟨some 11, .mv (.tmp 7), none, []⟩,
         ⟨some 12, .bin .add (.tmp 11) (.const (.int .i64 1)), none, []⟩,
         ⟨some 7, .mv (.tmp 12), none, []⟩] [11, 12]))))))
  (.seq
   (.seq
    (.region false [⟨some 8, .mv (.const (.int .i64 0)), none, []⟩] [])
   (.block 2
     (.loop
       (.seq
        (.seq
         (.region false [⟨some 35, .mv (.tmp 8), none, []⟩,
           ⟨some 36, .mv (.tmp 2), none, []⟩,
           ⟨some 37, .len_ (.tmp 36), none, []⟩,
           ⟨some 38, .bin .lss (.tmp 35) (.tmp 37), none, []⟩] [35, 36, 37])
        (.cond (.tmp 38)
          .skip
          (.exit 2)))
       (.seq
        (.block 3
          (.seq
           (.region true [⟨some 41, .mv (.tmp 2), none, []⟩,
             ⟨some 42, .mv (.tmp 8), none, []⟩,
             ⟨some 43, .iadS 1 (.tmp 41) (.tmp 42), none, [0, 1]⟩,
             ⟨some 44, .load1 (.tmp 43), none, [2, 0, 1]⟩,
             ⟨some 45, .fad 1 (.tmp 3), none, []⟩,
             ⟨some 46, .fad 0 (.tmp 45), none, [4]⟩,
             ⟨some 47, .load1 (.tmp 46), none, [5, 4]⟩,
             ⟨some 48, .bin .lss (.tmp 44) (.tmp 47), none, [3, 2, 0, 1, 6, 5, 4]⟩,
             ⟨some 49, .mv (.tmp 48), none, [7, 3, 2, 0, 1, 6, 5, 4]⟩,
             ⟨some 50, .mv (.tmp 2), (some (some 49, false)), [8, 7, 3, 2, 0, 1, 6, 5, 4]⟩,
             ⟨some 51, .mv (.tmp 8), (some (some 49, false)), [8, 7, 3, 2, 0, 1, 6, 5, 4]⟩,
             ⟨some 52, .iadS 1 (.tmp 50) (.tmp 51), (some (some 49, false)), [9, 8, 7, 3, 2, 0, 1, 6, 5, 4, 10]⟩,
             ⟨some 53, .load1 (.tmp 52), (some (some 49, false)), [11, 9, 8, 7, 3, 2, 0, 1, 6, 5, 4, 10]⟩,
             ⟨some 54, .fad 1 (.tmp 3), (some (some 49, false)), [8, 7, 3, 2, 0, 1, 6, 5, 4]⟩,
             ⟨some 55, .fad 1 (.tmp 54), (some (some 49, false)), [13, 8, 7, 3, 2, 0, 1, 6, 5, 4]⟩,
             ⟨some 56, .load1 (.tmp 55), (some (some 49, false)), [14, 13, 8, 7, 3, 2, 0, 1, 6, 5, 4]⟩,
             ⟨some 57, .bin .gtr (.tmp 53) (.tmp 56), (some (some 49, false)), [12, 11, 9, 8, 7, 3, 2, 0, 1, 6, 5, 4, 10, 15, 14, 13]⟩,
             ⟨some 58, .pick (.tmp 49) (.const (.bool true)) (.tmp 57), none, [8, 7, 3, 2, 0, 1, 6, 5, 4, 16, 12, 11, 9, 10, 15, 14, 13]⟩] [41, 42, 43, 44, 45, 46, 47, 48, 49, 50, 51, 52, 53, 54, 55, 56, 57])
          (.cond (.tmp 58)
            (.seq
             (.region false [⟨some 6, .mv (.const (.bool false)), none, []⟩] [])
            .ret)
            .skip)))
       (.region false [⟨some 39, .mv (.tmp 8), none, []⟩,
         ⟨some 40, .bin .add (.tmp 39) (.const (.int .i64 1)), none, []⟩,
         ⟨some 8, .mv (.tmp 40), none, []⟩] [39, 40]))))))
  (.seq
   (.region false [⟨some 59, .mv (.tmp 2), none, []⟩,
     ⟨some 60, .len_ (.tmp 59), none, []⟩,
     ⟨some 61, .fad 5 (.tmp 3), none, []⟩,
     ⟨some 62, .load1 (.tmp 61), none, []⟩,
     ⟨some 63, .bin .eql (.tmp 60) (.tmp 62), none, []⟩,
     ⟨some 6, .mv (.tmp 63), none, []⟩] [59, 60, 61, 62, 63])
  .ret))))
set_option maxRecDepth 100000 in
theorem klaw07_in : IsCode Try.prog 42 64 claw07_in [.tmp 6] :=
  ⟨Try.f42, _, [58, 38, 34, 10, 0, 1, 7, 4, 3, 8, 2, 6], Try.func42, rfl, by decide, rfl, by kernel_rfl, by kernel_rfl⟩
/-- law07_last -/
def claw07_last : ACode :=
  (.seq
   (.region false [⟨some 3, .box (.tmp 0), none, []⟩,
     ⟨some 4, .box (.tmp 1), none, []⟩,
     ⟨some 6, .mem [(.val (.int .i64 0)), (.val (.int .i64 0))], none, []⟩,
     ⟨some 7, .mv (.const (.bool false)), none, []⟩] [])
  (.seq
   (.seq
    (.region false [⟨some 10, .mv (.tmp 2), none, []⟩,
      ⟨some 11, .len_ (.tmp 10), none, []⟩,
      ⟨some 12, .bin .eql (.tmp 11) (.const (.int .i64 0)), none, []⟩] [10, 11])
   (.cond (.tmp 12)
     (.seq
      (.region false [⟨some 13, .iadA 2 1 (.tmp 4) (.const (.int .i64 0)), none, []⟩,
        ⟨some 14, .load1 (.tmp 13), none, []⟩,
        ⟨some 15, .build [(.val (.int .i64 0)), (.val (.int .i64 0))] [(0, 1, (.tmp 14)), (1, 1, (.const (.int .i64 1)))], none, []⟩,
        ⟨none, .store 2 (.tmp 6) (.tmp 15), none, []⟩,
        ⟨some 7, .mv (.const (.bool true)), none, []⟩] [13, 14, 15])
     .ret)
     .skip))
  (.seq
   (.region false [⟨some 17, .loadN 3 (.tmp 3), none, []⟩,
     ⟨some 18, .loadN 2 (.tmp 4), none, []⟩,
     ⟨some 19, .mv (.tmp 2), none, []⟩,
     ⟨some 20, .call (.func 16) [(.tmp 17), (.tmp 18), (.tmp 19)], none, []⟩,
     ⟨some 16, .mv (.tmp 20), none, []⟩,
     ⟨some 21, .ext (.tmp 16) 0, none, []⟩,
     ⟨some 22, .ext (.tmp 16) 1, none, []⟩,
     ⟨some 8, .mv (.tmp 21), none, []⟩,
     ⟨some 9, .mv (.tmp 22), none, []⟩] [17, 18, 19, 20, 16, 21, 22])
  (.seq
   (.seq
    (.region false [⟨some 23, .mv (.tmp 9), none, []⟩,
      ⟨some 24, .bin .neq (.tmp 23) (.const (.int .i64 0)), none, []⟩,
      ⟨some 25, .mv (.tmp 24), none, []⟩,
      ⟨some 26, .mv (.tmp 8), (some (some 25, false)), []⟩,
      ⟨some 27, .len_ (.tmp 26), (some (some 25, false)), []⟩,
      ⟨some 28, .mv (.tmp 2), (some (some 25, false)), []⟩,
      ⟨some 29, .len_ (.tmp 28), (some (some 25, false)), []⟩,
      ⟨some 30, .bin .neq (.tmp 27) (.tmp 29), (some (some 25, false)), []⟩,
      ⟨some 31, .pick (.tmp 25) (.const (.bool true)) (.tmp 30), none, []⟩,
      ⟨some 32, .mv (.tmp 31), none, []⟩,
      ⟨some 33, .mv (.tmp 8), (some (some 32, false)), []⟩,
      ⟨some 34, .mv (.tmp 8), (some (some 32, false)), []⟩,
      ⟨some 35, .len_ (.tmp 34), (some (some 32, false)), []⟩,
      ⟨some 36, .bin .sub (.tmp 35) (.const (.int .i64 1)), (some (some 32, false)), []⟩,
      ⟨some 37, .iadS 2 (.tmp 33) (.tmp 36), (some (some 32, false)), []⟩,
      ⟨some 38, .loadN 2 (.tmp 37), (some (some 32, false)), []⟩,
      ⟨some 39, .call (.func 18) [(.tmp 38)], (some (some 32, false)), []⟩,
      ⟨some 40, .un .not (.tmp 39), (some (some 32, false)), []⟩,
      ⟨some 41, .pick (.tmp 32) (.const (.bool true)) (.tmp 40), none, []⟩] [23, 24, 25, 26, 27, 28, 29, 30, 31, 32, 33, 34, 35, 36, 37, 38, 39, 40])
   (.cond (.tmp 41)
     (.seq
      (.region false [⟨some 42, .build [(.val (.int .i64 0)), (.val (.int .i64 0))] [], none, []⟩,
        ⟨none, .store 2 (.tmp 6) (.tmp 42), none, []⟩,
        ⟨some 7, .mv (.const (.bool false)), none, []⟩] [42])
     .ret)
     .skip))
  (.seq
   (.region false [⟨some 43, .mv (.tmp 8), none, []⟩,
     ⟨some 44, .mv (.tmp 8), none, []⟩,
     ⟨some 45, .len_ (.tmp 44), none, []⟩,
     ⟨some 46, .bin .sub (.tmp 45) (.const (.int .i64 1)), none, []⟩,
     ⟨some 47, .iadS 2 (.tmp 43) (.tmp 46), none, []⟩,
     ⟨some 48, .loadN 2 (.tmp 47), none, []⟩,
     ⟨none, .store 2 (.tmp 6) (.tmp 48), none, []⟩,
     ⟨some 7, .mv (.const (.bool true)), none, []⟩] [43, 44, 45, 46, 47, 48])
  .ret)))))
set_option maxRecDepth 100000 in
theorem klaw07_last : IsCode Try.prog 43 49 claw07_last [.cellN 6 2, .tmp 7] :=
  ⟨Try.f43, _, [41, 12, 0, 1, 2, 4, 6, 3, 9, 8, 7], Try.func43, rfl, by decide, rfl, by kernel_rfl, by kernel_rfl⟩
end Go.Proofs.Ythohcimmoobaoaa
/- The functions' bodies, translated. Written by a program; no conditions. -/
namespace Go.Proofs.Ythohcimmoobaoaa
open Go.RowKit Lift

/-- sling_within -/
def csling_within : ACode :=
  (.seq
   (.region false [⟨some 6, .mv (.const (.bool false)), none, []⟩] [])
  (.seq
   (.region false [⟨some 7, .mv (.tmp 0), none, []⟩,
     ⟨some 8, .mv (.tmp 1), none, []⟩,
     ⟨some 9, .bin .geq (.tmp 7) (.tmp 8), none, []⟩,
     ⟨some 10, .mv (.tmp 9), none, []⟩,
     ⟨some 11, .mv (.tmp 0), (some (some 10, true)), []⟩,
     ⟨some 12, .mv (.tmp 2), (some (some 10, true)), []⟩,
     ⟨some 13, .bin .leq (.tmp 11) (.tmp 12), (some (some 10, true)), []⟩,
     ⟨some 14, .pick (.tmp 10) (.tmp 13) (.const (.bool false)), none, []⟩,
     ⟨some 6, .mv (.tmp 14), none, []⟩] [7, 8, 9, 10, 11, 12, 13, 14])
  .ret))
set_option maxRecDepth 100000 in
theorem ksling_within : IsCode Try.prog 53 15 csling_within [.tmp 6] :=
  ⟨Try.f53, _, [0, 1, 2, 6], Try.func53, rfl, by decide, rfl, by kernel_rfl, by kernel_rfl⟩
/-- ref07_within -/
def cref07_within : ACode :=
  (.seq
   (.region false [⟨some 6, .mv (.const (.bool false)), none, []⟩] [])
  (.seq
   (.region false [⟨some 7, .mv (.tmp 0), none, []⟩,
     ⟨some 8, .mv (.tmp 1), none, []⟩,
     ⟨some 9, .bin .geq (.tmp 7) (.tmp 8), none, []⟩,
     ⟨some 10, .mv (.tmp 9), none, []⟩,
     ⟨some 11, .mv (.tmp 0), (some (some 10, true)), []⟩,
     ⟨some 12, .mv (.tmp 2), (some (some 10, true)), []⟩,
     ⟨some 13, .bin .leq (.tmp 11) (.tmp 12), (some (some 10, true)), []⟩,
     ⟨some 14, .pick (.tmp 10) (.tmp 13) (.const (.bool false)), none, []⟩,
     ⟨some 6, .mv (.tmp 14), none, []⟩] [7, 8, 9, 10, 11, 12, 13, 14])
  .ret))
set_option maxRecDepth 100000 in
theorem kref07_within : IsCode Try.prog 56 15 cref07_within [.tmp 6] :=
  ⟨Try.f56, _, [0, 1, 2, 6], Try.func56, rfl, by decide, rfl, by kernel_rfl, by kernel_rfl⟩
/-- sling_Check -/
def csling_Check : ACode :=
  (.seq
   (.region false [⟨some 1, .box (.tmp 0), none, []⟩,
     ⟨some 2, .mv (.const (.int .i64 0)), none, []⟩] [])
  (.seq
   (.seq
    (.region false [⟨some 3, .fad 2 (.tmp 1), none, []⟩,
      ⟨some 4, .load1 (.tmp 3), none, []⟩,
      ⟨some 5, .call (.func 53) [(.tmp 4), (.const (.int .i64 1)), (.const (.int .i64 4))], none, []⟩,
      ⟨some 6, .un .not (.tmp 5), none, []⟩,
      ⟨some 7, .mv (.tmp 6), none, []⟩,
      ⟨some 8, .fad 0 (.tmp 1), (some (some 7, false)), []⟩,
      ⟨some 9, .load1 (.tmp 8), (some (some 7, false)), []⟩,
      ⟨some 10, .fad 2 (.tmp 1), (some (some 7, false)), []⟩,
      ⟨some 11, .load1 (.tmp 10), (some (some 7, false)), []⟩,
      ⟨some 12, .bin .mul (.const (.int .i64 2)) (.tmp 11), (some (some 7, false)), []⟩,
      ⟨some 13, .call (.func 53) [(.tmp 9), (.const (.int .i64 0)), (.tmp 12)], (some (some 7, false)), []⟩,
      ⟨some 14, .un .not (.tmp 13), (some (some 7, false)), []⟩,
      ⟨some 15, .pick (.tmp 7) (.const (.bool true)) (.tmp 14), none, []⟩,
      ⟨some 16, .mv (.tmp 15), none, []⟩,
      ⟨some 17, .fad 1 (.tmp 1), (some (some 16, false)), []⟩,
      ⟨some 18, .load1 (.tmp 17), (some (some 16, false)), []⟩,
      ⟨some 19, .fad 2 (.tmp 1), (some (some 16, false)), []⟩,
      ⟨some 20, .load1 (.tmp 19), (some (some 16, false)), []⟩,
      ⟨some 21, .call (.func 53) [(.tmp 18), (.const (.int .i64 0)), (.tmp 20)], (some (some 16, false)), []⟩,
      ⟨some 22, .un .not (.tmp 21), (some (some 16, false)), []⟩,
      ⟨some 23, .pick (.tmp 16) (.const (.bool true)) (.tmp 22), none, []⟩] [3, 4, 5, 6, 7, 8, 9, 10, 11, 12, 13, 14, 15, 16, 17, 18, 19, 20, 21, 22])
   (.cond (.tmp 23)
     (.seq
      (.region false [⟨some 2, .mv (.const (.int .i64 70)), none, []⟩] [])
     .ret)
     .skip))
  (.seq
   (.region false [⟨some 2, .mv (.const (.int .i64 0)), none, []⟩] [])
  .ret)))
set_option maxRecDepth 100000 in
theorem ksling_Check : IsCode Try.prog 25 24 csling_Check [.tmp 2] :=
  ⟨Try.f25, _, [23, 0, 1, 2], Try.func25, rfl, by decide, rfl, by kernel_rfl, by kernel_rfl⟩
/-- ref07_Check -/
def cref07_Check : ACode :=
  (.seq
   (.region false [⟨some 1, .box (.tmp 0), none, []⟩,
     ⟨some 2, .mv (.const (.int .i64 0)), none, []⟩] [])
  (.seq
   (.seq
    (.region false [⟨some 3, .fad 2 (.tmp 1), none, []⟩,
      ⟨some 4, .load1 (.tmp 3), none, []⟩,
      ⟨some 5, .call (.func 56) [(.tmp 4), (.const (.int .i64 1)), (.const (.int .i64 4))], none, []⟩,
      ⟨some 6, .un .not (.tmp 5), none, []⟩,
      ⟨some 7, .mv (.tmp 6), none, []⟩,
      ⟨some 8, .fad 0 (.tmp 1), (some (some 7, false)), []⟩,
      ⟨some 9, .load1 (.tmp 8), (some (some 7, false)), []⟩,
      ⟨some 10, .fad 2 (.tmp 1), (some (some 7, false)), []⟩,
      ⟨some 11, .load1 (.tmp 10), (some (some 7, false)), []⟩,
      ⟨some 12, .bin .mul (.const (.int .i64 2)) (.tmp 11), (some (some 7, false)), []⟩,
      ⟨some 13, .call (.func 56) [(.tmp 9), (.const (.int .i64 0)), (.tmp 12)], (some (some 7, false)), []⟩,
      ⟨some 14, .un .not (.tmp 13), (some (some 7, false)), []⟩,
      ⟨some 15, .pick (.tmp 7) (.const (.bool true)) (.tmp 14), none, []⟩,
      ⟨some 16, .mv (.tmp 15), none, []⟩,
      ⟨some 17, .fad 1 (.tmp 1), (some (some 16, false)), []⟩,
      ⟨some 18, .load1 (.tmp 17), (some (some 16, false)), []⟩,
      ⟨some 19, .fad 2 (.tmp 1), (some (some 16, false)), []⟩,
      ⟨some 20, .load1 (.tmp 19), (some (some 16, false)), []⟩,
      ⟨some 21, .call (.func 56) [(.tmp 18), (.const (.int .i64 0)), (.tmp 20)], (some (some 16, false)), []⟩,
      ⟨some 22, .un .not (.tmp 21), (some (some 16, false)), []⟩,
      ⟨some 23, .pick (.tmp 16) (.const (.bool true)) (.tmp 22), none, []⟩] [3, 4, 5, 6, 7, 8, 9, 10, 11, 12, 13, 14, 15, 16, 17, 18, 19, 20, 21, 22])
   (.cond (.tmp 23)
     (.seq
      (.region false [⟨some 2, .mv (.const (.int .i64 70)), none, []⟩] [])
     .ret)
     .skip))
  (.seq
   (.region false [⟨some 2, .mv (.const (.int .i64 0)), none, []⟩] [])
  .ret)))
set_option maxRecDepth 100000 in
theorem kref07_Check : IsCode Try.prog 17 24 cref07_Check [.tmp 2] :=
  ⟨Try.f17, _, [23, 0, 1, 2], Try.func17, rfl, by decide, rfl, by kernel_rfl, by kernel_rfl⟩
/-- sling_started -/
def csling_started : ACode :=
  (.seq
   (.region false [⟨some 1, .box (.tmp 0), none, []⟩,
     ⟨some 2, .mv (.const (.bool false)), none, []⟩] [])
  (.seq
   (.region false [⟨some 3, .iadA 2 1 (.tmp 1) (.const (.int .i64 0)), none, []⟩,
     ⟨some 4, .load1 (.tmp 3), none, []⟩,
     ⟨some 5, .call (.func 53) [(.tmp 4), (.const (.int .i64 (-1000))), (.const (.int .i64 1000))], none, []⟩,
     ⟨some 6, .mv (.tmp 5), none, []⟩,
     ⟨some 7, .iadA 2 1 (.tmp 1) (.const (.int .i64 1)), (some (some 6, true)), []⟩,
     ⟨some 8, .load1 (.tmp 7), (some (some 6, true)), []⟩,
     ⟨some 9, .call (.func 53) [(.tmp 8), (.const (.int .i64 (-1000))), (.const (.int .i64 1000))], (some (some 6, true)), []⟩,
     ⟨some 10, .pick (.tmp 6) (.tmp 9) (.const (.bool false)), none, []⟩,
     ⟨some 2, .mv (.tmp 10), none, []⟩] [3, 4, 5, 6, 7, 8, 9, 10])
  .ret))
set_option maxRecDepth 100000 in
theorem ksling_started : IsCode Try.prog 50 11 csling_started [.tmp 2] :=
  ⟨Try.f50, _, [0, 1, 2], Try.func50, rfl, by decide, rfl, by kernel_rfl, by kernel_rfl⟩
/-- sling_lowest -/
def csling_lowest : ACode :=
  (.seq
   (.region false [⟨some 4, .mem [(.val (.int .i64 0)), (.val (.int .i64 0))], none, []⟩] [])
  (.seq
   (.region false [⟨some 7, .mv (.tmp 0), none, []⟩,
     ⟨some 8, .mv (.tmp 0), none, []⟩,
     ⟨some 9, .un .neg (.tmp 8), none, []⟩,
     ⟨some 10, .mnx true [(.tmp 7), (.tmp 9)], none, []⟩,
     ⟨some 11, .mv (.tmp 1), none, []⟩,
     ⟨some 5, .mv (.tmp 10), none, []⟩,
     ⟨some 6, .mv (.tmp 11), none, []⟩] [7, 8, 9, 10, 11])
  (.seq
   (.block 0
     (.loop
       (.seq
        (.seq
         (.region false [⟨some 12, .mv (.tmp 6), none, []⟩,
           ⟨some 13, .bin .gtr (.tmp 12) (.const (.int .i64 0)), none, []⟩] [12])
        (.cond (.tmp 13)
          .skip
          (.exit 0)))
       (.block 1
         (.region true [⟨some 14, .mv (.tmp 6), none, []⟩,
           ⟨some 15, .mv (.tmp 5), none, []⟩,
           ⟨some 16, .mv (.tmp 6), none, []⟩,
           ⟨some 17, .bin .rem (.tmp 15) (.tmp 16), none, [1, 2]⟩,
           ⟨some 5, .mv (.tmp 14), none, [0, 1]⟩,
           ⟨some 6, .mv (.tmp 17), none, [3, 1, 2, 4, 0]⟩] [14, 15, 16, 17])))))
  (.seq
   (.region true [⟨some 18, .mv (.tmp 0), none, []⟩,
     ⟨some 19, .mv (.tmp 5), none, []⟩,
     ⟨some 20, .bin .quo (.tmp 18) (.tmp 19), none, [0, 1]⟩,
     ⟨some 21, .mv (.tmp 1), none, []⟩,
     ⟨some 22, .mv (.tmp 5), none, []⟩,
     ⟨some 23, .bin .quo (.tmp 21) (.tmp 22), none, [3, 4]⟩,
     ⟨some 24, .build [(.val (.int .i64 0)), (.val (.int .i64 0))] [(0, 1, (.tmp 20)), (1, 1, (.tmp 23))], none, [2, 0, 1, 5, 3, 4]⟩,
     ⟨none, .store 2 (.tmp 4) (.tmp 24), none, [6, 2, 0, 1, 5, 3, 4]⟩] [18, 19, 20, 21, 22, 23, 24])
  .ret))))
set_option maxRecDepth 100000 in
theorem ksling_lowest : IsCode Try.prog 80 25 csling_lowest [.cellN 4 2] :=
  ⟨Try.f80, _, [13, 0, 1, 6, 5, 4], Try.func80, rfl, by decide, rfl, by kernel_rfl, by kernel_rfl⟩
/-- psling_load_tick -/
def cpsling_load_tick : ACode :=
  (.seq
   (.region true [⟨some 4, .mv (.tmp 0), none, []⟩,
     ⟨some 5, .nilc (.tmp 4), none, [0]⟩,
     ⟨some 6, .fad 5 (.tmp 5), none, [1, 0]⟩,
     ⟨some 7, .load1 (.tmp 6), none, [2, 1, 0]⟩,
     ⟨some 8, .mv (.tmp 0), none, []⟩,
     ⟨some 9, .nilc (.tmp 8), none, [4]⟩,
     ⟨some 10, .fad 0 (.tmp 9), none, [5, 4]⟩,
     ⟨some 11, .fad 2 (.tmp 10), none, [6, 5, 4]⟩,
     ⟨some 12, .load1 (.tmp 11), none, [7, 6, 5, 4]⟩,
     ⟨some 13, .bin .mul (.tmp 7) (.tmp 12), none, [3, 2, 1, 0, 8, 7, 6, 5, 4]⟩,
     ⟨some 14, .nilc (.tmp 4), none, [0, 1, 2, 3, 4, 5, 6, 7, 8, 9]⟩,
     ⟨some 15, .fad 5 (.tmp 14), none, [10, 0, 1, 2, 3, 4, 5, 6, 7, 8, 9]⟩,
     ⟨none, .store 1 (.tmp 15) (.tmp 13), none, [11, 10, 0, 1, 2, 3, 4, 5, 6, 7, 8, 9]⟩] [4, 5, 6, 7, 8, 9, 10, 11, 12, 13, 14, 15])
  (.seq
   (.region true [⟨some 16, .mv (.tmp 0), none, []⟩,
     ⟨some 17, .mv (.tmp 0), none, []⟩,
     ⟨some 18, .nilc (.tmp 17), none, [1]⟩,
     ⟨some 19, .fad 0 (.tmp 18), none, [2, 1]⟩,
     ⟨some 20, .fad 2 (.tmp 19), none, [3, 2, 1]⟩,
     ⟨some 21, .load1 (.tmp 20), none, [4, 3, 2, 1]⟩,
     ⟨some 22, .mv (.tmp 0), none, []⟩,
     ⟨some 23, .nilc (.tmp 22), none, [6]⟩,
     ⟨some 24, .fad 4 (.tmp 23), none, [7, 6]⟩,
     ⟨some 25, .load1 (.tmp 24), none, [8, 7, 6]⟩,
     ⟨some 26, .bin .mul (.tmp 21) (.tmp 25), none, [5, 4, 3, 2, 1, 9, 8, 7, 6]⟩,
     ⟨some 27, .mv (.tmp 0), none, []⟩,
     ⟨some 28, .nilc (.tmp 27), none, [11]⟩,
     ⟨some 29, .fad 0 (.tmp 28), none, [12, 11]⟩,
     ⟨some 30, .fad 0 (.tmp 29), none, [13, 12, 11]⟩,
     ⟨some 31, .load1 (.tmp 30), none, [14, 13, 12, 11]⟩,
     ⟨some 32, .mv (.tmp 0), none, []⟩,
     ⟨some 33, .nilc (.tmp 32), none, [16]⟩,
     ⟨some 34, .fad 3 (.tmp 33), none, [17, 16]⟩,
     ⟨some 35, .load1 (.tmp 34), none, [18, 17, 16]⟩,
     ⟨some 36, .bin .mul (.tmp 31) (.tmp 35), none, [15, 14, 13, 12, 11, 19, 18, 17, 16]⟩,
     ⟨some 37, .bin .sub (.tmp 26) (.tmp 36), none, [10, 5, 4, 3, 2, 1, 9, 8, 7, 6, 20, 15, 14, 13, 12, 11, 19, 18, 17, 16]⟩,
     ⟨some 38, .mv (.tmp 0), none, []⟩,
     ⟨some 39, .nilc (.tmp 38), none, [22]⟩,
     ⟨some 40, .fad 0 (.tmp 39), none, [23, 22]⟩,
     ⟨some 41, .fad 1 (.tmp 40), none, [24, 23, 22]⟩,
     ⟨some 42, .load1 (.tmp 41), none, [25, 24, 23, 22]⟩,
     ⟨some 43, .mv (.tmp 0), none, []⟩,
     ⟨some 44, .nilc (.tmp 43), none, [27]⟩,
     ⟨some 45, .fad 4 (.tmp 44), none, [28, 27]⟩,
     ⟨some 46, .load1 (.tmp 45), none, [29, 28, 27]⟩,
     ⟨some 47, .bin .mul (.tmp 42) (.tmp 46), none, [26, 25, 24, 23, 22, 30, 29, 28, 27]⟩,
     ⟨some 48, .bin .sub (.tmp 37) (.tmp 47), none, [21, 10, 5, 4, 3, 2, 1, 9, 8, 7, 6, 20, 15, 14, 13, 12, 11, 19, 18, 17, 16, 31, 26, 25, 24, 23, 22, 30, 29, 28, 27]⟩,
     ⟨some 49, .mv (.tmp 1), none, []⟩,
     ⟨some 50, .mv (.tmp 0), none, []⟩,
     ⟨some 51, .nilc (.tmp 50), none, [34]⟩,
     ⟨some 52, .fad 5 (.tmp 51), none, [35, 34]⟩,
     ⟨some 53, .load1 (.tmp 52), none, [36, 35, 34]⟩,
     ⟨some 54, .bin .mul (.tmp 49) (.tmp 53), none, [33, 37, 36, 35, 34]⟩,
     ⟨some 55, .bin .add (.tmp 48) (.tmp 54), none, [32, 21, 10, 5, 4, 3, 2, 1, 9, 8, 7, 6, 20, 15, 14, 13, 12, 11, 19, 18, 17, 16, 31, 26, 25, 24, 23, 22, 30, 29, 28, 27, 38, 33, 37, 36, 35, 34]⟩,
     ⟨some 56, .nilc (.tmp 16), none, [0, 1, 2, 3, 4, 5, 6, 7, 8, 9, 10, 11, 12, 13, 14, 15, 16, 17, 18, 19, 20, 21, 22, 23, 24, 25, 26, 27, 28, 29, 30, 31, 32, 33, 34, 35, 36, 37, 38, 39]⟩,
     ⟨some 57, .fad 4 (.tmp 56), none, [40, 0, 1, 2, 3, 4, 5, 6, 7, 8, 9, 10, 11, 12, 13, 14, 15, 16, 17, 18, 19, 20, 21, 22, 23, 24, 25, 26, 27, 28, 29, 30, 31, 32, 33, 34, 35, 36, 37, 38, 39]⟩,
     ⟨none, .store 1 (.tmp 57) (.tmp 55), none, [41, 40, 0, 1, 2, 3, 4, 5, 6, 7, 8, 9, 10, 11, 12, 13, 14, 15, 16, 17, 18, 19, 20, 21, 22, 23, 24, 25, 26, 27, 28, 29, 30, 31, 32, 33, 34, 35, 36, 37, 38, 39]⟩] [16, 17, 18, 19, 20, 21, 22, 23, 24, 25, 26, 27, 28, 29, 30, 31, 32, 33, 34, 35, 36, 37, 38, 39, 40, 41, 42, 43, 44, 45, 46, 47, 48, 49, 50, 51, 52, 53, 54, 55, 56, 57])
  (.region true [⟨some 58, .mv (.tmp 0), none, []⟩,
    ⟨some 59, .mv (.tmp 0), none, []⟩,
    ⟨some 60, .nilc (.tmp 59), none, [1]⟩,
    ⟨some 61, .fad 0 (.tmp 60), none, [2, 1]⟩,
    ⟨some 62, .fad 2 (.tmp 61), none, [3, 2, 1]⟩,
    ⟨some 63, .load1 (.tmp 62), none, [4, 3, 2, 1]⟩,
    ⟨some 64, .mv (.tmp 0), none, []⟩,
    ⟨some 65, .nilc (.tmp 64), none, [6]⟩,
    ⟨some 66, .fad 3 (.tmp 65), none, [7, 6]⟩,
    ⟨some 67, .load1 (.tmp 66), none, [8, 7, 6]⟩,
    ⟨some 68, .bin .mul (.tmp 63) (.tmp 67), none, [5, 4, 3, 2, 1, 9, 8, 7, 6]⟩,
    ⟨some 69, .mv (.tmp 0), none, []⟩,
    ⟨some 70, .nilc (.tmp 69), none, [11]⟩,
    ⟨some 71, .fad 4 (.tmp 70), none, [12, 11]⟩,
    ⟨some 72, .load1 (.tmp 71), none, [13, 12, 11]⟩,
    ⟨some 73, .bin .add (.tmp 68) (.tmp 72), none, [10, 5, 4, 3, 2, 1, 9, 8, 7, 6, 14, 13, 12, 11]⟩,
    ⟨some 74, .nilc (.tmp 58), none, [0, 1, 2, 3, 4, 5, 6, 7, 8, 9, 10, 11, 12, 13, 14, 15]⟩,
    ⟨some 75, .fad 3 (.tmp 74), none, [16, 0, 1, 2, 3, 4, 5, 6, 7, 8, 9, 10, 11, 12, 13, 14, 15]⟩,
    ⟨none, .store 1 (.tmp 75) (.tmp 73), none, [17, 16, 0, 1, 2, 3, 4, 5, 6, 7, 8, 9, 10, 11, 12, 13, 14, 15]⟩] [58, 59, 60, 61, 62, 63, 64, 65, 66, 67, 68, 69, 70, 71, 72, 73, 74, 75])))
set_option maxRecDepth 100000 in
theorem kpsling_load_tick : IsCode Try.prog 54 76 cpsling_load_tick [] :=
  ⟨Try.f54, _, [0, 1], Try.func54, rfl, by decide, rfl, by kernel_rfl, by kernel_rfl⟩
/-- psling_load_place -/
def cpsling_load_place : ACode :=
  (.seq
   (.region false [⟨some 2, .mem [(.val (.int .i64 0)), (.val (.int .i64 0))], none, []⟩] [])
  (.seq
   (.region true [⟨some 3, .mv (.tmp 0), none, []⟩,
     ⟨some 4, .nilc (.tmp 3), none, [0]⟩,
     ⟨some 5, .fad 3 (.tmp 4), none, [1, 0]⟩,
     ⟨some 6, .load1 (.tmp 5), none, [2, 1, 0]⟩,
     ⟨some 7, .mv (.tmp 0), none, []⟩,
     ⟨some 8, .nilc (.tmp 7), none, [4]⟩,
     ⟨some 9, .fad 5 (.tmp 8), none, [5, 4]⟩,
     ⟨some 10, .load1 (.tmp 9), none, [6, 5, 4]⟩,
     ⟨some 11, .call (.func 80) [(.tmp 6), (.tmp 10)], none, [3, 2, 1, 0, 7, 6, 5, 4]⟩,
     ⟨none, .store 2 (.tmp 2) (.tmp 11), none, [8, 3, 2, 1, 0, 7, 6, 5, 4]⟩] [3, 4, 5, 6, 7, 8, 9, 10, 11])
  .ret))
set_option maxRecDepth 100000 in
theorem kpsling_load_place : IsCode Try.prog 55 12 cpsling_load_place [.cellN 2 2] :=
  ⟨Try.f55, _, [0, 2], Try.func55, rfl, by decide, rfl, by kernel_rfl, by kernel_rfl⟩
/-- sling_Swing_S1 -/
def csling_Swing_S1 : ACode :=
  (.seq
   (.region false [⟨some 2, .mv (.const (.bool false)), none, []⟩] [])
  (.seq
   (.region false [⟨some 3, .mv (.tmp 0), none, []⟩,
     ⟨some 4, .call (.func 53) [(.tmp 3), (.const (.int .i64 (-100))), (.const (.int .i64 100))], none, []⟩,
     ⟨some 5, .un .not (.tmp 4), none, []⟩,
     ⟨some 2, .mv (.tmp 5), none, []⟩] [3, 4, 5])
  .ret))
set_option maxRecDepth 100000 in
theorem ksling_Swing_S1 : IsCode Try.prog 52 6 csling_Swing_S1 [.tmp 2] :=
  ⟨Try.f52, _, [0, 2], Try.func52, rfl, by decide, rfl, by kernel_rfl, by kernel_rfl⟩
/-- sling_end -/
def csling_end : ACode :=
  (.seq
   (.region false [⟨some 4, .box (.tmp 1), none, []⟩,
     ⟨some 6, .mv (.const (.int .i64 0)), none, []⟩] [])
  (.seq
   (.seq
    (.region false [⟨some 7, .mv (.tmp 0), none, []⟩,
      ⟨some 8, .bin .gtr (.tmp 7) (.const (.int .i64 0)), none, []⟩,
      ⟨some 9, .mv (.tmp 2), none, []⟩,
      ⟨some 10, .eqb false (.tmp 8) (.tmp 9), none, []⟩,
      ⟨some 11, .mv (.tmp 10), none, []⟩,
      ⟨some 12, .mv (.tmp 0), (some (some 11, true)), []⟩,
      ⟨some 13, .bin .neq (.tmp 12) (.const (.int .i64 0)), (some (some 11, true)), []⟩,
      ⟨some 14, .pick (.tmp 11) (.tmp 13) (.const (.bool false)), none, []⟩] [7, 8, 9, 10, 11, 12, 13])
   (.cond (.tmp 14)
     (.seq
      (.region false [⟨some 15, .fad 1 (.tmp 4), none, []⟩,
        ⟨some 16, .load1 (.tmp 15), none, []⟩,
        ⟨some 6, .mv (.tmp 16), none, []⟩] [15, 16])
     .ret)
     .skip))
  (.seq
   (.region false [⟨some 17, .fad 0 (.tmp 4), none, []⟩,
     ⟨some 18, .load1 (.tmp 17), none, []⟩,
     ⟨some 6, .mv (.tmp 18), none, []⟩] [17, 18])
  .ret)))
set_option maxRecDepth 100000 in
theorem ksling_end : IsCode Try.prog 84 19 csling_end [.tmp 6] :=
  ⟨Try.f84, _, [14, 1, 0, 2, 4, 6], Try.func84, rfl, by decide, rfl, by kernel_rfl, by kernel_rfl⟩
/-- ref07_inside -/
def cref07_inside : ACode :=
  (.seq
   (.region false [⟨some 2, .box (.tmp 0), none, []⟩,
     ⟨some 4, .mv (.const (.bool false)), none, []⟩] [])
  (.seq
   (.region false [⟨some 5, .fad 0 (.tmp 2), none, []⟩,
     ⟨some 6, .load1 (.tmp 5), none, []⟩,
     ⟨some 7, .mv (.tmp 1), none, []⟩,
     ⟨some 8, .un .neg (.tmp 7), none, []⟩,
     ⟨some 9, .bin .geq (.tmp 6) (.tmp 8), none, []⟩,
     ⟨some 10, .mv (.tmp 9), none, []⟩,
     ⟨some 11, .fad 1 (.tmp 2), (some (some 10, true)), []⟩,
     ⟨some 12, .load1 (.tmp 11), (some (some 10, true)), []⟩,
     ⟨some 13, .mv (.tmp 1), (some (some 10, true)), []⟩,
     ⟨some 14, .bin .leq (.tmp 12) (.tmp 13), (some (some 10, true)), []⟩,
     ⟨some 15, .pick (.tmp 10) (.tmp 14) (.const (.bool false)), none, []⟩,
     ⟨some 4, .mv (.tmp 15), none, []⟩] [5, 6, 7, 8, 9, 10, 11, 12, 13, 14, 15])
  .ret))
set_option maxRecDepth 100000 in
theorem kref07_inside : IsCode Try.prog 108 16 cref07_inside [.tmp 4] :=
  ⟨Try.f108, _, [0, 2, 1, 4], Try.func108, rfl, by decide, rfl, by kernel_rfl, by kernel_rfl⟩
/-- psling_set_span -/
def cpsling_set_span : ACode :=
  (.seq
   (.region false [⟨some 4, .mem [(.val (.int .i64 0)), (.val (.int .i64 0))], none, []⟩] [])
  (.seq
   (.seq
    (.region false [⟨some 5, .mv (.tmp 1), none, []⟩,
      ⟨some 6, .bin .lss (.tmp 5) (.const (.int .i64 2)), none, []⟩] [5])
   (.cond (.tmp 6)
     (.seq
      (.region false [⟨some 7, .mv (.tmp 0), none, []⟩,
        ⟨some 8, .nilc (.tmp 7), none, []⟩,
        ⟨some 9, .fad 3 (.tmp 8), none, []⟩,
        ⟨some 10, .load1 (.tmp 9), none, []⟩,
        ⟨some 11, .mv (.tmp 1), none, []⟩,
        ⟨some 12, .iadS 2 (.tmp 10) (.tmp 11), none, []⟩,
        ⟨some 13, .loadN 2 (.tmp 12), none, []⟩,
        ⟨none, .store 2 (.tmp 4) (.tmp 13), none, []⟩] [7, 8, 9, 10, 11, 12, 13])
     .ret)
     .skip))
  (.seq
   (.region false [⟨some 14, .mv (.tmp 0), none, []⟩,
     ⟨some 15, .nilc (.tmp 14), none, []⟩,
     ⟨some 16, .fad 4 (.tmp 15), none, []⟩,
     ⟨some 17, .loadN 2 (.tmp 16), none, []⟩,
     ⟨none, .store 2 (.tmp 4) (.tmp 17), none, []⟩] [14, 15, 16, 17])
  .ret)))
set_option maxRecDepth 100000 in
theorem kpsling_set_span : IsCode Try.prog 85 18 cpsling_set_span [.cellN 4 2] :=
  ⟨Try.f85, _, [6, 1, 0, 4], Try.func85, rfl, by decide, rfl, by kernel_rfl, by kernel_rfl⟩
/-- sling_boxes -/
def csling_boxes : ACode :=
  (.seq
   (.region false [⟨some 2, .mv (.const (.slice none 0 0)), none, []⟩] [])
  (.seq
   (.seq
    (.region false [⟨some 5, .mv (.tmp 0), none, []⟩,
      ⟨some 6, .len_ (.tmp 5), none, []⟩,
      ⟨some 7, .mv (.const (.int .i64 0)), none, []⟩] [])
   (.block 0
     (.loop
       (.seq
        (.region false [⟨some 8, .bin .lss (.tmp 7) (.tmp 6), none, []⟩] [])
       (.seq
        (.cond (.tmp 8)
          .skip
          (.exit 0))
       (.seq
        (.block 1
          (.seq
           (.region false [⟨some 9, .iadS 2 (.tmp 5) (.tmp 7), none, []⟩,
             ⟨some 10, .loadN 2 (.tmp 9), none, []⟩,
             ⟨some 4, .mem [(.val (.int .i64 0)), (.val (.int .i64 0))], none, []⟩,
             ⟨none, .store 2 (.tmp 4) (.tmp 10), none, []⟩] [9, 10])
          (.region false [⟨some 11, .mv (.tmp 2), none, []⟩,
            ⟨some 12, .loadN 2 (.tmp 4), none, []⟩,
            ⟨some 13, .buildSl 2 1 [(.val (.int .i64 0)), (.val (.int .i64 0))] [(0, 2, (.tmp 12))], none, []⟩,
            ⟨some 14, .buildSl 1 1 [(.val (.slice none 0 0))] [(0, 1, (.tmp 13))], none, []⟩,
            ⟨some 15, .app 1 24 (.tmp 11) (.tmp 14), none, []⟩,
            ⟨some 2, .mv (.tmp 15), none, []⟩] [11, 12, 13, 14, 15])))
       (.region false [⟨some 16, .bin .add (.tmp 7) (.const (.int .i64 1)), none, []⟩,
         ⟨some 7, .mv (.tmp 16), none, []⟩] [16])))))))
  (.seq
   (.region false [⟨some 17, .mv (.tmp 2), none, []⟩,
     ⟨some 2, .mv (.tmp 17), none, []⟩] [17])
  .ret)))
set_option maxRecDepth 100000 in
theorem ksling_boxes : IsCode Try.prog 106 18 csling_boxes [.tmp 2] :=
  ⟨Try.f106, _, [8, 0, 7, 6, 5, 2, 4], Try.func106, rfl, by decide, rfl, by kernel_rfl, by kernel_rfl⟩
/-- law07_fraction -/
def claw07_fraction : ACode :=
  (.seq
   (.region false [⟨some 1, .box (.tmp 0), none, []⟩,
     ⟨some 2, .mv (.const (.bool false)), none, []⟩] [])
  (.seq
   (.region false [⟨some 3, .iadA 2 1 (.tmp 1) (.const (.int .i64 1)), none, []⟩,
     ⟨some 4, .load1 (.tmp 3), none, []⟩,
     ⟨some 5, .bin .gtr (.tmp 4) (.const (.int .i64 0)), none, []⟩,
     ⟨some 2, .mv (.tmp 5), none, []⟩] [3, 4, 5])
  .ret))
set_option maxRecDepth 100000 in
theorem klaw07_fraction : IsCode Try.prog 18 6 claw07_fraction [.tmp 2] :=
  ⟨Try.f18, _, [0, 1, 2], Try.func18, rfl, by decide, rfl, by kernel_rfl, by kernel_rfl⟩
/-- law07_floor -/
def claw07_floor : ACode :=
  (.seq
   (.region false [⟨some 1, .box (.tmp 0), none, []⟩,
     ⟨some 2, .mv (.const (.int .i64 0)), none, []⟩] [])
  (.seq
   (.region false [⟨some 4, .iadA 2 1 (.tmp 1) (.const (.int .i64 0)), none, []⟩,
     ⟨some 5, .load1 (.tmp 4), none, []⟩,
     ⟨some 6, .iadA 2 1 (.tmp 1) (.const (.int .i64 1)), none, []⟩,
     ⟨some 7, .load1 (.tmp 6), none, []⟩,
     ⟨some 8, .bin .quo (.tmp 5) (.tmp 7), none, []⟩,
     ⟨some 3, .mv (.tmp 8), none, []⟩] [4, 5, 6, 7, 8])
  (.seq
   (.seq
    (.region false [⟨some 9, .iadA 2 1 (.tmp 1) (.const (.int .i64 0)), none, []⟩,
      ⟨some 10, .load1 (.tmp 9), none, []⟩,
      ⟨some 11, .iadA 2 1 (.tmp 1) (.const (.int .i64 1)), none, []⟩,
      ⟨some 12, .load1 (.tmp 11), none, []⟩,
      ⟨some 13, .bin .rem (.tmp 10) (.tmp 12), none, []⟩,
      ⟨some 14, .bin .lss (.tmp 13) (.const (.int .i64 0)), none, []⟩] [9, 10, 11, 12, 13])
   (.cond (.tmp 14)
     (.region false [⟨some 15, .mv (.tmp 3), none, []⟩,
       ⟨some 16, .bin .sub (.tmp 15) (.const (.int .i64 1)), none, []⟩,
       ⟨some 3, .mv (.tmp 16), none, []⟩] [15, 16])
     .skip))
  (.seq
   (.region false [⟨some 17, .mv (.tmp 3), none, []⟩,
     ⟨some 2, .mv (.tmp 17), none, []⟩] [17])
  .ret))))
set_option maxRecDepth 100000 in
theorem klaw07_floor : IsCode Try.prog 88 18 claw07_floor [.tmp 2] :=
  ⟨Try.f88, _, [14, 0, 1, 3, 2], Try.func88, rfl, by decide, rfl, by kernel_rfl, by kernel_rfl⟩
/-- law07_rest -/
def claw07_rest : ACode :=
  (.seq
   (.region false [⟨some 8, .mv (.const (.bool false)), none, []⟩] [])
  (.block 0
    (.loop
      (.block 1
        (.seq
         (.seq
          (.region false [⟨some 13, .mv (.tmp 2), none, []⟩,
            ⟨some 14, .bin .eql (.tmp 13) (.const (.int .i64 0)), none, []⟩] [13])
         (.cond (.tmp 14)
           (.seq
            (.region false [⟨some 8, .mv (.const (.bool false)), none, []⟩] [])
           .ret)
           .skip))
        (.seq
         (.seq
          (.region false [⟨some 15, .mv (.tmp 0), none, []⟩,
            ⟨some 16, .bin .eql (.tmp 15) (.const (.int .i64 0)), none, []⟩] [15])
         (.cond (.tmp 16)
           (.seq
            (.region false [⟨some 8, .mv (.const (.bool true)), none, []⟩] [])
           .ret)
           .skip))
        (.seq
         (.region true [⟨some 17, .mv (.tmp 3), none, []⟩,
           ⟨some 18, .mv (.tmp 2), none, []⟩,
           ⟨some 19, .bin .quo (.tmp 17) (.tmp 18), none, [0, 1]⟩,
           ⟨some 20, .mv (.tmp 1), none, []⟩,
           ⟨some 21, .mv (.tmp 0), none, []⟩,
           ⟨some 22, .bin .quo (.tmp 20) (.tmp 21), none, [3, 4]⟩,
           ⟨some 9, .mv (.tmp 19), none, [2, 0, 1]⟩,
           ⟨some 10, .mv (.tmp 22), none, [5, 3, 4, 6, 2, 0, 1]⟩] [17, 18, 19, 20, 21, 22])
        (.seq
         (.seq
          (.region false [⟨some 23, .mv (.tmp 9), none, []⟩,
            ⟨some 24, .mv (.tmp 10), none, []⟩,
            ⟨some 25, .bin .neq (.tmp 23) (.tmp 24), none, []⟩] [23, 24])
         (.cond (.tmp 25)
           (.seq
            (.region false [⟨some 26, .mv (.tmp 9), none, []⟩,
              ⟨some 27, .mv (.tmp 10), none, []⟩,
              ⟨some 28, .bin .lss (.tmp 26) (.tmp 27), none, []⟩,
              ⟨some 8, .mv (.tmp 28), none, []⟩] [26, 27, 28])
           .ret)
           .skip))
        (.seq
         (.region true [⟨some 29, .mv (.tmp 3), none, []⟩,
           ⟨some 30, .mv (.tmp 2), none, []⟩,
           ⟨some 31, .bin .rem (.tmp 29) (.tmp 30), none, [0, 1]⟩,
           ⟨some 32, .mv (.tmp 1), none, []⟩,
           ⟨some 33, .mv (.tmp 0), none, []⟩,
           ⟨some 34, .bin .rem (.tmp 32) (.tmp 33), none, [3, 4]⟩,
           ⟨some 11, .mv (.tmp 31), none, [2, 0, 1]⟩,
           ⟨some 12, .mv (.tmp 34), none, [5, 3, 4, 6, 2, 0, 1]⟩] [29, 30, 31, 32, 33, 34])
        (.seq
         (.region false [⟨some 35, .mv (.tmp 0), none, []⟩,
           ⟨some 3, .mv (.tmp 35), none, []⟩] [35])
        (.seq
         (.region false [⟨some 36, .mv (.tmp 2), none, []⟩,
           ⟨some 1, .mv (.tmp 36), none, []⟩] [36])
        (.seq
         (.region false [⟨some 37, .mv (.tmp 11), none, []⟩,
           ⟨some 0, .mv (.tmp 37), none, []⟩] [37])
        (.region false [⟨some 38, .mv (.tmp 12), none, []⟩,
          ⟨some 2, .mv (.tmp 38), none, []⟩] [38])))))))))))))
set_option maxRecDepth 100000 in
theorem klaw07_rest : IsCode Try.prog 89 39 claw07_rest [.tmp 8] :=
  ⟨Try.f89, _, [25, 16, 14, 2, 0, 3, 1, 9, 10, 11, 12, 8], Try.func89, rfl, by decide, rfl, by kernel_rfl, by kernel_rfl⟩
/-- law07_less -/
def claw07_less : ACode :=
  (.seq
   (.region false [⟨some 2, .box (.tmp 0), none, []⟩,
     ⟨some 3, .box (.tmp 1), none, []⟩,
     ⟨some 4, .mv (.const (.bool false)), none, []⟩] [])
  (.seq
   (.region true [⟨some 7, .loadN 2 (.tmp 2), none, []⟩,
     ⟨some 8, .call (.func 88) [(.tmp 7)], none, [0]⟩,
     ⟨some 9, .loadN 2 (.tmp 3), none, []⟩,
     ⟨some 10, .call (.func 88) [(.tmp 9)], none, [2, 1, 0]⟩,
     ⟨some 5, .mv (.tmp 8), none, [1, 0, 3, 2]⟩,
     ⟨some 6, .mv (.tmp 10), none, [3, 2, 1, 0, 4]⟩] [7, 8, 9, 10])
  (.seq
   (.seq
    (.region false [⟨some 11, .mv (.tmp 5), none, []⟩,
      ⟨some 12, .mv (.tmp 6), none, []⟩,
      ⟨some 13, .bin .neq (.tmp 11) (.tmp 12), none, []⟩] [11, 12])
   (.cond (.tmp 13)
     (.seq
      (.region false [⟨some 14, .mv (.tmp 5), none, []⟩,
        ⟨some 15, .mv (.tmp 6), none, []⟩,
        ⟨some 16, .bin .lss (.tmp 14) (.tmp 15), none, []⟩,
        ⟨some 4, .mv (.tmp 16), none, []⟩] [14, 15, 16])
     .ret)
     .skip))
  (.seq
   (.region false [⟨some 17, .iadA 2 1 (.tmp 2) (.const (.int .i64 0)), none, []⟩,
     ⟨some 18, .load1 (.tmp 17), none, []⟩,
     ⟨some 19, .mv (.tmp 5), none, []⟩,
     ⟨some 20, .iadA 2 1 (.tmp 2) (.const (.int .i64 1)), none, []⟩,
     ⟨some 21, .load1 (.tmp 20), none, []⟩,
     ⟨some 22, .bin .mul (.tmp 19) (.tmp 21), none, []⟩,
     ⟨some 23, .bin .sub (.tmp 18) (.tmp 22), none, []⟩,
     ⟨some 24, .iadA 2 1 (.tmp 2) (.const (.int .i64 1)), none, []⟩,
     ⟨some 25, .load1 (.tmp 24), none, []⟩,
     ⟨some 26, .iadA 2 1 (.tmp 3) (.const (.int .i64 0)), none, []⟩,
     ⟨some 27, .load1 (.tmp 26), none, []⟩,
     ⟨some 28, .mv (.tmp 6), none, []⟩,
     ⟨some 29, .iadA 2 1 (.tmp 3) (.const (.int .i64 1)), none, []⟩,
     ⟨some 30, .load1 (.tmp 29), none, []⟩,
     ⟨some 31, .bin .mul (.tmp 28) (.tmp 30), none, []⟩,
     ⟨some 32, .bin .sub (.tmp 27) (.tmp 31), none, []⟩,
     ⟨some 33, .iadA 2 1 (.tmp 3) (.const (.int .i64 1)), none, []⟩,
     ⟨some 34, .load1 (.tmp 33), none, []⟩,
     ⟨some 35, .call (.func 89) [(.tmp 23), (.tmp 25), (.tmp 32), (.tmp 34)], none, []⟩,
     ⟨some 4, .mv (.tmp 35), none, []⟩] [17, 18, 19, 20, 21, 22, 23, 24, 25, 26, 27, 28, 29, 30, 31, 32, 33, 34, 35])
  .ret))))
set_option maxRecDepth 100000 in
theorem klaw07_less : IsCode Try.prog 44 36 claw07_less [.tmp 4] :=
  ⟨Try.f44, _, [13, 0, 1, 2, 3, 5, 6, 4], Try.func44, rfl, by decide, rfl, by kernel_rfl, by kernel_rfl⟩
/-- law07_sameFractions -/
def claw07_sameFractions : ACode :=
  (.seq
   (.region false [⟨some 4, .mv (.const (.bool false)), none, []⟩] [])
  (.seq
   (.seq
    (.region false [⟨some 6, .mv (.tmp 0), none, []⟩,
      ⟨some 7, .len_ (.tmp 6), none, []⟩,
      ⟨some 8, .mv (.tmp 1), none, []⟩,
      ⟨some 9, .len_ (.tmp 8), none, []⟩,
      ⟨some 10, .bin .neq (.tmp 7) (.tmp 9), none, []⟩] [6, 7, 8, 9])
   (.cond (.tmp 10)
     (.seq
      (.region false [⟨some 4, .mv (.const (.bool false)), none, []⟩] [])
     .ret)
     .skip))
  (.seq
   (.seq
    (.region false [⟨some 5, .mv (.const (.int .i64 0)), none, []⟩] [])
   (.block 0
     (.loop
       (.seq
        (.seq
         (.region false [⟨some 11, .mv (.tmp 5), none, []⟩,
           ⟨some 12, .mv (.tmp 0), none, []⟩,
           ⟨some 13, .len_ (.tmp 12), none, []⟩,
           ⟨some 14, .bin .lss (.tmp 11) (.tmp 13), none, []⟩] [11, 12, 13])
        (.cond (.tmp 14)
          .skip
          (.exit 0)))
       (.seq
        (.block 1
          (.seq
           (.region true [⟨some 17, .mv (.tmp 0), none, []⟩,
             ⟨some 18, .mv (.tmp 5), none, []⟩,
             ⟨some 19, .iadS 2 (.tmp 17) (.tmp 18), none, [0, 1]⟩,
             ⟨some 20, .loadN 2 (.tmp 19), none, [2, 0, 1]⟩,
             ⟨some 21, .mv (.tmp 1), none, []⟩,
             ⟨some 22, .mv (.tmp 5), none, []⟩,
             ⟨some 23, .iadS 2 (.tmp 21) (.tmp 22), none, [4, 5]⟩,
             ⟨some 24, .loadN 2 (.tmp 23), none, [6, 4, 5]⟩,
             ⟨some 25, .eqa true [false, false] (.tmp 20) (.tmp 24), none, [3, 2, 0, 1, 7, 6, 4, 5]⟩] [17, 18, 19, 20, 21, 22, 23, 24])
          (.cond (.tmp 25)
            (.seq
             (.region false [⟨some 4, .mv (.const (.bool false)), none, []⟩] [])
            .ret)
            .skip)))
       (.region false [⟨some 15, .mv (.tmp 5), none, []⟩,
         ⟨some 16, .bin .add (.tmp 15) (.const (.int .i64 1)), none, []⟩,
         ⟨some 5, .mv (.tmp 16), none, []⟩] [15, 16]))))))
  (.seq
   (.region false [⟨some 4, .mv (.const (.bool true)), none, []⟩] [])
  .ret))))
set_option maxRecDepth 100000 in
theorem klaw07_sameFractions : IsCode Try.prog 27 26 claw07_sameFractions [.tmp 4] :=
  ⟨Try.f27, _, [25, 14, 10, 0, 1, 5, 4], Try.func27, rfl, by decide, rfl, by kernel_rfl, by kernel_rfl⟩
/-- slices_IndexFunc_L_L_Jint_Kint_J -/
def cslices_IndexFunc_L_L_Jint_Kint_J : ACode :=
  (.seq
   (.region false [⟨some 4, .mv (.const (.int .i64 0)), none, []⟩] [])
  (.seq
   (.seq
    (.region false [⟨some 6, .mv (.tmp 0), none, []⟩,
      ⟨some 7, .len_ (.tmp 6), none, []⟩,
      ⟨some 8, .mv (.const (.int .i64 0)), none, []⟩] [6])
   (.block 0
     (.loop
       (.seq
        (.region false [⟨some 9, .bin .lss (.tmp 8) (.tmp 7), none, []⟩] [])
       (.seq
        (.cond (.tmp 9)
          .skip
          (.exit 0))
       (.seq
        (.block 1
          (.seq
           (.region false [⟨some 10, .mv (.tmp 8), none, []⟩,
             ⟨some 5, .mv (.tmp 10), none, []⟩] [10])
          (.seq
           (.region false [⟨some 11, .mv (.tmp 1), none, []⟩,
             ⟨some 12, .mv (.tmp 0), none, []⟩,
             ⟨some 13, .mv (.tmp 5), none, []⟩,
             ⟨some 14, .iadS 1 (.tmp 12) (.tmp 13), none, []⟩,
             ⟨some 15, .load1 (.tmp 14), none, []⟩,
             ⟨some 16, .call (.tmp 11) [(.tmp 15)], none, []⟩] [11, 12, 13, 14, 15])
          (.cond (.tmp 16)
            (.seq
             (.region false [⟨some 17, .mv (.tmp 5), none, []⟩,
               ⟨some 4, .mv (.tmp 17), none, []⟩] [17])
            .ret)
            .skip))))
       (.region false [⟨some 18, .bin .add (.tmp 8) (.const (.int .i64 1)), none, []⟩,
         ⟨some 8, .mv (.tmp 18), none, []⟩] [18])))))))
  (.seq
   (.region false [⟨some 4, .mv (.const (.int .i64 (-1))), none, []⟩] [])
  .ret)))
set_option maxRecDepth 100000 in
theorem kslices_IndexFunc_L_L_Jint_Kint_J : IsCode Try.prog 92 19 cslices_IndexFunc_L_L_Jint_Kint_J [.tmp 4] :=
  ⟨Try.f92, _, [16, 9, 0, 8, 7, 1, 5, 4], Try.func92, rfl, by decide, rfl, by kernel_rfl, by kernel_rfl⟩
/-- slices_ContainsFunc_L_L_Jint_Kint_J -/
def cslices_ContainsFunc_L_L_Jint_Kint_J : ACode :=
  (.seq
   (.region false [⟨some 4, .mv (.const (.bool false)), none, []⟩] [])
  (.seq
   (.region false [⟨some 5, .mv (.tmp 0), none, []⟩,
     ⟨some 6, .mv (.tmp 1), none, []⟩,
     ⟨some 7, .call (.func 92) [(.tmp 5), (.tmp 6)], none, []⟩,
     ⟨some 8, .bin .geq (.tmp 7) (.const (.int .i64 0)), none, []⟩,
     ⟨some 4, .mv (.tmp 8), none, []⟩] [5, 6, 7, 8])
  .ret))
set_option maxRecDepth 100000 in
theorem kslices_ContainsFunc_L_L_Jint_Kint_J : IsCode Try.prog 51 9 cslices_ContainsFunc_L_L_Jint_Kint_J [.tmp 4] :=
  ⟨Try.f51, _, [0, 1, 4], Try.func51, rfl, by decide, rfl, by kernel_rfl, by kernel_rfl⟩
end Go.Proofs.Ythohcimmoobaoaa
/- Calls that change objects, checked by computing. No conditions. -/
namespace Go.Proofs.Ythohcimmoobaoaa.Lift
open Go Go.RowKit

theorem aw_condT {rd : Bool} {P : Program} {n : Nat} {pre : List Nat} {Q : AExit → St → Prop} {s : St} {c : Operand} {x y : ACode} (hb : s.F.ev c = .val (.bool true)) (h : AWb rd P n pre x Q s) : AWb rd P n pre (.cond c x y) Q s := aw_cond hb (fun _ => h) (fun h => nomatch h)
theorem aw_condF {rd : Bool} {P : Program} {n : Nat} {pre : List Nat} {Q : AExit → St → Prop} {s : St} {c : Operand} {x y : ACode} (hb : s.F.ev c = .val (.bool false)) (h : AWb rd P n pre y Q s) : AWb rd P n pre (.cond c x y) Q s := aw_cond hb (fun h => nomatch h) (fun _ => h)
def HasAll (hp : Hp) : Hp → Prop
  | [] => True
  | x :: l => hget hp x.1 = some x.2 ∧ HasAll hp l
theorem HasAll.get {hp : Hp} : ∀ {h : Hp}, HasAll hp h → ∀ x ∈ h, hget hp x.1 = some x.2
  | [], _, x, hx => by simp at hx
  | y :: l, h, x, hx => by
    rcases List.mem_cons.1 hx with rfl | hx
    · exact h.1
    · exact HasAll.get h.2 x hx
def newOk (hp h : Hp) (up : Ups) : Bool := up.all fun x => (h.map (·.1)).contains x.1 || (hget hp x.1).isNone
theorem newOk_get {hp h : Hp} {up : Ups} (hk : newOk hp h up = true) : ∀ g ∈ up.map (·.1), g ∉ h.map (·.1) → hget hp g = none := fun g hg hn => by
  obtain ⟨x, hx, rfl⟩ := List.mem_map.1 hg
  have := List.all_eq_true.1 hk x hx
  simp only [Bool.or_eq_true, List.contains_iff_mem, Option.isNone_iff_eq_none] at this
  exact this.resolve_left hn
theorem vr_valq {H : Heap} {V : List Nat} {m : List (Nat × Nat)} {v v' : Value} (h : v = v') : VR H V m (.val v) (.val v') := h ▸ vr_val v
theorem vr_listq {H : Heap} {V : List Nat} {m : List (Nat × Nat)} {l l' : List (List D)} (h : l = l') : VR H V m (.list l) (.list l') := h ▸ vr_list l
section
variable {P : Program} {dr : Bool} {b : Nat} {Q : St → Prop} {dst : Option Nat} {anc : List Nat} {l : List AOper} {k : Nat} {s : St} {log : Lg}
theorem acallB {f : FuncId} {first caps args : List D} {d : D} {h : Hp} {up : Ups} (hA : AC P f (first ++ args ++ caps) h up d) (hh : HasAll s.hp h) (hf : newOk s.hp h up = true) (hn : okNew s.hp (b + 8 * k) (up.map (·.1)) = true)
    (hl : okLog dr log anc (h.map (·.1) ++ []) (up.map (·.1)) = true) (hK : ARun P dr b Q l (k + 1) (s.app dst d up) ((k, h.map (·.1) ++ [], up.map (·.1)) :: log)) : ACallK P dr b Q (.fn f first caps) args dst anc l k s log :=
  acallH hA [] (VwL.refl _) (.inl rfl) (by simp) (by simp) hh.get (newOk_get hf) hn hl hK
end
end Go.Proofs.Ythohcimmoobaoaa.Lift
