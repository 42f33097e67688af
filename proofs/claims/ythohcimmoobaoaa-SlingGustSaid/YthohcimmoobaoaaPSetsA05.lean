/- Texts of the laws, shared part 5. No conditions. -/
import Derived.Test.YthohcimmoobaoaaPSetsA04
import Derived.Test.YthohcimmoobaoaaRows
/- The functions' bodies, translated. Written by a program; no conditions. -/
namespace Go.Proofs.Ythohcimmoobaoaa
open Go.RowKit Lift

/-- sling_Swing -/
def csling_Swing : ACode :=
  (.seq
   (.region false [⟨some 3, .box (.tmp 0), none, []⟩,
     ⟨some 4, .box (.tmp 1), none, []⟩,
     ⟨some 6, .mv (.const (.slice none 0 0)), none, []⟩,
     ⟨some 7, .mv (.const (.int .i64 0)), none, []⟩] [])
  (.seq
   (.seq
    (.region false [⟨some 12, .loadN 3 (.tmp 3), none, []⟩,
      ⟨some 13, .call (.func 25) [(.tmp 12)], none, []⟩,
      ⟨some 8, .mv (.tmp 13), none, []⟩] [12, 13])
   (.seq
    (.region false [⟨some 14, .mv (.tmp 8), none, []⟩,
      ⟨some 15, .bin .neq (.tmp 14) (.const (.int .i64 0)), none, []⟩] [14])
   (.cond (.tmp 15)
     (.seq
      (.region false [⟨some 16, .mv (.tmp 8), none, []⟩,
        ⟨some 6, .mv (.const (.slice none 0 0)), none, []⟩,
        ⟨some 7, .mv (.tmp 16), none, []⟩] [16])
     .ret)
     .skip)))
  (.seq
   (.seq
    (.region false [⟨some 17, .mv (.tmp 2), none, []⟩,
      ⟨some 18, .len_ (.tmp 17), none, []⟩,
      ⟨some 19, .bin .gtr (.tmp 18) (.const (.int .i64 16)), none, []⟩] [17, 18])
   (.cond (.tmp 19)
     (.seq
      (.region false [⟨some 6, .mv (.const (.slice none 0 0)), none, []⟩,
        ⟨some 7, .mv (.const (.int .i64 2)), none, []⟩] [])
     .ret)
     .skip))
  (.seq
   (.seq
    (.region false [⟨some 20, .loadN 2 (.tmp 4), none, []⟩,
      ⟨some 21, .call (.func 50) [(.tmp 20)], none, []⟩,
      ⟨some 22, .un .not (.tmp 21), none, []⟩,
      ⟨some 23, .mv (.tmp 22), none, []⟩,
      ⟨some 24, .mv (.tmp 2), (some (some 23, false)), []⟩,
      ⟨some 25, .call (.func 51) [(.tmp 24), (.func 52)], (some (some 23, false)), []⟩,
      ⟨some 26, .pick (.tmp 23) (.const (.bool true)) (.tmp 25), none, []⟩] [20, 21, 22, 23, 24, 25])
   (.cond (.tmp 26)
     (.seq
      (.region false [⟨some 6, .mv (.const (.slice none 0 0)), none, []⟩,
        ⟨some 7, .mv (.const (.int .i64 1)), none, []⟩] [])
     .ret)
     .skip))
  (.seq
   (.region false [⟨some 27, .loadN 3 (.tmp 3), none, []⟩,
     ⟨some 28, .iadA 2 1 (.tmp 4) (.const (.int .i64 0)), none, []⟩,
     ⟨some 29, .load1 (.tmp 28), none, []⟩,
     ⟨some 30, .iadA 2 1 (.tmp 4) (.const (.int .i64 1)), none, []⟩,
     ⟨some 31, .load1 (.tmp 30), none, []⟩,
     ⟨some 32, .build [(.val (.int .i64 0)), (.val (.int .i64 0)), (.val (.int .i64 0)), (.val (.int .i64 0)), (.val (.int .i64 0)), (.val (.int .i64 0))] [(0, 3, (.tmp 27)), (3, 1, (.tmp 29)), (4, 1, (.tmp 31)), (5, 1, (.const (.int .i64 1)))], none, []⟩,
     ⟨some 33, .box (.tmp 32), none, []⟩,
     ⟨some 9, .mv (.tmp 33), none, []⟩] [27, 28, 29, 30, 31, 32, 33])
  (.seq
   (.seq
    (.region false [⟨some 34, .mv (.tmp 2), none, []⟩,
      ⟨some 35, .len_ (.tmp 34), none, []⟩,
      ⟨some 36, .mv (.const (.int .i64 0)), none, []⟩] [])
   (.block 0
     (.loop
       (.seq
        (.region false [⟨some 37, .bin .lss (.tmp 36) (.tmp 35), none, []⟩] [])
       (.seq
        (.cond (.tmp 37)
          .skip
          (.exit 0))
       (.seq
        (.block 1
          (.seq
           (.region false [⟨some 38, .iadS 1 (.tmp 34) (.tmp 36), none, []⟩,
             ⟨some 39, .load1 (.tmp 38), none, []⟩,
             ⟨some 11, .mv (.tmp 39), none, []⟩] [38, 39])
          (.seq
           (.region false [⟨some 40, .mv (.tmp 9), none, []⟩,
             ⟨some 41, .mv (.tmp 11), none, []⟩,
             ⟨some 42, .call (.func 54) [(.tmp 40), (.tmp 41)], none, []⟩] [40, 41, 42])
          (.region false [⟨some 43, .mv (.tmp 6), none, []⟩,
            ⟨some 44, .mv (.tmp 9), none, []⟩,
            ⟨some 45, .call (.func 55) [(.tmp 44)], none, []⟩,
            ⟨some 46, .buildSl 2 1 [(.val (.int .i64 0)), (.val (.int .i64 0))] [(0, 2, (.tmp 45))], none, []⟩,
            ⟨some 47, .app 2 16 (.tmp 43) (.tmp 46), none, []⟩,
            ⟨some 6, .mv (.tmp 47), none, []⟩] [43, 44, 45, 46, 47]))))
       (.region false [⟨some 48, .bin .add (.tmp 36) (.const (.int .i64 1)), none, []⟩,
         ⟨some 36, .mv (.tmp 48), none, []⟩] [48])))))))
  (.seq
   (.region false [⟨some 49, .mv (.tmp 6), none, []⟩,
     ⟨some 6, .mv (.tmp 49), none, []⟩,
     ⟨some 7, .mv (.const (.int .i64 0)), none, []⟩] [49])
  .ret)))))))
set_option maxRecDepth 100000 in
theorem ksling_Swing : IsCode Try.prog 16 50 csling_Swing [.tmp 6, .tmp 7] :=
  ⟨Try.f16, _, [37, 26, 19, 15, 0, 1, 3, 8, 2, 4, 36, 35, 34, 9, 11, 6, 7], Try.func16, rfl, by decide, rfl, by kernel_rfl, by kernel_rfl⟩
/-- ref07_swung -/
def cref07_swung : ACode :=
  (.seq
   (.region false [⟨some 4, .box (.tmp 0), none, []⟩,
     ⟨some 8, .mv (.const (.slice none 0 0)), none, []⟩] [])
  (.seq
   (.region false [⟨some 11, .mv (.tmp 1), none, []⟩,
     ⟨some 12, .buildSl 1 1 [(.val (.int .i64 0))] [(0, 1, (.tmp 11))], none, []⟩,
     ⟨some 9, .mv (.tmp 12), none, []⟩] [11, 12])
  (.seq
   (.seq
    (.region false [⟨some 10, .mv (.const (.int .i64 0)), none, []⟩] [])
   (.block 0
     (.loop
       (.seq
        (.seq
         (.region false [⟨some 13, .mv (.tmp 10), none, []⟩,
           ⟨some 14, .mv (.tmp 3), none, []⟩,
           ⟨some 15, .len_ (.tmp 14), none, []⟩,
           ⟨some 16, .bin .lss (.tmp 13) (.tmp 15), none, []⟩] [13, 14, 15])
        (.cond (.tmp 16)
          .skip
          (.exit 0)))
       (.seq
        (.block 1
          (.seq
           (.region true [⟨some 19, .fad 2 (.tmp 4), none, []⟩,
             ⟨some 20, .load1 (.tmp 19), none, [0]⟩,
             ⟨some 21, .mv (.tmp 2), none, []⟩,
             ⟨some 22, .bin .mul (.tmp 20) (.tmp 21), none, [1, 0, 2]⟩,
             ⟨some 23, .fad 0 (.tmp 4), none, []⟩,
             ⟨some 24, .load1 (.tmp 23), none, [4]⟩,
             ⟨some 25, .mv (.tmp 1), none, []⟩,
             ⟨some 26, .bin .mul (.tmp 24) (.tmp 25), none, [5, 4, 6]⟩,
             ⟨some 27, .bin .sub (.tmp 22) (.tmp 26), none, [3, 1, 0, 2, 7, 5, 4, 6]⟩,
             ⟨some 28, .fad 1 (.tmp 4), none, []⟩,
             ⟨some 29, .load1 (.tmp 28), none, [9]⟩,
             ⟨some 30, .mv (.tmp 2), none, []⟩,
             ⟨some 31, .bin .mul (.tmp 29) (.tmp 30), none, [10, 9, 11]⟩,
             ⟨some 32, .bin .sub (.tmp 27) (.tmp 31), none, [8, 3, 1, 0, 2, 7, 5, 4, 6, 12, 10, 9, 11]⟩,
             ⟨some 33, .mv (.tmp 3), none, []⟩,
             ⟨some 34, .mv (.tmp 10), none, []⟩,
             ⟨some 35, .iadS 1 (.tmp 33) (.tmp 34), none, [14, 15]⟩,
             ⟨some 36, .load1 (.tmp 35), none, [16, 14, 15]⟩,
             ⟨some 37, .fad 2 (.tmp 4), none, []⟩,
             ⟨some 38, .load1 (.tmp 37), none, [18]⟩,
             ⟨some 39, .mv (.tmp 10), none, []⟩,
             ⟨some 40, .bin .add (.tmp 39) (.const (.int .i64 1)), none, [20]⟩,
             ⟨some 41, .call (.func 71) [(.tmp 38), (.tmp 40)], none, [19, 18, 21, 20]⟩,
             ⟨some 42, .bin .mul (.tmp 36) (.tmp 41), none, [17, 16, 14, 15, 22, 19, 18, 21, 20]⟩,
             ⟨some 43, .bin .add (.tmp 32) (.tmp 42), none, [13, 8, 3, 1, 0, 2, 7, 5, 4, 6, 12, 10, 9, 11, 23, 17, 16, 14, 15, 22, 19, 18, 21, 20]⟩,
             ⟨some 2, .mv (.tmp 43), none, [24, 13, 8, 3, 1, 0, 2, 7, 5, 4, 6, 12, 10, 9, 11, 23, 17, 16, 14, 15, 22, 19, 18, 21, 20]⟩] [19, 20, 21, 22, 23, 24, 25, 26, 27, 28, 29, 30, 31, 32, 33, 34, 35, 36, 37, 38, 39, 40, 41, 42, 43])
          (.seq
           (.region false [⟨some 44, .fad 2 (.tmp 4), none, []⟩,
             ⟨some 45, .load1 (.tmp 44), none, []⟩,
             ⟨some 46, .mv (.tmp 1), none, []⟩,
             ⟨some 47, .bin .mul (.tmp 45) (.tmp 46), none, []⟩,
             ⟨some 48, .mv (.tmp 2), none, []⟩,
             ⟨some 49, .bin .add (.tmp 47) (.tmp 48), none, []⟩,
             ⟨some 1, .mv (.tmp 49), none, []⟩] [44, 45, 46, 47, 48, 49])
          (.region false [⟨some 50, .mv (.tmp 9), none, []⟩,
            ⟨some 51, .mv (.tmp 1), none, []⟩,
            ⟨some 52, .buildSl 1 1 [(.val (.int .i64 0))] [(0, 1, (.tmp 51))], none, []⟩,
            ⟨some 53, .app 1 8 (.tmp 50) (.tmp 52), none, []⟩,
            ⟨some 9, .mv (.tmp 53), none, []⟩] [50, 51, 52, 53]))))
       (.region false [⟨some 17, .mv (.tmp 10), none, []⟩,
         ⟨some 18, .bin .add (.tmp 17) (.const (.int .i64 1)), none, []⟩,
         ⟨some 10, .mv (.tmp 18), none, []⟩] [17, 18]))))))
  (.seq
   (.region false [⟨some 54, .mv (.tmp 9), none, []⟩,
     ⟨some 8, .mv (.tmp 54), none, []⟩] [54])
  .ret))))
set_option maxRecDepth 100000 in
theorem kref07_swung : IsCode Try.prog 69 55 cref07_swung [.tmp 8] :=
  ⟨Try.f69, _, [16, 0, 1, 10, 3, 4, 2, 9, 8], Try.func69, rfl, by decide, rfl, by kernel_rfl, by kernel_rfl⟩
/-- sling_newSet -/
def csling_newSet : ACode :=
  (.seq
   (.region false [⟨some 5, .box (.tmp 0), none, []⟩,
     ⟨some 7, .box (.tmp 2), none, []⟩,
     ⟨some 10, .mv (.const (.pointer none)), none, []⟩,
     ⟨some 11, .mv (.const (.int .i64 0)), none, []⟩] [])
  (.seq
   (.seq
    (.region false [⟨some 16, .loadN 3 (.tmp 5), none, []⟩,
      ⟨some 17, .call (.func 25) [(.tmp 16)], none, []⟩,
      ⟨some 12, .mv (.tmp 17), none, []⟩] [16, 17])
   (.seq
    (.region false [⟨some 18, .mv (.tmp 12), none, []⟩,
      ⟨some 19, .bin .neq (.tmp 18) (.const (.int .i64 0)), none, []⟩] [18])
   (.cond (.tmp 19)
     (.seq
      (.region false [⟨some 20, .mv (.tmp 12), none, []⟩,
        ⟨some 10, .mv (.const (.pointer none)), none, []⟩,
        ⟨some 11, .mv (.tmp 20), none, []⟩] [20])
     .ret)
     .skip)))
  (.seq
   (.seq
    (.region true [⟨some 21, .mv (.tmp 1), none, []⟩,
      ⟨some 22, .loadN 2 (.tmp 7), none, []⟩,
      ⟨some 23, .buildSl 2 1 [(.val (.int .i64 0)), (.val (.int .i64 0))] [(0, 2, (.tmp 22))], none, [1]⟩,
      ⟨some 24, .buildSl 1 2 [(.val (.slice none 0 0)), (.val (.slice none 0 0))] [(0, 1, (.tmp 21)), (1, 1, (.tmp 23))], none, [0, 2, 1]⟩,
      ⟨some 25, .mv (.tmp 4), none, []⟩,
      ⟨some 26, .call (.func 106) [(.tmp 25)], none, [4]⟩,
      ⟨some 27, .app 1 24 (.tmp 24) (.tmp 26), none, [3, 0, 2, 1, 5, 4]⟩,
      ⟨some 28, .len_ (.tmp 27), none, [6, 3, 0, 2, 1, 5, 4]⟩,
      ⟨some 29, .mv (.const (.int .i64 0)), none, []⟩] [21, 22, 23, 24, 25, 26])
   (.block 0
     (.loop
       (.seq
        (.region false [⟨some 30, .bin .lss (.tmp 29) (.tmp 28), none, []⟩] [])
       (.seq
        (.cond (.tmp 30)
          .skip
          (.exit 0))
       (.seq
        (.block 1
          (.seq
           (.region false [⟨some 31, .iadS 1 (.tmp 27) (.tmp 29), none, []⟩,
             ⟨some 32, .load1 (.tmp 31), none, []⟩,
             ⟨some 14, .mv (.tmp 32), none, []⟩] [31, 32])
          (.seq
           (.region false [⟨some 33, .mv (.tmp 14), none, []⟩,
             ⟨some 34, .call (.func 72) [(.tmp 33)], none, []⟩,
             ⟨some 15, .mv (.tmp 34), none, []⟩] [33, 34])
          (.seq
           (.region false [⟨some 35, .mv (.tmp 15), none, []⟩,
             ⟨some 36, .bin .neq (.tmp 35) (.const (.int .i64 0)), none, []⟩] [35])
          (.cond (.tmp 36)
            (.seq
             (.region false [⟨some 37, .mv (.tmp 15), none, []⟩,
               ⟨some 10, .mv (.const (.pointer none)), none, []⟩,
               ⟨some 11, .mv (.tmp 37), none, []⟩] [37])
            .ret)
            .skip)))))
       (.region false [⟨some 38, .bin .add (.tmp 29) (.const (.int .i64 1)), none, []⟩,
         ⟨some 29, .mv (.tmp 38), none, []⟩] [38])))))))
  (.seq
   (.seq
    (.region true [⟨some 39, .mv (.tmp 1), none, []⟩,
      ⟨some 40, .len_ (.tmp 39), none, [0]⟩,
      ⟨some 41, .bin .neq (.tmp 40) (.const (.int .i64 2)), none, [1, 0]⟩,
      ⟨some 42, .mv (.tmp 41), none, [2, 1, 0]⟩,
      ⟨some 43, .mv (.tmp 1), (some (some 42, false)), [3, 2, 1, 0]⟩,
      ⟨some 44, .iadS 2 (.tmp 43) (.const (.int .i64 0)), (some (some 42, false)), [4, 3, 2, 1, 0]⟩,
      ⟨some 45, .fad 0 (.tmp 44), (some (some 42, false)), [5, 4, 3, 2, 1, 0]⟩,
      ⟨some 46, .load1 (.tmp 45), (some (some 42, false)), [6, 5, 4, 3, 2, 1, 0]⟩,
      ⟨some 47, .mv (.tmp 1), (some (some 42, false)), [3, 2, 1, 0]⟩,
      ⟨some 48, .iadS 2 (.tmp 47) (.const (.int .i64 1)), (some (some 42, false)), [8, 3, 2, 1, 0]⟩,
      ⟨some 49, .fad 0 (.tmp 48), (some (some 42, false)), [9, 8, 3, 2, 1, 0]⟩,
      ⟨some 50, .load1 (.tmp 49), (some (some 42, false)), [10, 9, 8, 3, 2, 1, 0]⟩,
      ⟨some 51, .build [(.val (.int .i64 0)), (.val (.int .i64 0))] [(0, 1, (.tmp 46)), (1, 1, (.tmp 50))], (some (some 42, false)), [7, 6, 5, 4, 3, 2, 1, 0, 11, 10, 9, 8]⟩,
      ⟨some 52, .call (.func 50) [(.tmp 51)], (some (some 42, false)), [12, 7, 6, 5, 4, 3, 2, 1, 0, 11, 10, 9, 8]⟩,
      ⟨some 53, .un .not (.tmp 52), (some (some 42, false)), [13, 12, 7, 6, 5, 4, 3, 2, 1, 0, 11, 10, 9, 8]⟩,
      ⟨some 54, .pick (.tmp 42) (.const (.bool true)) (.tmp 53), none, [3, 2, 1, 0, 14, 13, 12, 7, 6, 5, 4, 11, 10, 9, 8]⟩,
      ⟨some 55, .mv (.tmp 54), none, [15, 3, 2, 1, 0, 14, 13, 12, 7, 6, 5, 4, 11, 10, 9, 8]⟩,
      ⟨some 56, .mv (.tmp 1), (some (some 55, false)), [16, 15, 3, 2, 1, 0, 14, 13, 12, 7, 6, 5, 4, 11, 10, 9, 8]⟩,
      ⟨some 57, .iadS 2 (.tmp 56) (.const (.int .i64 0)), (some (some 55, false)), [17, 16, 15, 3, 2, 1, 0, 14, 13, 12, 7, 6, 5, 4, 11, 10, 9, 8]⟩,
      ⟨some 58, .fad 1 (.tmp 57), (some (some 55, false)), [18, 17, 16, 15, 3, 2, 1, 0, 14, 13, 12, 7, 6, 5, 4, 11, 10, 9, 8]⟩,
      ⟨some 59, .load1 (.tmp 58), (some (some 55, false)), [19, 18, 17, 16, 15, 3, 2, 1, 0, 14, 13, 12, 7, 6, 5, 4, 11, 10, 9, 8]⟩,
      ⟨some 60, .mv (.tmp 1), (some (some 55, false)), [16, 15, 3, 2, 1, 0, 14, 13, 12, 7, 6, 5, 4, 11, 10, 9, 8]⟩,
      ⟨some 61, .iadS 2 (.tmp 60) (.const (.int .i64 1)), (some (some 55, false)), [21, 16, 15, 3, 2, 1, 0, 14, 13, 12, 7, 6, 5, 4, 11, 10, 9, 8]⟩,
      ⟨some 62, .fad 1 (.tmp 61), (some (some 55, false)), [22, 21, 16, 15, 3, 2, 1, 0, 14, 13, 12, 7, 6, 5, 4, 11, 10, 9, 8]⟩,
      ⟨some 63, .load1 (.tmp 62), (some (some 55, false)), [23, 22, 21, 16, 15, 3, 2, 1, 0, 14, 13, 12, 7, 6, 5, 4, 11, 10, 9, 8]⟩,
      ⟨some 64, .build [(.val (.int .i64 0)), (.val (.int .i64 0))] [(0, 1, (.tmp 59)), (1, 1, (.tmp 63))], (some (some 55, false)), [20, 19, 18, 17, 16, 15, 3, 2, 1, 0, 14, 13, 12, 7, 6, 5, 4, 11, 10, 9, 8, 24, 23, 22, 21]⟩,
      ⟨some 65, .call (.func 50) [(.tmp 64)], (some (some 55, false)), [25, 20, 19, 18, 17, 16, 15, 3, 2, 1, 0, 14, 13, 12, 7, 6, 5, 4, 11, 10, 9, 8, 24, 23, 22, 21]⟩,
      ⟨some 66, .un .not (.tmp 65), (some (some 55, false)), [26, 25, 20, 19, 18, 17, 16, 15, 3, 2, 1, 0, 14, 13, 12, 7, 6, 5, 4, 11, 10, 9, 8, 24, 23, 22, 21]⟩,
      ⟨some 67, .pick (.tmp 55) (.const (.bool true)) (.tmp 66), none, [16, 15, 3, 2, 1, 0, 14, 13, 12, 7, 6, 5, 4, 11, 10, 9, 8, 27, 26, 25, 20, 19, 18, 17, 24, 23, 22, 21]⟩,
      ⟨some 68, .mv (.tmp 67), none, [28, 16, 15, 3, 2, 1, 0, 14, 13, 12, 7, 6, 5, 4, 11, 10, 9, 8, 27, 26, 25, 20, 19, 18, 17, 24, 23, 22, 21]⟩,
      ⟨some 69, .fad 0 (.tmp 7), (some (some 68, false)), [29, 28, 16, 15, 3, 2, 1, 0, 14, 13, 12, 7, 6, 5, 4, 11, 10, 9, 8, 27, 26, 25, 20, 19, 18, 17, 24, 23, 22, 21]⟩,
      ⟨some 70, .load1 (.tmp 69), (some (some 68, false)), [30, 29, 28, 16, 15, 3, 2, 1, 0, 14, 13, 12, 7, 6, 5, 4, 11, 10, 9, 8, 27, 26, 25, 20, 19, 18, 17, 24, 23, 22, 21]⟩,
      ⟨some 71, .call (.func 53) [(.tmp 70), (.const (.int .i64 (-100))), (.const (.int .i64 100))], (some (some 68, false)), [31, 30, 29, 28, 16, 15, 3, 2, 1, 0, 14, 13, 12, 7, 6, 5, 4, 11, 10, 9, 8, 27, 26, 25, 20, 19, 18, 17, 24, 23, 22, 21]⟩,
      ⟨some 72, .un .not (.tmp 71), (some (some 68, false)), [32, 31, 30, 29, 28, 16, 15, 3, 2, 1, 0, 14, 13, 12, 7, 6, 5, 4, 11, 10, 9, 8, 27, 26, 25, 20, 19, 18, 17, 24, 23, 22, 21]⟩,
      ⟨some 73, .pick (.tmp 68) (.const (.bool true)) (.tmp 72), none, [29, 28, 16, 15, 3, 2, 1, 0, 14, 13, 12, 7, 6, 5, 4, 11, 10, 9, 8, 27, 26, 25, 20, 19, 18, 17, 24, 23, 22, 21, 33, 32, 31, 30]⟩,
      ⟨some 74, .mv (.tmp 73), none, [34, 29, 28, 16, 15, 3, 2, 1, 0, 14, 13, 12, 7, 6, 5, 4, 11, 10, 9, 8, 27, 26, 25, 20, 19, 18, 17, 24, 23, 22, 21, 33, 32, 31, 30]⟩,
      ⟨some 75, .fad 1 (.tmp 7), (some (some 74, false)), [35, 34, 29, 28, 16, 15, 3, 2, 1, 0, 14, 13, 12, 7, 6, 5, 4, 11, 10, 9, 8, 27, 26, 25, 20, 19, 18, 17, 24, 23, 22, 21, 33, 32, 31, 30]⟩,
      ⟨some 76, .load1 (.tmp 75), (some (some 74, false)), [36, 35, 34, 29, 28, 16, 15, 3, 2, 1, 0, 14, 13, 12, 7, 6, 5, 4, 11, 10, 9, 8, 27, 26, 25, 20, 19, 18, 17, 24, 23, 22, 21, 33, 32, 31, 30]⟩,
      ⟨some 77, .call (.func 53) [(.tmp 76), (.const (.int .i64 (-100))), (.const (.int .i64 100))], (some (some 74, false)), [37, 36, 35, 34, 29, 28, 16, 15, 3, 2, 1, 0, 14, 13, 12, 7, 6, 5, 4, 11, 10, 9, 8, 27, 26, 25, 20, 19, 18, 17, 24, 23, 22, 21, 33, 32, 31, 30]⟩,
      ⟨some 78, .un .not (.tmp 77), (some (some 74, false)), [38, 37, 36, 35, 34, 29, 28, 16, 15, 3, 2, 1, 0, 14, 13, 12, 7, 6, 5, 4, 11, 10, 9, 8, 27, 26, 25, 20, 19, 18, 17, 24, 23, 22, 21, 33, 32, 31, 30]⟩,
      ⟨some 79, .pick (.tmp 74) (.const (.bool true)) (.tmp 78), none, [35, 34, 29, 28, 16, 15, 3, 2, 1, 0, 14, 13, 12, 7, 6, 5, 4, 11, 10, 9, 8, 27, 26, 25, 20, 19, 18, 17, 24, 23, 22, 21, 33, 32, 31, 30, 39, 38, 37, 36]⟩,
      ⟨some 80, .mv (.tmp 79), none, [40, 35, 34, 29, 28, 16, 15, 3, 2, 1, 0, 14, 13, 12, 7, 6, 5, 4, 11, 10, 9, 8, 27, 26, 25, 20, 19, 18, 17, 24, 23, 22, 21, 33, 32, 31, 30, 39, 38, 37, 36]⟩,
      ⟨some 81, .mv (.tmp 3), (some (some 80, false)), [41, 40, 35, 34, 29, 28, 16, 15, 3, 2, 1, 0, 14, 13, 12, 7, 6, 5, 4, 11, 10, 9, 8, 27, 26, 25, 20, 19, 18, 17, 24, 23, 22, 21, 33, 32, 31, 30, 39, 38, 37, 36]⟩,
      ⟨some 82, .call (.func 53) [(.tmp 81), (.const (.int .i64 0)), (.const (.int .i64 16))], (some (some 80, false)), [42, 41, 40, 35, 34, 29, 28, 16, 15, 3, 2, 1, 0, 14, 13, 12, 7, 6, 5, 4, 11, 10, 9, 8, 27, 26, 25, 20, 19, 18, 17, 24, 23, 22, 21, 33, 32, 31, 30, 39, 38, 37, 36]⟩,
      ⟨some 83, .un .not (.tmp 82), (some (some 80, false)), [43, 42, 41, 40, 35, 34, 29, 28, 16, 15, 3, 2, 1, 0, 14, 13, 12, 7, 6, 5, 4, 11, 10, 9, 8, 27, 26, 25, 20, 19, 18, 17, 24, 23, 22, 21, 33, 32, 31, 30, 39, 38, 37, 36]⟩,
      ⟨some 84, .pick (.tmp 80) (.const (.bool true)) (.tmp 83), none, [41, 40, 35, 34, 29, 28, 16, 15, 3, 2, 1, 0, 14, 13, 12, 7, 6, 5, 4, 11, 10, 9, 8, 27, 26, 25, 20, 19, 18, 17, 24, 23, 22, 21, 33, 32, 31, 30, 39, 38, 37, 36, 44, 43, 42]⟩] [39, 40, 41, 42, 43, 44, 45, 46, 47, 48, 49, 50, 51, 52, 53, 54, 55, 56, 57, 58, 59, 60, 61, 62, 63, 64, 65, 66, 67, 68, 69, 70, 71, 72, 73, 74, 75, 76, 77, 78, 79, 80, 81, 82, 83])
   (.cond (.tmp 84)
     (.seq
      (.region false [⟨some 10, .mv (.const (.pointer none)), none, []⟩,
        ⟨some 11, .mv (.const (.int .i64 1)), none, []⟩] [])
     .ret)
     .skip))
  (.seq
   (.region false [⟨some 85, .loadN 3 (.tmp 5), none, []⟩,
     ⟨some 86, .mv (.tmp 1), none, []⟩,
     ⟨some 87, .loadN 2 (.tmp 7), none, []⟩,
     ⟨some 88, .build [(.val (.int .i64 0)), (.val (.int .i64 0)), (.val (.int .i64 0)), (.val (.slice none 0 0)), (.val (.int .i64 0)), (.val (.int .i64 0))] [(0, 3, (.tmp 85)), (3, 1, (.tmp 86)), (4, 2, (.tmp 87))], none, []⟩,
     ⟨some 89, .box (.tmp 88), none, []⟩,
     ⟨some 10, .mv (.tmp 89), none, []⟩,
     ⟨some 11, .mv (.const (.int .i64 0)), none, []⟩] [85, 86, 87, 88, 89])
  .ret)))))
set_option maxRecDepth 100000 in
theorem ksling_newSet : IsCode Try.prog 79 90 csling_newSet [.tmp 10, .tmp 11] :=
  ⟨Try.f79, _, [84, 36, 30, 19, 0, 2, 5, 12, 1, 7, 4, 29, 28, 27, 14, 15, 3, 10, 11], Try.func79, rfl, by decide, rfl, by kernel_rfl, by kernel_rfl⟩
/-- ref07_CheckSets -/
def cref07_CheckSets : ACode :=
  (.seq
   (.region false [⟨some 4, .box (.tmp 0), none, []⟩,
     ⟨some 6, .box (.tmp 2), none, []⟩,
     ⟨some 8, .mv (.const (.int .i64 0)), none, []⟩] [])
  (.seq
   (.seq
    (.region false [⟨some 10, .loadN 3 (.tmp 4), none, []⟩,
      ⟨some 11, .call (.func 17) [(.tmp 10)], none, []⟩,
      ⟨some 9, .mv (.tmp 11), none, []⟩] [10, 11])
   (.seq
    (.region false [⟨some 12, .mv (.tmp 9), none, []⟩,
      ⟨some 13, .bin .neq (.tmp 12) (.const (.int .i64 0)), none, []⟩] [12])
   (.cond (.tmp 13)
     (.seq
      (.region false [⟨some 14, .mv (.tmp 9), none, []⟩,
        ⟨some 8, .mv (.tmp 14), none, []⟩] [14])
     .ret)
     .skip)))
  (.seq
   (.seq
    (.region false [⟨some 15, .mv (.tmp 1), none, []⟩,
      ⟨some 16, .call (.func 86) [(.tmp 15)], none, []⟩,
      ⟨some 17, .bin .neq (.tmp 16) (.const (.int .i64 0)), none, []⟩,
      ⟨some 18, .mv (.tmp 17), none, []⟩,
      ⟨some 19, .loadN 2 (.tmp 6), (some (some 18, false)), []⟩,
      ⟨some 20, .call (.func 61) [(.tmp 19)], (some (some 18, false)), []⟩,
      ⟨some 21, .un .not (.tmp 20), (some (some 18, false)), []⟩,
      ⟨some 22, .pick (.tmp 18) (.const (.bool true)) (.tmp 21), none, []⟩] [15, 16, 17, 18, 19, 20, 21])
   (.cond (.tmp 22)
     (.seq
      (.region false [⟨some 8, .mv (.const (.int .i64 10)), none, []⟩] [])
     .ret)
     .skip))
  (.seq
   (.region false [⟨some 23, .mv (.tmp 1), none, []⟩,
     ⟨some 24, .loadN 2 (.tmp 6), none, []⟩,
     ⟨some 25, .mv (.tmp 3), none, []⟩,
     ⟨some 26, .call (.func 87) [(.tmp 23), (.tmp 24), (.tmp 25)], none, []⟩,
     ⟨some 8, .mv (.tmp 26), none, []⟩] [23, 24, 25, 26])
  .ret))))
set_option maxRecDepth 100000 in
theorem kref07_CheckSets : IsCode Try.prog 41 27 cref07_CheckSets [.tmp 8] :=
  ⟨Try.f41, _, [22, 13, 0, 2, 4, 9, 1, 6, 3, 8], Try.func41, rfl, by decide, rfl, by kernel_rfl, by kernel_rfl⟩
/-- ref07_checkNumbers -/
def cref07_checkNumbers : ACode :=
  (.seq
   (.region false [⟨some 4, .box (.tmp 1), none, []⟩,
     ⟨some 6, .mv (.const (.int .i64 0)), none, []⟩] [])
  (.seq
   (.seq
    (.region false [⟨some 7, .mv (.tmp 0), none, []⟩,
      ⟨some 8, .len_ (.tmp 7), none, []⟩,
      ⟨some 9, .bin .neq (.tmp 8) (.const (.int .i64 2)), none, []⟩,
      ⟨some 10, .mv (.tmp 9), none, []⟩,
      ⟨some 11, .mv (.tmp 0), (some (some 10, false)), []⟩,
      ⟨some 12, .iadS 2 (.tmp 11) (.const (.int .i64 0)), (some (some 10, false)), []⟩,
      ⟨some 13, .loadN 2 (.tmp 12), (some (some 10, false)), []⟩,
      ⟨some 14, .call (.func 108) [(.tmp 13), (.const (.int .i64 1000))], (some (some 10, false)), []⟩,
      ⟨some 15, .un .not (.tmp 14), (some (some 10, false)), []⟩,
      ⟨some 16, .pick (.tmp 10) (.const (.bool true)) (.tmp 15), none, []⟩,
      ⟨some 17, .mv (.tmp 16), none, []⟩,
      ⟨some 18, .mv (.tmp 0), (some (some 17, false)), []⟩,
      ⟨some 19, .iadS 2 (.tmp 18) (.const (.int .i64 1)), (some (some 17, false)), []⟩,
      ⟨some 20, .loadN 2 (.tmp 19), (some (some 17, false)), []⟩,
      ⟨some 21, .call (.func 108) [(.tmp 20), (.const (.int .i64 1000))], (some (some 17, false)), []⟩,
      ⟨some 22, .un .not (.tmp 21), (some (some 17, false)), []⟩,
      ⟨some 23, .pick (.tmp 17) (.const (.bool true)) (.tmp 22), none, []⟩,
      ⟨some 24, .mv (.tmp 23), none, []⟩,
      ⟨some 25, .loadN 2 (.tmp 4), (some (some 24, false)), []⟩,
      ⟨some 26, .call (.func 108) [(.tmp 25), (.const (.int .i64 100))], (some (some 24, false)), []⟩,
      ⟨some 27, .un .not (.tmp 26), (some (some 24, false)), []⟩,
      ⟨some 28, .pick (.tmp 24) (.const (.bool true)) (.tmp 27), none, []⟩,
      ⟨some 29, .mv (.tmp 28), none, []⟩,
      ⟨some 30, .mv (.tmp 2), (some (some 29, false)), []⟩,
      ⟨some 31, .call (.func 56) [(.tmp 30), (.const (.int .i64 0)), (.const (.int .i64 16))], (some (some 29, false)), []⟩,
      ⟨some 32, .un .not (.tmp 31), (some (some 29, false)), []⟩,
      ⟨some 33, .pick (.tmp 29) (.const (.bool true)) (.tmp 32), none, []⟩] [7, 8, 9, 10, 11, 12, 13, 14, 15, 16, 17, 18, 19, 20, 21, 22, 23, 24, 25, 26, 27, 28, 29, 30, 31, 32])
   (.cond (.tmp 33)
     (.seq
      (.region false [⟨some 6, .mv (.const (.int .i64 1)), none, []⟩] [])
     .ret)
     .skip))
  (.seq
   (.region false [⟨some 6, .mv (.const (.int .i64 0)), none, []⟩] [])
  .ret)))
set_option maxRecDepth 100000 in
theorem kref07_checkNumbers : IsCode Try.prog 87 34 cref07_checkNumbers [.tmp 6] :=
  ⟨Try.f87, _, [33, 1, 0, 4, 2, 6], Try.func87, rfl, by decide, rfl, by kernel_rfl, by kernel_rfl⟩
/-- psling_set_parts -/
def cpsling_set_parts : ACode :=
  (.seq
   (.region false [⟨some 4, .mv (.const (.slice none 0 0)), none, []⟩,
     ⟨some 5, .mv (.const (.int .i64 0)), none, []⟩] [])
  (.seq
   (.seq
    (.region false [⟨some 10, .mv (.tmp 1), none, []⟩,
      ⟨some 11, .bin .add (.tmp 10) (.const (.int .i64 2)), none, []⟩,
      ⟨some 12, .mv (.const (.int .i64 0)), none, []⟩] [10])
   (.block 0
     (.loop
       (.seq
        (.region false [⟨some 13, .bin .lss (.tmp 12) (.tmp 11), none, []⟩] [])
       (.seq
        (.cond (.tmp 13)
          .skip
          (.exit 0))
       (.seq
        (.block 1
          (.seq
           (.region false [⟨some 14, .mv (.tmp 12), none, []⟩,
             ⟨some 6, .mv (.tmp 14), none, []⟩] [14])
          (.seq
           (.region false [⟨some 15, .mv (.tmp 0), none, []⟩,
             ⟨some 16, .nilc (.tmp 15), none, []⟩,
             ⟨some 17, .fad 0 (.tmp 16), none, []⟩,
             ⟨some 18, .loadN 3 (.tmp 17), none, []⟩,
             ⟨some 19, .build [(.val (.int .i64 0)), (.val (.int .i64 0)), (.val (.int .i64 0)), (.val (.int .i64 0)), (.val (.int .i64 0)), (.val (.int .i64 0))] [(0, 3, (.tmp 18)), (5, 1, (.const (.int .i64 1)))], none, []⟩,
             ⟨some 20, .box (.tmp 19), none, []⟩,
             ⟨some 7, .mv (.tmp 20), none, []⟩] [15, 16, 17, 18, 19, 20])
          (.seq
           (.seq
            (.region false [⟨some 21, .mv (.tmp 6), none, []⟩] [])
           (.block 2
             (.seq
              (.region false [⟨some 23, .bin .eql (.tmp 21) (.const (.int .i64 0)), none, []⟩,
                ⟨some 22, .mv (.tmp 23), none, []⟩] [23])
             (.cond (.tmp 22)
               (.region false [⟨some 24, .mv (.tmp 7), none, []⟩,
                 ⟨some 25, .nilc (.tmp 24), none, []⟩,
                 ⟨some 26, .fad 3 (.tmp 25), none, []⟩,
                 ⟨none, .store 1 (.tmp 26) (.const (.int .i64 1)), none, []⟩] [24, 25, 26])
               (.seq
                (.region false [⟨some 28, .bin .eql (.tmp 21) (.const (.int .i64 1)), none, []⟩,
                  ⟨some 27, .mv (.tmp 28), none, []⟩] [28])
               (.cond (.tmp 27)
                 (.region false [⟨some 29, .mv (.tmp 7), none, []⟩,
                   ⟨some 30, .nilc (.tmp 29), none, []⟩,
                   ⟨some 31, .fad 4 (.tmp 30), none, []⟩,
                   ⟨none, .store 1 (.tmp 31) (.const (.int .i64 1)), none, []⟩] [29, 30, 31])
                 .skip))))))
          (.seq
           (.seq
            (.region false [⟨some 32, .mv (.tmp 1), none, []⟩,
              ⟨some 33, .mv (.const (.int .i64 0)), none, []⟩] [])
           (.block 3
             (.loop
               (.seq
                (.region false [⟨some 34, .bin .lss (.tmp 33) (.tmp 32), none, []⟩] [])
               (.seq
                (.cond (.tmp 34)
                  .skip
                  (.exit 3))
               (.seq
                (.block 4
                  (.seq
                   (.region false [⟨some 35, .mv (.tmp 33), none, []⟩,
                     ⟨some 8, .mv (.tmp 35), none, []⟩] [35])
                  (.seq
                   (.region false [⟨some 9, .mv (.const (.int .i64 0)), none, []⟩] [])
                  (.seq
                   (.seq
                    (.region false [⟨some 36, .mv (.tmp 6), none, []⟩,
                      ⟨some 37, .mv (.tmp 8), none, []⟩,
                      ⟨some 38, .bin .add (.tmp 37) (.const (.int .i64 2)), none, []⟩,
                      ⟨some 39, .bin .eql (.tmp 36) (.tmp 38), none, []⟩] [36, 37, 38])
                   (.cond (.tmp 39)
                     (.region false [⟨some 9, .mv (.const (.int .i64 1)), none, []⟩] [])
                     .skip))
                  (.region false [⟨some 40, .mv (.tmp 7), none, []⟩,
                    ⟨some 41, .mv (.tmp 9), none, []⟩,
                    ⟨some 42, .call (.func 54) [(.tmp 40), (.tmp 41)], none, []⟩] [40, 41, 42])))))
               (.region false [⟨some 43, .bin .add (.tmp 33) (.const (.int .i64 1)), none, []⟩,
                 ⟨some 33, .mv (.tmp 43), none, []⟩] [43])))))))
          (.region true [⟨some 44, .mv (.tmp 4), none, []⟩,
            ⟨some 45, .mv (.tmp 7), none, []⟩,
            ⟨some 46, .nilc (.tmp 45), none, [1]⟩,
            ⟨some 47, .fad 3 (.tmp 46), none, [2, 1]⟩,
            ⟨some 48, .load1 (.tmp 47), none, [3, 2, 1]⟩,
            ⟨some 49, .buildSl 1 1 [(.val (.int .i64 0))] [(0, 1, (.tmp 48))], none, [4, 3, 2, 1]⟩,
            ⟨some 50, .app 1 8 (.tmp 44) (.tmp 49), none, [0, 5, 4, 3, 2, 1]⟩,
            ⟨some 51, .mv (.tmp 7), none, []⟩,
            ⟨some 52, .nilc (.tmp 51), none, [7]⟩,
            ⟨some 53, .fad 5 (.tmp 52), none, [8, 7]⟩,
            ⟨some 54, .load1 (.tmp 53), none, [9, 8, 7]⟩,
            ⟨some 4, .mv (.tmp 50), none, [6, 0, 5, 4, 3, 2, 1]⟩,
            ⟨some 5, .mv (.tmp 54), none, [10, 9, 8, 7, 11, 6, 0, 5, 4, 3, 2, 1]⟩] [44, 45, 46, 47, 48, 49, 50, 51, 52, 53, 54]))))))
       (.region false [⟨some 55, .bin .add (.tmp 12) (.const (.int .i64 1)), none, []⟩,
         ⟨some 12, .mv (.tmp 55), none, []⟩] [55])))))))
  (.seq
   (.region false [⟨some 56, .mv (.tmp 4), none, []⟩,
     ⟨some 57, .mv (.tmp 5), none, []⟩,
     ⟨some 4, .mv (.tmp 56), none, []⟩,
     ⟨some 5, .mv (.tmp 57), none, []⟩] [56, 57])
  .ret)))
set_option maxRecDepth 100000 in
theorem kpsling_set_parts : IsCode Try.prog 83 58 cpsling_set_parts [.tmp 4, .tmp 5] :=
  ⟨Try.f83, _, [39, 34, 27, 22, 13, 1, 12, 11, 0, 6, 21, 7, 33, 32, 8, 9, 4, 5], Try.func83, rfl, by decide, rfl, by kernel_rfl, by kernel_rfl⟩
/-- psling_set_most -/
def cpsling_set_most : ACode :=
  (.seq
   (.region false [⟨some 6, .mv (.const (.int .i64 0)), none, []⟩,
     ⟨some 7, .mv (.const (.int .i64 0)), none, []⟩] [])
  (.seq
   (.region false [⟨some 12, .mv (.tmp 0), none, []⟩,
     ⟨some 13, .mv (.tmp 1), none, []⟩,
     ⟨some 14, .call (.func 83) [(.tmp 12), (.tmp 13)], none, []⟩,
     ⟨some 11, .mv (.tmp 14), none, []⟩,
     ⟨some 15, .ext (.tmp 11) 0, none, []⟩,
     ⟨some 16, .ext (.tmp 11) 1, none, []⟩,
     ⟨some 8, .mv (.tmp 15), none, []⟩,
     ⟨some 7, .mv (.tmp 16), none, []⟩] [12, 13, 14, 11, 15, 16])
  (.seq
   (.seq
    (.region false [⟨some 17, .mv (.tmp 8), none, []⟩,
      ⟨some 18, .len_ (.tmp 17), none, []⟩,
      ⟨some 19, .mv (.const (.int .i64 0)), none, []⟩] [])
   (.block 0
     (.loop
       (.seq
        (.region false [⟨some 20, .bin .lss (.tmp 19) (.tmp 18), none, []⟩] [])
       (.seq
        (.cond (.tmp 20)
          .skip
          (.exit 0))
       (.seq
        (.block 1
          (.seq
           (.region false [⟨some 21, .mv (.tmp 19), none, []⟩,
             ⟨some 22, .iadS 1 (.tmp 17) (.tmp 19), none, []⟩,
             ⟨some 23, .load1 (.tmp 22), none, []⟩,
             ⟨some 9, .mv (.tmp 21), none, []⟩,
             ⟨some 10, .mv (.tmp 23), none, []⟩] [21, 22, 23])
          (.region false [⟨some 24, .mv (.tmp 6), none, []⟩,
            ⟨some 25, .mv (.tmp 10), none, []⟩,
            ⟨some 26, .mv (.tmp 10), none, []⟩,
            ⟨some 27, .mv (.tmp 0), none, []⟩,
            ⟨some 28, .mv (.tmp 9), none, []⟩,
            ⟨some 29, .call (.func 85) [(.tmp 27), (.tmp 28)], none, []⟩,
            ⟨some 30, .mv (.tmp 2), none, []⟩,
            ⟨some 31, .call (.func 84) [(.tmp 26), (.tmp 29), (.tmp 30)], none, []⟩,
            ⟨some 32, .bin .mul (.tmp 25) (.tmp 31), none, []⟩,
            ⟨some 33, .bin .add (.tmp 24) (.tmp 32), none, []⟩,
            ⟨some 6, .mv (.tmp 33), none, []⟩] [24, 25, 26, 27, 28, 29, 30, 31, 32, 33])))
       (.region false [⟨some 34, .bin .add (.tmp 19) (.const (.int .i64 1)), none, []⟩,
         ⟨some 19, .mv (.tmp 34), none, []⟩] [34])))))))
  (.seq
   (.region false [⟨some 35, .mv (.tmp 6), none, []⟩,
     ⟨some 36, .mv (.tmp 7), none, []⟩,
     ⟨some 6, .mv (.tmp 35), none, []⟩,
     ⟨some 7, .mv (.tmp 36), none, []⟩] [35, 36])
  .ret))))
set_option maxRecDepth 100000 in
theorem kpsling_set_most : IsCode Try.prog 81 37 cpsling_set_most [.tmp 6, .tmp 7] :=
  ⟨Try.f81, _, [20, 0, 1, 8, 19, 18, 17, 6, 10, 9, 2, 7], Try.func81, rfl, by decide, rfl, by kernel_rfl, by kernel_rfl⟩
/-- psling_set_keeps -/
def cpsling_set_keeps : ACode :=
  (.seq
   (.region false [⟨some 5, .box (.tmp 2), none, []⟩,
     ⟨some 6, .mv (.const (.int .i64 0)), none, []⟩,
     ⟨some 7, .mv (.const (.bool false)), none, []⟩] [])
  (.seq
   (.seq
    (.region false [⟨some 13, .mv (.tmp 1), none, []⟩,
      ⟨some 14, .bin .add (.tmp 13) (.const (.int .i64 1)), none, []⟩,
      ⟨some 15, .mv (.const (.int .i64 0)), none, []⟩] [13])
   (.block 0
     (.loop
       (.seq
        (.region false [⟨some 16, .bin .lss (.tmp 15) (.tmp 14), none, []⟩] [])
       (.seq
        (.cond (.tmp 16)
          .skip
          (.exit 0))
       (.seq
        (.block 1
          (.seq
           (.region false [⟨some 17, .mv (.tmp 15), none, []⟩,
             ⟨some 8, .mv (.tmp 17), none, []⟩] [17])
          (.seq
           (.region false [⟨some 19, .mv (.tmp 0), none, []⟩,
             ⟨some 20, .mv (.tmp 8), none, []⟩,
             ⟨some 21, .call (.func 81) [(.tmp 19), (.tmp 20), (.const (.bool false))], none, []⟩,
             ⟨some 18, .mv (.tmp 21), none, []⟩,
             ⟨some 22, .ext (.tmp 18) 0, none, []⟩,
             ⟨some 23, .ext (.tmp 18) 1, none, []⟩,
             ⟨some 9, .mv (.tmp 22), none, []⟩,
             ⟨some 10, .mv (.tmp 23), none, []⟩] [19, 20, 21, 18, 22, 23])
          (.seq
           (.region false [⟨some 25, .mv (.tmp 0), none, []⟩,
             ⟨some 26, .mv (.tmp 8), none, []⟩,
             ⟨some 27, .call (.func 81) [(.tmp 25), (.tmp 26), (.const (.bool true))], none, []⟩,
             ⟨some 24, .mv (.tmp 27), none, []⟩,
             ⟨some 28, .ext (.tmp 24) 0, none, []⟩,
             ⟨some 29, .ext (.tmp 24) 1, none, []⟩,
             ⟨some 11, .mv (.tmp 28), none, []⟩,
             ⟨some 12, .mv (.tmp 29), none, []⟩] [25, 26, 27, 24, 28, 29, 12])
          (.seq
           (.region false [⟨some 30, .mv (.tmp 9), none, []⟩,
             ⟨some 31, .fad 0 (.tmp 5), none, []⟩,
             ⟨some 32, .load1 (.tmp 31), none, []⟩,
             ⟨some 33, .mv (.tmp 10), none, []⟩,
             ⟨some 34, .bin .mul (.tmp 32) (.tmp 33), none, []⟩,
             ⟨some 35, .bin .lss (.tmp 30) (.tmp 34), none, []⟩,
             ⟨some 36, .mv (.tmp 35), none, []⟩,
             ⟨some 37, .mv (.tmp 11), (some (some 36, false)), []⟩,
             ⟨some 38, .fad 1 (.tmp 5), (some (some 36, false)), []⟩,
             ⟨some 39, .load1 (.tmp 38), (some (some 36, false)), []⟩,
             ⟨some 40, .mv (.tmp 10), (some (some 36, false)), []⟩,
             ⟨some 41, .bin .mul (.tmp 39) (.tmp 40), (some (some 36, false)), []⟩,
             ⟨some 42, .bin .gtr (.tmp 37) (.tmp 41), (some (some 36, false)), []⟩,
             ⟨some 43, .pick (.tmp 36) (.const (.bool true)) (.tmp 42), none, []⟩] [30, 31, 32, 33, 34, 35, 36, 37, 38, 39, 40, 41, 42])
          (.cond (.tmp 43)
            (.seq
             (.region false [⟨some 44, .mv (.tmp 8), none, []⟩,
               ⟨some 6, .mv (.tmp 44), none, []⟩,
               ⟨some 7, .mv (.const (.bool true)), none, []⟩] [44])
            .ret)
            .skip))))))
       (.region false [⟨some 45, .bin .add (.tmp 15) (.const (.int .i64 1)), none, []⟩,
         ⟨some 15, .mv (.tmp 45), none, []⟩] [45])))))))
  (.seq
   (.region false [⟨some 6, .mv (.const (.int .i64 0)), none, []⟩,
     ⟨some 7, .mv (.const (.bool false)), none, []⟩] [])
  .ret)))
set_option maxRecDepth 100000 in
theorem kpsling_set_keeps : IsCode Try.prog 90 46 cpsling_set_keeps [.tmp 6, .tmp 7] :=
  ⟨Try.f90, _, [43, 16, 2, 1, 15, 14, 0, 8, 9, 5, 10, 11, 6, 7], Try.func90, rfl, by decide, rfl, by kernel_rfl, by kernel_rfl⟩
/-- ref07_weights -/
def cref07_weights : ACode :=
  (.seq
   (.region false [⟨some 2, .box (.tmp 0), none, []⟩,
     ⟨some 4, .mv (.const (.slice none 0 0)), none, []⟩] [])
  (.seq
   (.region false [⟨some 9, .mv (.tmp 1), none, []⟩,
     ⟨some 10, .mksl 1 8 [(.val (.int .i64 0))] (.tmp 9) (.tmp 9), none, []⟩,
     ⟨some 5, .mv (.tmp 10), none, []⟩] [9, 10])
  (.seq
   (.region true [⟨some 11, .loadN 3 (.tmp 2), none, []⟩,
     ⟨some 12, .mv (.tmp 5), none, []⟩,
     ⟨some 13, .call (.func 69) [(.tmp 11), (.const (.int .i64 1)), (.const (.int .i64 0)), (.tmp 12)], none, [0, 1]⟩,
     ⟨some 14, .mv (.tmp 1), none, []⟩,
     ⟨some 15, .iadS 1 (.tmp 13) (.tmp 14), none, [2, 0, 1, 3]⟩,
     ⟨some 16, .load1 (.tmp 15), none, [4, 2, 0, 1, 3]⟩,
     ⟨some 17, .loadN 3 (.tmp 2), none, []⟩,
     ⟨some 18, .mv (.tmp 5), none, []⟩,
     ⟨some 19, .call (.func 69) [(.tmp 17), (.const (.int .i64 0)), (.const (.int .i64 1)), (.tmp 18)], none, [6, 7, 2, 0, 1]⟩,
     ⟨some 20, .mv (.tmp 1), none, []⟩,
     ⟨some 21, .iadS 1 (.tmp 19) (.tmp 20), none, [8, 6, 7, 2, 0, 1, 9]⟩,
     ⟨some 22, .load1 (.tmp 21), none, [10, 8, 6, 7, 2, 0, 1, 9]⟩,
     ⟨some 23, .buildSl 1 2 [(.val (.int .i64 0)), (.val (.int .i64 0))] [(0, 1, (.tmp 16)), (1, 1, (.tmp 22))], none, [5, 4, 2, 0, 1, 3, 11, 10, 8, 6, 7, 9]⟩,
     ⟨some 6, .mv (.tmp 23), none, [12, 5, 4, 2, 0, 1, 3, 11, 10, 8, 6, 7, 9]⟩] [11, 12, 13, 14, 15, 16, 17, 18, 19, 20, 21, 22, 23])
  (.seq
   (.seq
    (.region false [⟨some 7, .mv (.const (.int .i64 0)), none, []⟩] [])
   (.block 0
     (.loop
       (.seq
        (.seq
         (.region false [⟨some 24, .mv (.tmp 7), none, []⟩,
           ⟨some 25, .mv (.tmp 1), none, []⟩,
           ⟨some 26, .bin .lss (.tmp 24) (.tmp 25), none, []⟩] [24, 25])
        (.cond (.tmp 26)
          .skip
          (.exit 0)))
       (.seq
        (.block 1
          (.seq
           (.region false [⟨some 29, .mv (.tmp 1), none, []⟩,
             ⟨some 30, .mksl 1 8 [(.val (.int .i64 0))] (.tmp 29) (.tmp 29), none, []⟩,
             ⟨some 8, .mv (.tmp 30), none, []⟩] [29, 30])
          (.seq
           (.region false [⟨some 31, .mv (.tmp 8), none, []⟩,
             ⟨some 32, .mv (.tmp 7), none, []⟩,
             ⟨some 33, .iadS 1 (.tmp 31) (.tmp 32), none, []⟩,
             ⟨none, .store 1 (.tmp 33) (.const (.int .i64 1)), none, []⟩] [31, 32, 33])
          (.region false [⟨some 34, .mv (.tmp 6), none, []⟩,
            ⟨some 35, .loadN 3 (.tmp 2), none, []⟩,
            ⟨some 36, .mv (.tmp 8), none, []⟩,
            ⟨some 37, .call (.func 69) [(.tmp 35), (.const (.int .i64 0)), (.const (.int .i64 0)), (.tmp 36)], none, []⟩,
            ⟨some 38, .mv (.tmp 1), none, []⟩,
            ⟨some 39, .iadS 1 (.tmp 37) (.tmp 38), none, []⟩,
            ⟨some 40, .load1 (.tmp 39), none, []⟩,
            ⟨some 41, .buildSl 1 1 [(.val (.int .i64 0))] [(0, 1, (.tmp 40))], none, []⟩,
            ⟨some 42, .app 1 8 (.tmp 34) (.tmp 41), none, []⟩,
            ⟨some 6, .mv (.tmp 42), none, []⟩] [34, 35, 36, 37, 38, 39, 40, 41, 42]))))
       (.region false [⟨some 27, .mv (.tmp 7), none, []⟩,
         ⟨some 28, .bin .add (.tmp 27) (.const (.int .i64 1)), none, []⟩,
         ⟨some 7, .mv (.tmp 28), none, []⟩] [27, 28]))))))
  (.seq
   (.region false [⟨some 43, .mv (.tmp 6), none, []⟩,
     ⟨some 4, .mv (.tmp 43), none, []⟩] [43])
  .ret)))))
set_option maxRecDepth 100000 in
theorem kref07_weights : IsCode Try.prog 107 44 cref07_weights [.tmp 4] :=
  ⟨Try.f107, _, [26, 0, 1, 2, 5, 7, 8, 6, 4], Try.func107, rfl, by decide, rfl, by kernel_rfl, by kernel_rfl⟩
/-- ref07_ends -/
def cref07_ends : ACode :=
  (.seq
   (.region false [⟨some 5, .box (.tmp 0), none, []⟩,
     ⟨some 7, .box (.tmp 2), none, []⟩,
     ⟨some 10, .mv (.const (.slice none 0 0)), none, []⟩,
     ⟨some 11, .mv (.const (.int .i64 0)), none, []⟩] [])
  (.seq
   (.region false [⟨some 18, .loadN 3 (.tmp 5), none, []⟩,
     ⟨some 19, .mv (.tmp 3), none, []⟩,
     ⟨some 20, .call (.func 107) [(.tmp 18), (.tmp 19)], none, []⟩,
     ⟨some 12, .mv (.tmp 20), none, []⟩] [18, 19, 20])
  (.seq
   (.region false [⟨some 13, .mv (.const (.slice none 0 0)), none, []⟩] [])
  (.seq
   (.region false [⟨some 14, .mv (.const (.int .i64 0)), none, []⟩] [])
  (.seq
   (.seq
    (.region false [⟨some 15, .mv (.const (.int .i64 0)), none, []⟩] [])
   (.block 0
     (.loop
       (.seq
        (.seq
         (.region false [⟨some 21, .mv (.tmp 15), none, []⟩,
           ⟨some 22, .mv (.tmp 12), none, []⟩,
           ⟨some 23, .len_ (.tmp 22), none, []⟩,
           ⟨some 24, .bin .lss (.tmp 21) (.tmp 23), none, []⟩] [21, 22, 23])
        (.cond (.tmp 24)
          .skip
          (.exit 0)))
       (.seq
        (.block 1
          (.seq
           (.region false [⟨some 27, .loadN 2 (.tmp 7), none, []⟩,
             ⟨some 16, .mem [(.val (.int .i64 0)), (.val (.int .i64 0))], none, []⟩,
             ⟨none, .store 2 (.tmp 16) (.tmp 27), none, []⟩] [27])
          (.seq
           (.seq
            (.region false [⟨some 28, .mv (.tmp 15), none, []⟩,
              ⟨some 29, .bin .lss (.tmp 28) (.const (.int .i64 2)), none, []⟩] [28])
           (.cond (.tmp 29)
             (.region false [⟨some 30, .mv (.tmp 1), none, []⟩,
               ⟨some 31, .mv (.tmp 15), none, []⟩,
               ⟨some 32, .iadS 2 (.tmp 30) (.tmp 31), none, []⟩,
               ⟨some 33, .loadN 2 (.tmp 32), none, []⟩,
               ⟨none, .store 2 (.tmp 16) (.tmp 33), none, []⟩] [30, 31, 32, 33])
             .skip))
          (.seq
           (.region false [⟨some 34, .fad 0 (.tmp 16), none, []⟩,
             ⟨some 35, .load1 (.tmp 34), none, []⟩,
             ⟨some 17, .mv (.tmp 35), none, []⟩] [34, 35])
          (.seq
           (.seq
            (.region false [⟨some 36, .mv (.tmp 4), none, []⟩,
              ⟨some 37, .mv (.tmp 36), none, []⟩,
              ⟨some 38, .mv (.tmp 12), (some (some 37, true)), []⟩,
              ⟨some 39, .mv (.tmp 15), (some (some 37, true)), []⟩,
              ⟨some 40, .iadS 1 (.tmp 38) (.tmp 39), (some (some 37, true)), []⟩,
              ⟨some 41, .load1 (.tmp 40), (some (some 37, true)), []⟩,
              ⟨some 42, .bin .gtr (.tmp 41) (.const (.int .i64 0)), (some (some 37, true)), []⟩,
              ⟨some 43, .pick (.tmp 37) (.tmp 42) (.const (.bool false)), none, []⟩,
              ⟨some 44, .mv (.tmp 43), none, []⟩,
              ⟨some 45, .mv (.tmp 4), (some (some 44, false)), []⟩,
              ⟨some 46, .un .not (.tmp 45), (some (some 44, false)), []⟩,
              ⟨some 47, .mv (.tmp 46), (some (some 44, false)), []⟩,
              ⟨some 48, .mv (.tmp 12), (some (some 47, true)), []⟩,
              ⟨some 49, .mv (.tmp 15), (some (some 47, true)), []⟩,
              ⟨some 50, .iadS 1 (.tmp 48) (.tmp 49), (some (some 47, true)), []⟩,
              ⟨some 51, .load1 (.tmp 50), (some (some 47, true)), []⟩,
              ⟨some 52, .bin .lss (.tmp 51) (.const (.int .i64 0)), (some (some 47, true)), []⟩,
              ⟨some 53, .pick (.tmp 47) (.tmp 52) (.const (.bool false)), (some (some 44, false)), []⟩,
              ⟨some 54, .pick (.tmp 44) (.const (.bool true)) (.tmp 53), none, []⟩] [36, 37, 38, 39, 40, 41, 42, 43, 44, 45, 46, 47, 48, 49, 50, 51, 52, 53])
           (.cond (.tmp 54)
             (.region false [⟨some 55, .fad 1 (.tmp 16), none, []⟩,
               ⟨some 56, .load1 (.tmp 55), none, []⟩,
               ⟨some 17, .mv (.tmp 56), none, []⟩] [55, 56])
             .skip))
          (.seq
           (.region false [⟨some 57, .mv (.tmp 13), none, []⟩,
             ⟨some 58, .mv (.tmp 17), none, []⟩,
             ⟨some 59, .buildSl 1 1 [(.val (.int .i64 0))] [(0, 1, (.tmp 58))], none, []⟩,
             ⟨some 60, .app 1 8 (.tmp 57) (.tmp 59), none, []⟩,
             ⟨some 13, .mv (.tmp 60), none, []⟩] [57, 58, 59, 60])
          (.region false [⟨some 61, .mv (.tmp 14), none, []⟩,
            ⟨some 62, .mv (.tmp 12), none, []⟩,
            ⟨some 63, .mv (.tmp 15), none, []⟩,
            ⟨some 64, .iadS 1 (.tmp 62) (.tmp 63), none, []⟩,
            ⟨some 65, .load1 (.tmp 64), none, []⟩,
            ⟨some 66, .mv (.tmp 17), none, []⟩,
            ⟨some 67, .bin .mul (.tmp 65) (.tmp 66), none, []⟩,
            ⟨some 68, .bin .add (.tmp 61) (.tmp 67), none, []⟩,
            ⟨some 14, .mv (.tmp 68), none, []⟩] [61, 62, 63, 64, 65, 66, 67, 68])))))))
       (.region false [⟨some 25, .mv (.tmp 15), none, []⟩,
         ⟨some 26, .bin .add (.tmp 25) (.const (.int .i64 1)), none, []⟩,
         ⟨some 15, .mv (.tmp 26), none, []⟩] [25, 26]))))))
  (.seq
   (.region false [⟨some 69, .mv (.tmp 13), none, []⟩,
     ⟨some 70, .mv (.tmp 14), none, []⟩,
     ⟨some 10, .mv (.tmp 69), none, []⟩,
     ⟨some 11, .mv (.tmp 70), none, []⟩] [69, 70])
  .ret))))))
set_option maxRecDepth 100000 in
theorem kref07_ends : IsCode Try.prog 82 71 cref07_ends [.tmp 10, .tmp 11] :=
  ⟨Try.f82, _, [54, 29, 24, 0, 2, 5, 3, 15, 12, 7, 1, 16, 4, 13, 17, 14, 10, 11], Try.func82, rfl, by decide, rfl, by kernel_rfl, by kernel_rfl⟩
/-- ref07_keeps -/
def cref07_keeps : ACode :=
  (.seq
   (.region false [⟨some 5, .box (.tmp 0), none, []⟩,
     ⟨some 7, .box (.tmp 2), none, []⟩,
     ⟨some 9, .box (.tmp 4), none, []⟩,
     ⟨some 10, .mv (.const (.int .i64 0)), none, []⟩] [])
  (.seq
   (.seq
    (.region false [⟨some 11, .mv (.const (.int .i64 0)), none, []⟩] [])
   (.block 0
     (.loop
       (.seq
        (.seq
         (.region false [⟨some 17, .mv (.tmp 11), none, []⟩,
           ⟨some 18, .mv (.tmp 3), none, []⟩,
           ⟨some 19, .bin .leq (.tmp 17) (.tmp 18), none, []⟩] [17, 18])
        (.cond (.tmp 19)
          .skip
          (.exit 0)))
       (.seq
        (.block 1
          (.seq
           (.region false [⟨some 23, .loadN 3 (.tmp 5), none, []⟩,
             ⟨some 24, .mv (.tmp 1), none, []⟩,
             ⟨some 25, .loadN 2 (.tmp 7), none, []⟩,
             ⟨some 26, .mv (.tmp 11), none, []⟩,
             ⟨some 27, .call (.func 82) [(.tmp 23), (.tmp 24), (.tmp 25), (.tmp 26), (.const (.bool false))], none, []⟩,
             ⟨some 22, .mv (.tmp 27), none, []⟩,
             ⟨some 28, .ext (.tmp 22) 0, none, []⟩,
             ⟨some 29, .ext (.tmp 22) 1, none, []⟩,
             ⟨some 12, .mv (.tmp 28), none, []⟩,
             ⟨some 13, .mv (.tmp 29), none, []⟩] [23, 24, 25, 26, 27, 22, 28, 29, 12])
          (.seq
           (.region false [⟨some 31, .loadN 3 (.tmp 5), none, []⟩,
             ⟨some 32, .mv (.tmp 1), none, []⟩,
             ⟨some 33, .loadN 2 (.tmp 7), none, []⟩,
             ⟨some 34, .mv (.tmp 11), none, []⟩,
             ⟨some 35, .call (.func 82) [(.tmp 31), (.tmp 32), (.tmp 33), (.tmp 34), (.const (.bool true))], none, []⟩,
             ⟨some 30, .mv (.tmp 35), none, []⟩,
             ⟨some 36, .ext (.tmp 30) 0, none, []⟩,
             ⟨some 37, .ext (.tmp 30) 1, none, []⟩,
             ⟨some 14, .mv (.tmp 36), none, []⟩,
             ⟨some 15, .mv (.tmp 37), none, []⟩] [31, 32, 33, 34, 35, 30, 36, 37, 14])
          (.seq
           (.region false [⟨some 38, .fad 2 (.tmp 5), none, []⟩,
             ⟨some 39, .load1 (.tmp 38), none, []⟩,
             ⟨some 40, .mv (.tmp 11), none, []⟩,
             ⟨some 41, .call (.func 71) [(.tmp 39), (.tmp 40)], none, []⟩,
             ⟨some 16, .mv (.tmp 41), none, []⟩] [38, 39, 40, 41])
          (.seq
           (.region false [⟨some 42, .mv (.tmp 13), none, []⟩,
             ⟨some 43, .fad 0 (.tmp 9), none, []⟩,
             ⟨some 44, .load1 (.tmp 43), none, []⟩,
             ⟨some 45, .mv (.tmp 16), none, []⟩,
             ⟨some 46, .bin .mul (.tmp 44) (.tmp 45), none, []⟩,
             ⟨some 47, .bin .lss (.tmp 42) (.tmp 46), none, []⟩,
             ⟨some 48, .mv (.tmp 47), none, []⟩,
             ⟨some 49, .mv (.tmp 15), (some (some 48, false)), []⟩,
             ⟨some 50, .fad 1 (.tmp 9), (some (some 48, false)), []⟩,
             ⟨some 51, .load1 (.tmp 50), (some (some 48, false)), []⟩,
             ⟨some 52, .mv (.tmp 16), (some (some 48, false)), []⟩,
             ⟨some 53, .bin .mul (.tmp 51) (.tmp 52), (some (some 48, false)), []⟩,
             ⟨some 54, .bin .gtr (.tmp 49) (.tmp 53), (some (some 48, false)), []⟩,
             ⟨some 55, .pick (.tmp 48) (.const (.bool true)) (.tmp 54), none, []⟩] [42, 43, 44, 45, 46, 47, 48, 49, 50, 51, 52, 53, 54])
          (.cond (.tmp 55)
            (.seq
             (.region false [⟨some 56, .mv (.tmp 11), none, []⟩,
               ⟨some 10, .mv (.tmp 56), none, []⟩] [56])
            .ret)
            .skip))))))
       (.region false [⟨some 20, .mv (.tmp 11), none, []⟩,
         ⟨some 21, .bin .add (.tmp 20) (.const (.int .i64 1)), none, []⟩,
         ⟨some 11, .mv (.tmp 21), none, []⟩] [20, 21]))))))
  (.seq
   (.region false [⟨some 10, .mv (.const (.int .i64 (-1))), none, []⟩] [])
  .ret)))
set_option maxRecDepth 100000 in
theorem kref07_keeps : IsCode Try.prog 91 57 cref07_keeps [.tmp 10] :=
  ⟨Try.f91, _, [55, 19, 0, 2, 4, 11, 3, 5, 1, 7, 13, 9, 16, 15, 10], Try.func91, rfl, by decide, rfl, by kernel_rfl, by kernel_rfl⟩
/-- sling_Reach -/
def csling_Reach : ACode :=
  (.seq
   (.region false [⟨some 4, .box (.tmp 0), none, []⟩,
     ⟨some 6, .box (.tmp 2), none, []⟩,
     ⟨some 8, .mem [(.val (.int .i64 0)), (.val (.int .i64 0))], none, []⟩,
     ⟨some 9, .mem [(.val (.int .i64 0)), (.val (.int .i64 0))], none, []⟩,
     ⟨some 10, .mv (.const (.int .i64 0)), none, []⟩] [])
  (.seq
   (.region false [⟨some 13, .loadN 3 (.tmp 4), none, []⟩,
     ⟨some 14, .mv (.tmp 1), none, []⟩,
     ⟨some 15, .loadN 2 (.tmp 6), none, []⟩,
     ⟨some 16, .mv (.tmp 3), none, []⟩,
     ⟨some 17, .call (.func 79) [(.tmp 13), (.tmp 14), (.tmp 15), (.tmp 16), (.const (.slice none 0 0))], none, []⟩,
     ⟨some 12, .mv (.tmp 17), none, []⟩,
     ⟨some 18, .ext (.tmp 12) 0, none, []⟩,
     ⟨some 19, .ext (.tmp 12) 1, none, []⟩,
     ⟨some 11, .mv (.tmp 18), none, []⟩,
     ⟨some 10, .mv (.tmp 19), none, []⟩] [13, 14, 15, 16, 17, 12, 18, 19])
  (.seq
   (.seq
    (.region false [⟨some 20, .mv (.tmp 10), none, []⟩,
      ⟨some 21, .bin .neq (.tmp 20) (.const (.int .i64 0)), none, []⟩] [20])
   (.cond (.tmp 21)
     (.seq
      (.region true [⟨some 22, .loadN 2 (.tmp 8), none, []⟩,
        ⟨some 23, .loadN 2 (.tmp 9), none, []⟩,
        ⟨some 24, .mv (.tmp 10), none, []⟩,
        ⟨none, .store 2 (.tmp 8) (.tmp 22), none, [0]⟩,
        ⟨none, .store 2 (.tmp 9) (.tmp 23), none, [1, 3, 0]⟩,
        ⟨some 10, .mv (.tmp 24), none, [2, 4, 1, 3, 0]⟩] [22, 23, 24])
     .ret)
     .skip))
  (.seq
   (.region false [⟨some 25, .mv (.tmp 11), none, []⟩,
     ⟨some 26, .mv (.tmp 3), none, []⟩,
     ⟨some 27, .call (.func 81) [(.tmp 25), (.tmp 26), (.const (.bool false))], none, []⟩,
     ⟨some 28, .ext (.tmp 27) 0, none, []⟩,
     ⟨some 29, .ext (.tmp 27) 1, none, []⟩,
     ⟨some 30, .call (.func 80) [(.tmp 28), (.tmp 29)], none, []⟩,
     ⟨some 31, .mv (.tmp 11), none, []⟩,
     ⟨some 32, .mv (.tmp 3), none, []⟩,
     ⟨some 33, .call (.func 81) [(.tmp 31), (.tmp 32), (.const (.bool true))], none, []⟩,
     ⟨some 34, .ext (.tmp 33) 0, none, []⟩,
     ⟨some 35, .ext (.tmp 33) 1, none, []⟩,
     ⟨some 36, .call (.func 80) [(.tmp 34), (.tmp 35)], none, []⟩,
     ⟨none, .store 2 (.tmp 8) (.tmp 30), none, []⟩,
     ⟨none, .store 2 (.tmp 9) (.tmp 36), none, []⟩,
     ⟨some 10, .mv (.const (.int .i64 0)), none, []⟩] [25, 26, 27, 28, 29, 30, 31, 32, 33, 34, 35, 36])
  .ret))))
set_option maxRecDepth 100000 in
theorem ksling_Reach : IsCode Try.prog 36 37 csling_Reach [.cellN 8 2, .cellN 9 2, .tmp 10] :=
  ⟨Try.f36, _, [21, 0, 2, 4, 1, 6, 3, 10, 8, 9, 11], Try.func36, rfl, by decide, rfl, by kernel_rfl, by kernel_rfl⟩
/-- ref07_Reach -/
def cref07_Reach : ACode :=
  (.seq
   (.region false [⟨some 4, .box (.tmp 0), none, []⟩,
     ⟨some 6, .box (.tmp 2), none, []⟩,
     ⟨some 8, .mem [(.val (.int .i64 0)), (.val (.int .i64 0))], none, []⟩,
     ⟨some 9, .mem [(.val (.int .i64 0)), (.val (.int .i64 0))], none, []⟩,
     ⟨some 10, .mv (.const (.int .i64 0)), none, []⟩] [])
  (.seq
   (.seq
    (.region false [⟨some 17, .loadN 3 (.tmp 4), none, []⟩,
      ⟨some 18, .mv (.tmp 1), none, []⟩,
      ⟨some 19, .loadN 2 (.tmp 6), none, []⟩,
      ⟨some 20, .mv (.tmp 3), none, []⟩,
      ⟨some 21, .call (.func 41) [(.tmp 17), (.tmp 18), (.tmp 19), (.tmp 20)], none, []⟩,
      ⟨some 11, .mv (.tmp 21), none, []⟩] [17, 18, 19, 20, 21])
   (.seq
    (.region false [⟨some 22, .mv (.tmp 11), none, []⟩,
      ⟨some 23, .bin .neq (.tmp 22) (.const (.int .i64 0)), none, []⟩] [22])
   (.cond (.tmp 23)
     (.seq
      (.region false [⟨some 24, .build [(.val (.int .i64 0)), (.val (.int .i64 0))] [], none, []⟩,
        ⟨some 25, .build [(.val (.int .i64 0)), (.val (.int .i64 0))] [], none, []⟩,
        ⟨some 26, .mv (.tmp 11), none, []⟩,
        ⟨none, .store 2 (.tmp 8) (.tmp 24), none, []⟩,
        ⟨none, .store 2 (.tmp 9) (.tmp 25), none, []⟩,
        ⟨some 10, .mv (.tmp 26), none, []⟩] [24, 25, 26])
     .ret)
     .skip)))
  (.seq
   (.region false [⟨some 28, .loadN 3 (.tmp 4), none, []⟩,
     ⟨some 29, .mv (.tmp 1), none, []⟩,
     ⟨some 30, .loadN 2 (.tmp 6), none, []⟩,
     ⟨some 31, .mv (.tmp 3), none, []⟩,
     ⟨some 32, .call (.func 82) [(.tmp 28), (.tmp 29), (.tmp 30), (.tmp 31), (.const (.bool false))], none, []⟩,
     ⟨some 27, .mv (.tmp 32), none, []⟩,
     ⟨some 33, .ext (.tmp 27) 0, none, []⟩,
     ⟨some 34, .ext (.tmp 27) 1, none, []⟩,
     ⟨some 12, .mv (.tmp 33), none, []⟩,
     ⟨some 13, .mv (.tmp 34), none, []⟩] [28, 29, 30, 31, 32, 27, 33, 34, 12])
  (.seq
   (.region false [⟨some 36, .loadN 3 (.tmp 4), none, []⟩,
     ⟨some 37, .mv (.tmp 1), none, []⟩,
     ⟨some 38, .loadN 2 (.tmp 6), none, []⟩,
     ⟨some 39, .mv (.tmp 3), none, []⟩,
     ⟨some 40, .call (.func 82) [(.tmp 36), (.tmp 37), (.tmp 38), (.tmp 39), (.const (.bool true))], none, []⟩,
     ⟨some 35, .mv (.tmp 40), none, []⟩,
     ⟨some 41, .ext (.tmp 35) 0, none, []⟩,
     ⟨some 42, .ext (.tmp 35) 1, none, []⟩,
     ⟨some 14, .mv (.tmp 41), none, []⟩,
     ⟨some 15, .mv (.tmp 42), none, []⟩] [36, 37, 38, 39, 40, 35, 41, 42, 14])
  (.seq
   (.region false [⟨some 43, .fad 2 (.tmp 4), none, []⟩,
     ⟨some 44, .load1 (.tmp 43), none, []⟩,
     ⟨some 45, .mv (.tmp 3), none, []⟩,
     ⟨some 46, .call (.func 71) [(.tmp 44), (.tmp 45)], none, []⟩,
     ⟨some 16, .mv (.tmp 46), none, []⟩] [43, 44, 45, 46])
  (.seq
   (.region false [⟨some 47, .mv (.tmp 13), none, []⟩,
     ⟨some 48, .mv (.tmp 16), none, []⟩,
     ⟨some 49, .call (.func 70) [(.tmp 47), (.tmp 48)], none, []⟩,
     ⟨some 50, .mv (.tmp 15), none, []⟩,
     ⟨some 51, .mv (.tmp 16), none, []⟩,
     ⟨some 52, .call (.func 70) [(.tmp 50), (.tmp 51)], none, []⟩,
     ⟨none, .store 2 (.tmp 8) (.tmp 49), none, []⟩,
     ⟨none, .store 2 (.tmp 9) (.tmp 52), none, []⟩,
     ⟨some 10, .mv (.const (.int .i64 0)), none, []⟩] [47, 48, 49, 50, 51, 52])
  .ret))))))
set_option maxRecDepth 100000 in
theorem kref07_Reach : IsCode Try.prog 37 53 cref07_Reach [.cellN 8 2, .cellN 9 2, .tmp 10] :=
  ⟨Try.f37, _, [23, 0, 2, 4, 1, 6, 3, 11, 8, 9, 13, 16, 15, 10], Try.func37, rfl, by decide, rfl, by kernel_rfl, by kernel_rfl⟩
/-- sling_Witness -/
def csling_Witness : ACode :=
  (.seq
   (.region false [⟨some 5, .box (.tmp 0), none, []⟩,
     ⟨some 7, .box (.tmp 2), none, []⟩,
     ⟨some 10, .mem [(.val (.int .i64 0)), (.val (.int .i64 0))], none, []⟩,
     ⟨some 11, .mv (.const (.slice none 0 0)), none, []⟩,
     ⟨some 12, .mv (.const (.int .i64 0)), none, []⟩] [])
  (.seq
   (.region false [⟨some 20, .loadN 3 (.tmp 5), none, []⟩,
     ⟨some 21, .mv (.tmp 1), none, []⟩,
     ⟨some 22, .loadN 2 (.tmp 7), none, []⟩,
     ⟨some 23, .mv (.tmp 3), none, []⟩,
     ⟨some 24, .call (.func 79) [(.tmp 20), (.tmp 21), (.tmp 22), (.tmp 23), (.const (.slice none 0 0))], none, []⟩,
     ⟨some 19, .mv (.tmp 24), none, []⟩,
     ⟨some 25, .ext (.tmp 19) 0, none, []⟩,
     ⟨some 26, .ext (.tmp 19) 1, none, []⟩,
     ⟨some 13, .mv (.tmp 25), none, []⟩,
     ⟨some 12, .mv (.tmp 26), none, []⟩] [20, 21, 22, 23, 24, 19, 25, 26])
  (.seq
   (.seq
    (.region false [⟨some 27, .mv (.tmp 12), none, []⟩,
      ⟨some 28, .bin .neq (.tmp 27) (.const (.int .i64 0)), none, []⟩] [27])
   (.cond (.tmp 28)
     (.seq
      (.region false [⟨some 29, .loadN 2 (.tmp 10), none, []⟩,
        ⟨some 30, .mv (.tmp 12), none, []⟩,
        ⟨none, .store 2 (.tmp 10) (.tmp 29), none, []⟩,
        ⟨some 11, .mv (.const (.slice none 0 0)), none, []⟩,
        ⟨some 12, .mv (.tmp 30), none, []⟩] [29, 30])
     .ret)
     .skip))
  (.seq
   (.region false [⟨some 32, .mv (.tmp 13), none, []⟩,
     ⟨some 33, .mv (.tmp 3), none, []⟩,
     ⟨some 34, .call (.func 83) [(.tmp 32), (.tmp 33)], none, []⟩,
     ⟨some 31, .mv (.tmp 34), none, []⟩,
     ⟨some 35, .ext (.tmp 31) 0, none, []⟩,
     ⟨some 36, .ext (.tmp 31) 1, none, []⟩,
     ⟨some 14, .mv (.tmp 35), none, []⟩,
     ⟨some 15, .mv (.tmp 36), none, []⟩] [32, 33, 34, 31, 35, 36, 15])
  (.seq
   (.seq
    (.region false [⟨some 37, .mv (.tmp 14), none, []⟩,
      ⟨some 38, .len_ (.tmp 37), none, []⟩,
      ⟨some 39, .mv (.const (.int .i64 0)), none, []⟩] [])
   (.block 0
     (.loop
       (.seq
        (.region false [⟨some 40, .bin .lss (.tmp 39) (.tmp 38), none, []⟩] [])
       (.seq
        (.cond (.tmp 40)
          .skip
          (.exit 0))
       (.seq
        (.block 1
          (.seq
           (.region false [⟨some 41, .mv (.tmp 39), none, []⟩,
             ⟨some 42, .iadS 1 (.tmp 37) (.tmp 39), none, []⟩,
             ⟨some 43, .load1 (.tmp 42), none, []⟩,
             ⟨some 16, .mv (.tmp 41), none, []⟩,
             ⟨some 17, .mv (.tmp 43), none, []⟩] [41, 42, 43])
          (.seq
           (.region false [⟨some 44, .mv (.tmp 17), none, []⟩,
             ⟨some 45, .mv (.tmp 13), none, []⟩,
             ⟨some 46, .mv (.tmp 16), none, []⟩,
             ⟨some 47, .call (.func 85) [(.tmp 45), (.tmp 46)], none, []⟩,
             ⟨some 48, .mv (.tmp 4), none, []⟩,
             ⟨some 49, .call (.func 84) [(.tmp 44), (.tmp 47), (.tmp 48)], none, []⟩,
             ⟨some 18, .mv (.tmp 49), none, []⟩] [44, 45, 46, 47, 48, 49])
          (.seq
           (.region false [⟨some 50, .mv (.tmp 16), none, []⟩,
             ⟨some 51, .bin .lss (.tmp 50) (.const (.int .i64 2)), none, []⟩] [50])
          (.cond (.tmp 51)
            (.region false [⟨some 52, .mv (.tmp 16), none, []⟩,
              ⟨some 53, .mv (.tmp 18), none, []⟩,
              ⟨some 54, .iadA 2 1 (.tmp 10) (.tmp 52), none, []⟩,
              ⟨none, .store 1 (.tmp 54) (.tmp 53), none, []⟩] [52, 53, 54])
            (.region false [⟨some 55, .mv (.tmp 11), none, []⟩,
              ⟨some 56, .mv (.tmp 18), none, []⟩,
              ⟨some 57, .buildSl 1 1 [(.val (.int .i64 0))] [(0, 1, (.tmp 56))], none, []⟩,
              ⟨some 58, .app 1 8 (.tmp 55) (.tmp 57), none, []⟩,
              ⟨some 11, .mv (.tmp 58), none, []⟩] [55, 56, 57, 58]))))))
       (.region false [⟨some 59, .bin .add (.tmp 39) (.const (.int .i64 1)), none, []⟩,
         ⟨some 39, .mv (.tmp 59), none, []⟩] [59])))))))
  (.seq
   (.region false [⟨some 60, .loadN 2 (.tmp 10), none, []⟩,
     ⟨some 61, .mv (.tmp 11), none, []⟩,
     ⟨none, .store 2 (.tmp 10) (.tmp 60), none, []⟩,
     ⟨some 11, .mv (.tmp 61), none, []⟩,
     ⟨some 12, .mv (.const (.int .i64 0)), none, []⟩] [60, 61])
  .ret))))))
set_option maxRecDepth 100000 in
theorem ksling_Witness : IsCode Try.prog 38 62 csling_Witness [.cellN 10 2, .tmp 11, .tmp 12] :=
  ⟨Try.f38, _, [51, 40, 28, 0, 2, 5, 1, 7, 3, 12, 10, 13, 14, 39, 38, 37, 17, 16, 4, 18, 11], Try.func38, rfl, by decide, rfl, by kernel_rfl, by kernel_rfl⟩
/-- ref07_Witness -/
def cref07_Witness : ACode :=
  (.seq
   (.region false [⟨some 5, .box (.tmp 0), none, []⟩,
     ⟨some 7, .box (.tmp 2), none, []⟩,
     ⟨some 10, .mem [(.val (.int .i64 0)), (.val (.int .i64 0))], none, []⟩,
     ⟨some 11, .mv (.const (.slice none 0 0)), none, []⟩,
     ⟨some 12, .mv (.const (.int .i64 0)), none, []⟩] [])
  (.seq
   (.seq
    (.region false [⟨some 16, .loadN 3 (.tmp 5), none, []⟩,
      ⟨some 17, .mv (.tmp 1), none, []⟩,
      ⟨some 18, .loadN 2 (.tmp 7), none, []⟩,
      ⟨some 19, .mv (.tmp 3), none, []⟩,
      ⟨some 20, .call (.func 41) [(.tmp 16), (.tmp 17), (.tmp 18), (.tmp 19)], none, []⟩,
      ⟨some 13, .mv (.tmp 20), none, []⟩] [16, 17, 18, 19, 20])
   (.seq
    (.region false [⟨some 21, .mv (.tmp 13), none, []⟩,
      ⟨some 22, .bin .neq (.tmp 21) (.const (.int .i64 0)), none, []⟩] [21])
   (.cond (.tmp 22)
     (.seq
      (.region false [⟨some 23, .build [(.val (.int .i64 0)), (.val (.int .i64 0))] [], none, []⟩,
        ⟨some 24, .mv (.tmp 13), none, []⟩,
        ⟨none, .store 2 (.tmp 10) (.tmp 23), none, []⟩,
        ⟨some 11, .mv (.const (.slice none 0 0)), none, []⟩,
        ⟨some 12, .mv (.tmp 24), none, []⟩] [23, 24])
     .ret)
     .skip)))
  (.seq
   (.region false [⟨some 26, .loadN 3 (.tmp 5), none, []⟩,
     ⟨some 27, .mv (.tmp 1), none, []⟩,
     ⟨some 28, .loadN 2 (.tmp 7), none, []⟩,
     ⟨some 29, .mv (.tmp 3), none, []⟩,
     ⟨some 30, .mv (.tmp 4), none, []⟩,
     ⟨some 31, .call (.func 82) [(.tmp 26), (.tmp 27), (.tmp 28), (.tmp 29), (.tmp 30)], none, []⟩,
     ⟨some 25, .mv (.tmp 31), none, []⟩,
     ⟨some 32, .ext (.tmp 25) 0, none, []⟩,
     ⟨some 33, .ext (.tmp 25) 1, none, []⟩,
     ⟨some 14, .mv (.tmp 32), none, []⟩,
     ⟨some 15, .mv (.tmp 33), none, []⟩] [26, 27, 28, 29, 30, 31, 25, 32, 33, 15])
  (.seq
   (.region true [⟨some 34, .mv (.tmp 14), none, []⟩,
     ⟨some 35, .iadS 1 (.tmp 34) (.const (.int .i64 0)), none, [0]⟩,
     ⟨some 36, .load1 (.tmp 35), none, [1, 0]⟩,
     ⟨some 37, .mv (.tmp 14), none, []⟩,
     ⟨some 38, .iadS 1 (.tmp 37) (.const (.int .i64 1)), none, [3]⟩,
     ⟨some 39, .load1 (.tmp 38), none, [4, 3]⟩,
     ⟨some 40, .build [(.val (.int .i64 0)), (.val (.int .i64 0))] [(0, 1, (.tmp 36)), (1, 1, (.tmp 39))], none, [2, 1, 0, 5, 4, 3]⟩,
     ⟨some 41, .mv (.tmp 14), none, []⟩,
     ⟨some 42, .slS 1 (.tmp 41) (some (.const (.int .i64 2))) none, none, [7]⟩,
     ⟨none, .store 2 (.tmp 10) (.tmp 40), none, [6, 2, 1, 0, 5, 4, 3]⟩,
     ⟨some 11, .mv (.tmp 42), none, [8, 7, 9, 6, 2, 1, 0, 5, 4, 3]⟩,
     ⟨some 12, .mv (.const (.int .i64 0)), none, [10, 8, 7, 9, 6, 2, 1, 0, 5, 4, 3]⟩] [34, 35, 36, 37, 38, 39, 40, 41, 42])
  .ret))))
set_option maxRecDepth 100000 in
theorem kref07_Witness : IsCode Try.prog 39 43 cref07_Witness [.cellN 10 2, .tmp 11, .tmp 12] :=
  ⟨Try.f39, _, [22, 0, 2, 5, 1, 7, 3, 13, 10, 4, 14, 11, 12], Try.func39, rfl, by decide, rfl, by kernel_rfl, by kernel_rfl⟩
/-- sling_Keeps -/
def csling_Keeps : ACode :=
  (.seq
   (.region false [⟨some 5, .box (.tmp 0), none, []⟩,
     ⟨some 7, .box (.tmp 2), none, []⟩,
     ⟨some 9, .box (.tmp 4), none, []⟩,
     ⟨some 10, .mv (.const (.int .i64 0)), none, []⟩,
     ⟨some 11, .mv (.const (.bool false)), none, []⟩,
     ⟨some 12, .mv (.const (.int .i64 0)), none, []⟩] [])
  (.seq
   (.region false [⟨some 16, .loadN 3 (.tmp 5), none, []⟩,
     ⟨some 17, .mv (.tmp 1), none, []⟩,
     ⟨some 18, .loadN 2 (.tmp 7), none, []⟩,
     ⟨some 19, .mv (.tmp 3), none, []⟩,
     ⟨some 20, .loadN 2 (.tmp 9), none, []⟩,
     ⟨some 21, .buildSl 2 1 [(.val (.int .i64 0)), (.val (.int .i64 0))] [(0, 2, (.tmp 20))], none, []⟩,
     ⟨some 22, .call (.func 79) [(.tmp 16), (.tmp 17), (.tmp 18), (.tmp 19), (.tmp 21)], none, []⟩,
     ⟨some 15, .mv (.tmp 22), none, []⟩,
     ⟨some 23, .ext (.tmp 15) 0, none, []⟩,
     ⟨some 24, .ext (.tmp 15) 1, none, []⟩,
     ⟨some 13, .mv (.tmp 23), none, []⟩,
     ⟨some 12, .mv (.tmp 24), none, []⟩] [16, 17, 18, 19, 20, 21, 22, 15, 23, 24])
  (.seq
   (.seq
    (.region false [⟨some 25, .mv (.tmp 12), none, []⟩,
      ⟨some 26, .bin .neq (.tmp 25) (.const (.int .i64 0)), none, []⟩] [25])
   (.cond (.tmp 26)
     (.seq
      (.region false [⟨some 27, .mv (.tmp 12), none, []⟩,
        ⟨some 10, .mv (.const (.int .i64 0)), none, []⟩,
        ⟨some 11, .mv (.const (.bool false)), none, []⟩,
        ⟨some 12, .mv (.tmp 27), none, []⟩] [27])
     .ret)
     .skip))
  (.seq
   (.region false [⟨some 29, .mv (.tmp 13), none, []⟩,
     ⟨some 30, .mv (.tmp 3), none, []⟩,
     ⟨some 31, .loadN 2 (.tmp 9), none, []⟩,
     ⟨some 32, .call (.func 90) [(.tmp 29), (.tmp 30), (.tmp 31)], none, []⟩,
     ⟨some 28, .mv (.tmp 32), none, []⟩,
     ⟨some 33, .ext (.tmp 28) 0, none, []⟩,
     ⟨some 34, .ext (.tmp 28) 1, none, []⟩,
     ⟨some 10, .mv (.tmp 33), none, []⟩,
     ⟨some 14, .mv (.tmp 34), none, []⟩] [29, 30, 31, 32, 28, 33, 34])
  (.seq
   (.region false [⟨some 35, .mv (.tmp 10), none, []⟩,
     ⟨some 36, .mv (.tmp 14), none, []⟩,
     ⟨some 37, .un .not (.tmp 36), none, []⟩,
     ⟨some 10, .mv (.tmp 35), none, []⟩,
     ⟨some 11, .mv (.tmp 37), none, []⟩,
     ⟨some 12, .mv (.const (.int .i64 0)), none, []⟩] [35, 36, 37])
  .ret)))))
set_option maxRecDepth 100000 in
theorem ksling_Keeps : IsCode Try.prog 45 38 csling_Keeps [.tmp 10, .tmp 11, .tmp 12] :=
  ⟨Try.f45, _, [26, 0, 2, 4, 5, 1, 7, 3, 9, 12, 13, 10, 14, 11], Try.func45, rfl, by decide, rfl, by kernel_rfl, by kernel_rfl⟩
/-- ref07_Keeps -/
def cref07_Keeps : ACode :=
  (.seq
   (.region false [⟨some 5, .box (.tmp 0), none, []⟩,
     ⟨some 7, .box (.tmp 2), none, []⟩,
     ⟨some 9, .box (.tmp 4), none, []⟩,
     ⟨some 10, .mv (.const (.int .i64 0)), none, []⟩,
     ⟨some 11, .mv (.const (.bool false)), none, []⟩,
     ⟨some 12, .mv (.const (.int .i64 0)), none, []⟩] [])
  (.seq
   (.seq
    (.region false [⟨some 16, .loadN 3 (.tmp 5), none, []⟩,
      ⟨some 17, .call (.func 17) [(.tmp 16)], none, []⟩,
      ⟨some 13, .mv (.tmp 17), none, []⟩] [16, 17])
   (.seq
    (.region false [⟨some 18, .mv (.tmp 13), none, []⟩,
      ⟨some 19, .bin .neq (.tmp 18) (.const (.int .i64 0)), none, []⟩] [18])
   (.cond (.tmp 19)
     (.seq
      (.region false [⟨some 20, .mv (.tmp 13), none, []⟩,
        ⟨some 10, .mv (.const (.int .i64 0)), none, []⟩,
        ⟨some 11, .mv (.const (.bool false)), none, []⟩,
        ⟨some 12, .mv (.tmp 20), none, []⟩] [20])
     .ret)
     .skip)))
  (.seq
   (.seq
    (.region false [⟨some 21, .mv (.tmp 1), none, []⟩,
      ⟨some 22, .call (.func 86) [(.tmp 21)], none, []⟩,
      ⟨some 23, .bin .neq (.tmp 22) (.const (.int .i64 0)), none, []⟩,
      ⟨some 24, .mv (.tmp 23), none, []⟩,
      ⟨some 25, .loadN 2 (.tmp 7), (some (some 24, false)), []⟩,
      ⟨some 26, .call (.func 61) [(.tmp 25)], (some (some 24, false)), []⟩,
      ⟨some 27, .un .not (.tmp 26), (some (some 24, false)), []⟩,
      ⟨some 28, .pick (.tmp 24) (.const (.bool true)) (.tmp 27), none, []⟩,
      ⟨some 29, .mv (.tmp 28), none, []⟩,
      ⟨some 30, .loadN 2 (.tmp 9), (some (some 29, false)), []⟩,
      ⟨some 31, .call (.func 61) [(.tmp 30)], (some (some 29, false)), []⟩,
      ⟨some 32, .un .not (.tmp 31), (some (some 29, false)), []⟩,
      ⟨some 33, .pick (.tmp 29) (.const (.bool true)) (.tmp 32), none, []⟩] [21, 22, 23, 24, 25, 26, 27, 28, 29, 30, 31, 32])
   (.cond (.tmp 33)
     (.seq
      (.region false [⟨some 10, .mv (.const (.int .i64 0)), none, []⟩,
        ⟨some 11, .mv (.const (.bool false)), none, []⟩,
        ⟨some 12, .mv (.const (.int .i64 10)), none, []⟩] [])
     .ret)
     .skip))
  (.seq
   (.seq
    (.region false [⟨some 34, .mv (.tmp 1), none, []⟩,
      ⟨some 35, .loadN 2 (.tmp 7), none, []⟩,
      ⟨some 36, .mv (.tmp 3), none, []⟩,
      ⟨some 37, .call (.func 87) [(.tmp 34), (.tmp 35), (.tmp 36)], none, []⟩,
      ⟨some 14, .mv (.tmp 37), none, []⟩] [34, 35, 36, 37])
   (.seq
    (.region false [⟨some 38, .mv (.tmp 14), none, []⟩,
      ⟨some 39, .bin .neq (.tmp 38) (.const (.int .i64 0)), none, []⟩] [38])
   (.cond (.tmp 39)
     (.seq
      (.region false [⟨some 40, .mv (.tmp 14), none, []⟩,
        ⟨some 10, .mv (.const (.int .i64 0)), none, []⟩,
        ⟨some 11, .mv (.const (.bool false)), none, []⟩,
        ⟨some 12, .mv (.tmp 40), none, []⟩] [40])
     .ret)
     .skip)))
  (.seq
   (.region false [⟨some 41, .loadN 3 (.tmp 5), none, []⟩,
     ⟨some 42, .mv (.tmp 1), none, []⟩,
     ⟨some 43, .loadN 2 (.tmp 7), none, []⟩,
     ⟨some 44, .mv (.tmp 3), none, []⟩,
     ⟨some 45, .loadN 2 (.tmp 9), none, []⟩,
     ⟨some 46, .call (.func 91) [(.tmp 41), (.tmp 42), (.tmp 43), (.tmp 44), (.tmp 45)], none, []⟩,
     ⟨some 15, .mv (.tmp 46), none, []⟩] [41, 42, 43, 44, 45, 46])
  (.seq
   (.region false [⟨some 47, .mv (.tmp 15), none, []⟩,
     ⟨some 48, .mnx true [(.tmp 47), (.const (.int .i64 0))], none, []⟩,
     ⟨some 49, .mv (.tmp 15), none, []⟩,
     ⟨some 50, .bin .lss (.tmp 49) (.const (.int .i64 0)), none, []⟩,
     ⟨some 10, .mv (.tmp 48), none, []⟩,
     ⟨some 11, .mv (.tmp 50), none, []⟩,
     ⟨some 12, .mv (.const (.int .i64 0)), none, []⟩] [47, 48, 49, 50])
  .ret))))))
set_option maxRecDepth 100000 in
theorem kref07_Keeps : IsCode Try.prog 46 51 cref07_Keeps [.tmp 10, .tmp 11, .tmp 12] :=
  ⟨Try.f46, _, [39, 33, 19, 0, 2, 4, 5, 13, 1, 7, 9, 3, 14, 15, 10, 11, 12], Try.func46, rfl, by decide, rfl, by kernel_rfl, by kernel_rfl⟩
/-- sling_Gust -/
def csling_Gust : ACode :=
  (.seq
   (.region false [⟨some 4, .box (.tmp 0), none, []⟩,
     ⟨some 7, .box (.tmp 3), none, []⟩,
     ⟨some 8, .mv (.const (.int .i64 0)), none, []⟩,
     ⟨some 9, .mv (.const (.int .i64 0)), none, []⟩] [])
  (.seq
   (.region false [⟨some 16, .loadN 3 (.tmp 4), none, []⟩,
     ⟨some 17, .mv (.tmp 1), none, []⟩,
     ⟨some 18, .build [(.val (.int .i64 0)), (.val (.int .i64 0))] [], none, []⟩,
     ⟨some 19, .mv (.tmp 2), none, []⟩,
     ⟨some 20, .loadN 2 (.tmp 7), none, []⟩,
     ⟨some 21, .buildSl 2 1 [(.val (.int .i64 0)), (.val (.int .i64 0))] [(0, 2, (.tmp 20))], none, []⟩,
     ⟨some 22, .call (.func 79) [(.tmp 16), (.tmp 17), (.tmp 18), (.tmp 19), (.tmp 21)], none, []⟩,
     ⟨some 15, .mv (.tmp 22), none, []⟩,
     ⟨some 23, .ext (.tmp 15) 0, none, []⟩,
     ⟨some 24, .ext (.tmp 15) 1, none, []⟩,
     ⟨some 10, .mv (.tmp 23), none, []⟩,
     ⟨some 11, .mv (.tmp 24), none, []⟩] [16, 17, 18, 19, 20, 21, 22, 15, 23, 24])
  (.seq
   (.seq
    (.region false [⟨some 25, .mv (.tmp 11), none, []⟩,
      ⟨some 26, .bin .neq (.tmp 25) (.const (.int .i64 0)), none, []⟩] [25])
   (.cond (.tmp 26)
     (.seq
      (.region false [⟨some 27, .mv (.tmp 11), none, []⟩,
        ⟨some 8, .mv (.const (.int .i64 0)), none, []⟩,
        ⟨some 9, .mv (.tmp 27), none, []⟩] [27])
     .ret)
     .skip))
  (.seq
   (.seq
    (.region false [⟨some 12, .mv (.const (.int .i64 100)), none, []⟩] [])
   (.block 0
     (.loop
       (.seq
        (.seq
         (.region false [⟨some 28, .mv (.tmp 12), none, []⟩,
           ⟨some 29, .bin .geq (.tmp 28) (.const (.int .i64 0)), none, []⟩] [28])
        (.cond (.tmp 29)
          .skip
          (.exit 0)))
       (.seq
        (.block 1
          (.seq
           (.region false [⟨some 32, .mv (.tmp 10), none, []⟩,
             ⟨some 33, .mv (.tmp 12), none, []⟩,
             ⟨some 34, .un .neg (.tmp 33), none, []⟩,
             ⟨some 35, .mv (.tmp 12), none, []⟩,
             ⟨some 36, .build [(.val (.int .i64 0)), (.val (.int .i64 0))] [(0, 1, (.tmp 34)), (1, 1, (.tmp 35))], none, []⟩,
             ⟨some 37, .nilc (.tmp 32), none, []⟩,
             ⟨some 38, .fad 4 (.tmp 37), none, []⟩,
             ⟨none, .store 2 (.tmp 38) (.tmp 36), none, []⟩] [32, 33, 34, 35, 36, 37, 38])
          (.seq
           (.region false [⟨some 40, .mv (.tmp 10), none, []⟩,
             ⟨some 41, .mv (.tmp 2), none, []⟩,
             ⟨some 42, .loadN 2 (.tmp 7), none, []⟩,
             ⟨some 43, .call (.func 90) [(.tmp 40), (.tmp 41), (.tmp 42)], none, []⟩,
             ⟨some 39, .mv (.tmp 43), none, []⟩,
             ⟨some 44, .ext (.tmp 39) 0, none, []⟩,
             ⟨some 45, .ext (.tmp 39) 1, none, []⟩,
             ⟨some 13, .mv (.tmp 44), none, []⟩,
             ⟨some 14, .mv (.tmp 45), none, []⟩] [40, 41, 42, 43, 39, 44, 45, 13])
          (.seq
           (.region false [⟨some 46, .mv (.tmp 14), none, []⟩,
             ⟨some 47, .un .not (.tmp 46), none, []⟩] [46])
          (.cond (.tmp 47)
            (.seq
             (.region false [⟨some 48, .mv (.tmp 12), none, []⟩,
               ⟨some 8, .mv (.tmp 48), none, []⟩,
               ⟨some 9, .mv (.const (.int .i64 0)), none, []⟩] [48])
            .ret)
            .skip)))))
       (.region false [⟨some 30, .mv (.tmp 12), none, []⟩,
         ⟨some 31, .bin .sub (.tmp 30) (.const (.int .i64 1)), none, []⟩,
         ⟨some 12, .mv (.tmp 31), none, []⟩] [30, 31]))))))
  (.seq
   (.region false [⟨some 8, .mv (.const (.int .i64 0)), none, []⟩,
     ⟨some 9, .mv (.const (.int .i64 3)), none, []⟩] [])
  .ret)))))
set_option maxRecDepth 100000 in
theorem ksling_Gust : IsCode Try.prog 47 49 csling_Gust [.tmp 8, .tmp 9] :=
  ⟨Try.f47, _, [47, 29, 26, 0, 3, 4, 1, 2, 7, 11, 12, 10, 14, 8, 9], Try.func47, rfl, by decide, rfl, by kernel_rfl, by kernel_rfl⟩
/-- ref07_Gust -/
def cref07_Gust : ACode :=
  (.seq
   (.region false [⟨some 4, .box (.tmp 0), none, []⟩,
     ⟨some 7, .box (.tmp 3), none, []⟩,
     ⟨some 8, .mv (.const (.int .i64 0)), none, []⟩,
     ⟨some 9, .mv (.const (.int .i64 0)), none, []⟩] [])
  (.seq
   (.seq
    (.region false [⟨some 15, .loadN 3 (.tmp 4), none, []⟩,
      ⟨some 16, .mv (.tmp 1), none, []⟩,
      ⟨some 17, .build [(.val (.int .i64 0)), (.val (.int .i64 0))] [], none, []⟩,
      ⟨some 18, .mv (.tmp 2), none, []⟩,
      ⟨some 19, .loadN 2 (.tmp 7), none, []⟩,
      ⟨some 20, .call (.func 46) [(.tmp 15), (.tmp 16), (.tmp 17), (.tmp 18), (.tmp 19)], none, []⟩,
      ⟨some 14, .mv (.tmp 20), none, []⟩,
      ⟨some 21, .ext (.tmp 14) 0, none, []⟩,
      ⟨some 22, .ext (.tmp 14) 1, none, []⟩,
      ⟨some 23, .ext (.tmp 14) 2, none, []⟩,
      ⟨some 10, .mv (.tmp 21), none, []⟩,
      ⟨some 11, .mv (.tmp 22), none, []⟩,
      ⟨some 12, .mv (.tmp 23), none, []⟩] [15, 16, 17, 18, 19, 20, 14, 21, 22, 23, 10, 11])
   (.seq
    (.region false [⟨some 24, .mv (.tmp 12), none, []⟩,
      ⟨some 25, .bin .neq (.tmp 24) (.const (.int .i64 0)), none, []⟩] [24])
   (.cond (.tmp 25)
     (.seq
      (.region false [⟨some 26, .mv (.tmp 12), none, []⟩,
        ⟨some 8, .mv (.const (.int .i64 0)), none, []⟩,
        ⟨some 9, .mv (.tmp 26), none, []⟩] [26])
     .ret)
     .skip)))
  (.seq
   (.seq
    (.region false [⟨some 13, .mv (.const (.int .i64 100)), none, []⟩] [])
   (.block 0
     (.loop
       (.seq
        (.seq
         (.region false [⟨some 27, .mv (.tmp 13), none, []⟩,
           ⟨some 28, .bin .geq (.tmp 27) (.const (.int .i64 0)), none, []⟩] [27])
        (.cond (.tmp 28)
          .skip
          (.exit 0)))
       (.seq
        (.block 1
          (.seq
           (.region false [⟨some 31, .loadN 3 (.tmp 4), none, []⟩,
             ⟨some 32, .mv (.tmp 1), none, []⟩,
             ⟨some 33, .mv (.tmp 13), none, []⟩,
             ⟨some 34, .un .neg (.tmp 33), none, []⟩,
             ⟨some 35, .mv (.tmp 13), none, []⟩,
             ⟨some 36, .build [(.val (.int .i64 0)), (.val (.int .i64 0))] [(0, 1, (.tmp 34)), (1, 1, (.tmp 35))], none, []⟩,
             ⟨some 37, .mv (.tmp 2), none, []⟩,
             ⟨some 38, .loadN 2 (.tmp 7), none, []⟩,
             ⟨some 39, .call (.func 91) [(.tmp 31), (.tmp 32), (.tmp 36), (.tmp 37), (.tmp 38)], none, []⟩,
             ⟨some 40, .bin .lss (.tmp 39) (.const (.int .i64 0)), none, []⟩] [31, 32, 33, 34, 35, 36, 37, 38, 39])
          (.cond (.tmp 40)
            (.seq
             (.region false [⟨some 41, .mv (.tmp 13), none, []⟩,
               ⟨some 8, .mv (.tmp 41), none, []⟩,
               ⟨some 9, .mv (.const (.int .i64 0)), none, []⟩] [41])
            .ret)
            .skip)))
       (.region false [⟨some 29, .mv (.tmp 13), none, []⟩,
         ⟨some 30, .bin .sub (.tmp 29) (.const (.int .i64 1)), none, []⟩,
         ⟨some 13, .mv (.tmp 30), none, []⟩] [29, 30]))))))
  (.seq
   (.region false [⟨some 8, .mv (.const (.int .i64 0)), none, []⟩,
     ⟨some 9, .mv (.const (.int .i64 3)), none, []⟩] [])
  .ret))))
set_option maxRecDepth 100000 in
theorem kref07_Gust : IsCode Try.prog 48 42 cref07_Gust [.tmp 8, .tmp 9] :=
  ⟨Try.f48, _, [40, 28, 25, 0, 3, 4, 1, 2, 7, 12, 13, 8, 9], Try.func48, rfl, by decide, rfl, by kernel_rfl, by kernel_rfl⟩
end Go.Proofs.Ythohcimmoobaoaa
