/- Texts of the laws, own part of RecordPacks. No conditions. -/
import Derived.Test.YtdcodicoclecnaaPRecA12
import Derived.Test.YtdcodicoclecnaaRows
/- The functions' bodies, translated. Written by a program; no conditions. -/
namespace Go.Proofs.Ytdcodicoclecnaa
open Go.RowKit Lift

/-- record_Pack -/
def crecord_Pack : ACode :=
  (.seq
   (.region false [⟨some 3, .box (.tmp 0), none, []⟩,
     ⟨some 6, .mv (.const (.slice none 0 0)), none, []⟩,
     ⟨some 7, .mv (.const (.int .i64 0)), none, []⟩] [])
  (.seq
   (.seq
    (.region false [⟨some 13, .loadN 6 (.tmp 3), none, []⟩,
      ⟨some 14, .call (.func 27) [(.tmp 13)], none, []⟩,
      ⟨some 8, .mv (.tmp 14), none, []⟩] [13, 14])
   (.seq
    (.region false [⟨some 15, .mv (.tmp 8), none, []⟩,
      ⟨some 16, .bin .neq (.tmp 15) (.const (.int .i64 0)), none, []⟩] [15])
   (.cond (.tmp 16)
     (.seq
      (.region false [⟨some 17, .mv (.tmp 8), none, []⟩,
        ⟨some 6, .mv (.const (.slice none 0 0)), none, []⟩,
        ⟨some 7, .mv (.tmp 17), none, []⟩] [17])
     .ret)
     .skip)))
  (.seq
   (.seq
    (.region false [⟨some 18, .mv (.tmp 1), none, []⟩,
      ⟨some 19, .call (.func 74) [(.tmp 18), (.const (.int .i64 0)), (.const (.int .i64 3))], none, []⟩,
      ⟨some 20, .un .not (.tmp 19), none, []⟩,
      ⟨some 21, .mv (.tmp 20), none, []⟩,
      ⟨some 22, .mv (.tmp 2), (some (some 21, false)), []⟩,
      ⟨some 23, .len_ (.tmp 22), (some (some 21, false)), []⟩,
      ⟨some 24, .fad 5 (.tmp 3), (some (some 21, false)), []⟩,
      ⟨some 25, .load1 (.tmp 24), (some (some 21, false)), []⟩,
      ⟨some 26, .len_ (.tmp 25), (some (some 21, false)), []⟩,
      ⟨some 27, .bin .neq (.tmp 23) (.tmp 26), (some (some 21, false)), []⟩,
      ⟨some 28, .pick (.tmp 21) (.const (.bool true)) (.tmp 27), none, []⟩] [18, 19, 20, 21, 22, 23, 24, 25, 26, 27])
   (.cond (.tmp 28)
     (.seq
      (.region false [⟨some 6, .mv (.const (.slice none 0 0)), none, []⟩,
        ⟨some 7, .mv (.const (.int .i64 1)), none, []⟩] [])
     .ret)
     .skip))
  (.seq
   (.region false [⟨some 29, .fad 0 (.tmp 3), none, []⟩,
     ⟨some 30, .load1 (.tmp 29), none, []⟩,
     ⟨some 31, .mksl 1 8 [(.val (.int .i64 0))] (.tmp 30) (.tmp 30), none, []⟩,
     ⟨some 9, .mv (.tmp 31), none, []⟩] [29, 30, 31])
  (.seq
   (.region false [⟨some 32, .mv (.tmp 9), none, []⟩,
     ⟨some 33, .mv (.tmp 1), none, []⟩,
     ⟨some 34, .fad 1 (.tmp 3), none, []⟩,
     ⟨some 35, .iadA 4 1 (.tmp 34) (.tmp 33), none, []⟩,
     ⟨some 36, .load1 (.tmp 35), none, []⟩,
     ⟨some 37, .iadS 1 (.tmp 32) (.const (.int .i64 0)), none, []⟩,
     ⟨none, .store 1 (.tmp 37) (.tmp 36), none, []⟩] [32, 33, 34, 35, 36, 37])
  (.seq
   (.seq
    (.region false [⟨some 38, .mv (.tmp 2), none, []⟩,
      ⟨some 39, .len_ (.tmp 38), none, []⟩,
      ⟨some 40, .mv (.const (.int .i64 0)), none, []⟩] [])
   (.block 0
     (.loop
       (.seq
        (.region false [⟨some 41, .bin .lss (.tmp 40) (.tmp 39), none, []⟩] [])
       (.seq
        (.cond (.tmp 41)
          .skip
          (.exit 0))
       (.seq
        (.block 1
          (.seq
           (.region false [⟨some 42, .mv (.tmp 40), none, []⟩,
             ⟨some 43, .iadS 1 (.tmp 38) (.tmp 40), none, []⟩,
             ⟨some 44, .load1 (.tmp 43), none, []⟩,
             ⟨some 10, .mv (.tmp 42), none, []⟩,
             ⟨some 11, .mv (.tmp 44), none, []⟩] [42, 43, 44])
          (.seq
           (.region false [⟨some 45, .fad 5 (.tmp 3), none, []⟩,
             ⟨some 46, .load1 (.tmp 45), none, []⟩,
             ⟨some 47, .mv (.tmp 10), none, []⟩,
             ⟨some 48, .iadS 9 (.tmp 46) (.tmp 47), none, []⟩,
             ⟨some 49, .loadN 9 (.tmp 48), none, []⟩,
             ⟨some 50, .build [(.val (.int .i64 0)), (.val (.int .i64 0)), (.val (.int .i64 0)), (.val (.bool false)), (.val (.int .i64 0)), (.val (.int .i64 0)), (.val (.int .i64 0)), (.val (.int .i64 0)), (.val (.int .i64 0))] [(0, 9, (.tmp 49))], none, []⟩,
             ⟨some 12, .mem [(.val (.int .i64 0)), (.val (.int .i64 0)), (.val (.int .i64 0)), (.val (.bool false)), (.val (.int .i64 0)), (.val (.int .i64 0)), (.val (.int .i64 0)), (.val (.int .i64 0)), (.val (.int .i64 0))], none, []⟩,
             ⟨none, .store 9 (.tmp 12) (.tmp 50), none, []⟩] [45, 46, 47, 48, 49, 50])
          (.block 2
            (.seq
             (.region false [⟨some 68, .loadN 9 (.tmp 12), none, []⟩,
               ⟨some 69, .mv (.tmp 1), none, []⟩,
               ⟨some 70, .call (.func 77) [(.tmp 68), (.tmp 69)], none, []⟩,
               ⟨some 71, .un .not (.tmp 70), none, []⟩,
               ⟨some 67, .mv (.tmp 71), none, []⟩] [68, 69, 70, 71])
            (.cond (.tmp 67)
              (.seq
               (.region false [⟨some 72, .mv (.tmp 11), none, []⟩,
                 ⟨some 73, .bin .neq (.tmp 72) (.const (.int .i64 0)), none, []⟩] [72])
              (.cond (.tmp 73)
                (.seq
                 (.region false [⟨some 6, .mv (.const (.slice none 0 0)), none, []⟩,
                   ⟨some 7, .mv (.const (.int .i64 1)), none, []⟩] [])
                .ret)
                .skip))
              (.seq
               (.region false [⟨some 75, .loadN 9 (.tmp 12), none, []⟩,
                 ⟨some 76, .mv (.tmp 11), none, []⟩,
                 ⟨some 77, .call (.func 81) [(.tmp 75), (.tmp 76)], none, []⟩,
                 ⟨some 78, .un .not (.tmp 77), none, []⟩,
                 ⟨some 74, .mv (.tmp 78), none, []⟩] [75, 76, 77, 78])
              (.cond (.tmp 74)
                (.seq
                 (.region false [⟨some 6, .mv (.const (.slice none 0 0)), none, []⟩,
                   ⟨some 7, .mv (.const (.int .i64 1)), none, []⟩] [])
                .ret)
                (.region true [⟨some 51, .mv (.tmp 9), none, []⟩,
                  ⟨some 52, .fad 0 (.tmp 12), none, []⟩,
                  ⟨some 53, .fad 0 (.tmp 52), none, [1]⟩,
                  ⟨some 54, .load1 (.tmp 53), none, [2, 1]⟩,
                  ⟨some 55, .iadS 1 (.tmp 51) (.tmp 54), none, [0, 3, 2, 1]⟩,
                  ⟨some 56, .load1 (.tmp 55), none, [4, 0, 3, 2, 1]⟩,
                  ⟨some 57, .mv (.tmp 11), none, []⟩,
                  ⟨some 58, .fad 0 (.tmp 12), none, []⟩,
                  ⟨some 59, .fad 1 (.tmp 58), none, [7]⟩,
                  ⟨some 60, .load1 (.tmp 59), none, [8, 7]⟩,
                  ⟨some 61, .bin .shl (.tmp 57) (.tmp 60), none, [6, 9, 8, 7]⟩,
                  ⟨some 62, .loadN 9 (.tmp 12), none, []⟩,
                  ⟨some 63, .call (.func 78) [(.tmp 62)], none, [11]⟩,
                  ⟨some 64, .bin .and (.tmp 61) (.tmp 63), none, [10, 6, 9, 8, 7, 12, 11]⟩,
                  ⟨some 65, .bin .or (.tmp 56) (.tmp 64), none, [5, 4, 0, 3, 2, 1, 13, 10, 6, 9, 8, 7, 12, 11]⟩,
                  ⟨some 66, .iadS 1 (.tmp 51) (.tmp 54), none, [0, 3, 2, 1, 4, 5, 6, 7, 8, 9, 10, 11, 12, 13, 14]⟩,
                  ⟨none, .store 1 (.tmp 66) (.tmp 65), none, [15, 0, 3, 2, 1, 4, 5, 6, 7, 8, 9, 10, 11, 12, 13, 14]⟩] [51, 52, 53, 54, 55, 56, 57, 58, 59, 60, 61, 62, 63, 64, 65, 66])))))))))
       (.region false [⟨some 79, .bin .add (.tmp 40) (.const (.int .i64 1)), none, []⟩,
         ⟨some 40, .mv (.tmp 79), none, []⟩] [79])))))))
  (.seq
   (.region false [⟨some 80, .mv (.tmp 9), none, []⟩,
     ⟨some 6, .mv (.tmp 80), none, []⟩,
     ⟨some 7, .mv (.const (.int .i64 0)), none, []⟩] [80])
  .ret)))))))
set_option maxRecDepth 100000 in
theorem krecord_Pack : IsCode Try.prog 30 81 crecord_Pack [.tmp 6, .tmp 7] :=
  ⟨Try.f30, _, [74, 73, 67, 41, 28, 16, 0, 3, 8, 1, 2, 9, 40, 39, 38, 10, 12, 11, 6, 7], Try.func30, rfl, by decide, rfl, by kernel_rfl, by kernel_rfl⟩
/-- ref12_Pack -/
def cref12_Pack : ACode :=
  (.seq
   (.region false [⟨some 3, .box (.tmp 0), none, []⟩,
     ⟨some 6, .mv (.const (.slice none 0 0)), none, []⟩,
     ⟨some 7, .mv (.const (.int .i64 0)), none, []⟩] [])
  (.seq
   (.region false [⟨some 15, .loadN 6 (.tmp 3), none, []⟩,
     ⟨some 16, .call (.func 28) [(.tmp 15)], none, []⟩,
     ⟨some 8, .mv (.tmp 16), none, []⟩] [15, 16])
  (.seq
   (.seq
    (.region false [⟨some 17, .mv (.tmp 8), none, []⟩,
      ⟨some 18, .bin .neq (.tmp 17) (.const (.int .i64 0)), none, []⟩] [17])
   (.cond (.tmp 18)
     (.seq
      (.region false [⟨some 19, .mv (.tmp 8), none, []⟩,
        ⟨some 6, .mv (.const (.slice none 0 0)), none, []⟩,
        ⟨some 7, .mv (.tmp 19), none, []⟩] [19])
     .ret)
     .skip))
  (.seq
   (.seq
    (.region false [⟨some 20, .mv (.tmp 1), none, []⟩,
      ⟨some 21, .call (.func 79) [(.tmp 20), (.const (.int .i64 0)), (.const (.int .i64 3))], none, []⟩,
      ⟨some 22, .un .not (.tmp 21), none, []⟩,
      ⟨some 23, .mv (.tmp 22), none, []⟩,
      ⟨some 24, .mv (.tmp 2), (some (some 23, false)), []⟩,
      ⟨some 25, .len_ (.tmp 24), (some (some 23, false)), []⟩,
      ⟨some 26, .fad 5 (.tmp 3), (some (some 23, false)), []⟩,
      ⟨some 27, .load1 (.tmp 26), (some (some 23, false)), []⟩,
      ⟨some 28, .len_ (.tmp 27), (some (some 23, false)), []⟩,
      ⟨some 29, .bin .neq (.tmp 25) (.tmp 28), (some (some 23, false)), []⟩,
      ⟨some 30, .pick (.tmp 23) (.const (.bool true)) (.tmp 29), none, []⟩] [20, 21, 22, 23, 24, 25, 26, 27, 28, 29])
   (.cond (.tmp 30)
     (.seq
      (.region false [⟨some 6, .mv (.const (.slice none 0 0)), none, []⟩,
        ⟨some 7, .mv (.const (.int .i64 1)), none, []⟩] [])
     .ret)
     .skip))
  (.seq
   (.region false [⟨some 31, .fad 0 (.tmp 3), none, []⟩,
     ⟨some 32, .load1 (.tmp 31), none, []⟩,
     ⟨some 33, .mksl 1 8 [(.val (.int .i64 0))] (.tmp 32) (.tmp 32), none, []⟩,
     ⟨some 9, .mv (.tmp 33), none, []⟩] [31, 32, 33])
  (.seq
   (.region false [⟨some 34, .mv (.tmp 9), none, []⟩,
     ⟨some 35, .mv (.tmp 1), none, []⟩,
     ⟨some 36, .fad 1 (.tmp 3), none, []⟩,
     ⟨some 37, .iadA 4 1 (.tmp 36) (.tmp 35), none, []⟩,
     ⟨some 38, .load1 (.tmp 37), none, []⟩,
     ⟨some 39, .iadS 1 (.tmp 34) (.const (.int .i64 0)), none, []⟩,
     ⟨none, .store 1 (.tmp 39) (.tmp 38), none, []⟩] [34, 35, 36, 37, 38, 39])
  (.seq
   (.seq
    (.region false [⟨some 10, .mv (.const (.int .i64 0)), none, []⟩] [])
   (.block 0
     (.loop
       (.seq
        (.seq
         (.region false [⟨some 40, .mv (.tmp 10), none, []⟩,
           ⟨some 41, .mv (.tmp 2), none, []⟩,
           ⟨some 42, .len_ (.tmp 41), none, []⟩,
           ⟨some 43, .bin .lss (.tmp 40) (.tmp 42), none, []⟩] [40, 41, 42])
        (.cond (.tmp 43)
          .skip
          (.exit 0)))
       (.seq
        (.block 1
          (.seq
           (.region false [⟨some 46, .fad 5 (.tmp 3), none, []⟩,
             ⟨some 47, .load1 (.tmp 46), none, []⟩,
             ⟨some 48, .mv (.tmp 10), none, []⟩,
             ⟨some 49, .iadS 9 (.tmp 47) (.tmp 48), none, []⟩,
             ⟨some 50, .loadN 9 (.tmp 49), none, []⟩,
             ⟨some 11, .mem [(.val (.int .i64 0)), (.val (.int .i64 0)), (.val (.int .i64 0)), (.val (.bool false)), (.val (.int .i64 0)), (.val (.int .i64 0)), (.val (.int .i64 0)), (.val (.int .i64 0)), (.val (.int .i64 0))], none, []⟩,
             ⟨none, .store 9 (.tmp 11) (.tmp 50), none, []⟩] [46, 47, 48, 49, 50])
          (.seq
           (.region true [⟨some 51, .fad 2 (.tmp 11), none, []⟩,
             ⟨some 52, .load1 (.tmp 51), none, [0]⟩,
             ⟨some 53, .conv .u64 (.tmp 52), none, [1, 0]⟩,
             ⟨some 54, .bin .shl (.const (.int .i64 1)) (.tmp 53), none, [2, 1, 0]⟩,
             ⟨some 55, .bin .sub (.tmp 54) (.const (.int .i64 1)), none, [3, 2, 1, 0]⟩,
             ⟨some 12, .mv (.const (.int .i64 0)), none, []⟩,
             ⟨some 13, .mv (.tmp 55), none, [4, 3, 2, 1, 0, 5]⟩] [51, 52, 53, 54, 55])
          (.seq
           (.seq
            (.region false [⟨some 56, .fad 3 (.tmp 11), none, []⟩,
              ⟨some 57, .load1 (.tmp 56), none, []⟩] [56])
           (.cond (.tmp 57)
             (.seq
              (.region false [⟨some 58, .fad 2 (.tmp 11), none, []⟩,
                ⟨some 59, .load1 (.tmp 58), none, []⟩,
                ⟨some 60, .bin .sub (.tmp 59) (.const (.int .i64 1)), none, []⟩,
                ⟨some 61, .conv .u64 (.tmp 60), none, []⟩,
                ⟨some 62, .bin .shl (.const (.int .i64 (-1))) (.tmp 61), none, []⟩,
                ⟨some 12, .mv (.tmp 62), none, []⟩] [58, 59, 60, 61, 62])
             (.region false [⟨some 63, .fad 2 (.tmp 11), none, []⟩,
               ⟨some 64, .load1 (.tmp 63), none, []⟩,
               ⟨some 65, .bin .sub (.tmp 64) (.const (.int .i64 1)), none, []⟩,
               ⟨some 66, .conv .u64 (.tmp 65), none, []⟩,
               ⟨some 67, .bin .shl (.const (.int .i64 1)) (.tmp 66), none, []⟩,
               ⟨some 68, .bin .sub (.tmp 67) (.const (.int .i64 1)), none, []⟩,
               ⟨some 13, .mv (.tmp 68), none, []⟩] [63, 64, 65, 66, 67, 68]))
             .skip))
          (.seq
           (.seq
            (.region true [⟨some 69, .mv (.tmp 2), none, []⟩,
              ⟨some 70, .mv (.tmp 10), none, []⟩,
              ⟨some 71, .iadS 1 (.tmp 69) (.tmp 70), none, [0, 1]⟩,
              ⟨some 72, .load1 (.tmp 71), none, [2, 0, 1]⟩,
              ⟨some 73, .mv (.tmp 12), none, []⟩,
              ⟨some 74, .mv (.tmp 13), none, []⟩,
              ⟨some 75, .call (.func 79) [(.tmp 72), (.tmp 73), (.tmp 74)], none, [3, 2, 0, 1, 4, 5]⟩,
              ⟨some 76, .un .not (.tmp 75), none, [6, 3, 2, 0, 1, 4, 5]⟩,
              ⟨some 77, .mv (.tmp 76), none, [7, 6, 3, 2, 0, 1, 4, 5]⟩,
              ⟨some 78, .mv (.tmp 1), (some (some 77, false)), [8, 7, 6, 3, 2, 0, 1, 4, 5]⟩,
              ⟨some 79, .fad 7 (.tmp 11), (some (some 77, false)), [8, 7, 6, 3, 2, 0, 1, 4, 5]⟩,
              ⟨some 80, .load1 (.tmp 79), (some (some 77, false)), [10, 8, 7, 6, 3, 2, 0, 1, 4, 5]⟩,
              ⟨some 81, .bin .rem (.tmp 78) (.tmp 80), (some (some 77, false)), [9, 8, 7, 6, 3, 2, 0, 1, 4, 5, 11, 10]⟩,
              ⟨some 82, .fad 8 (.tmp 11), (some (some 77, false)), [8, 7, 6, 3, 2, 0, 1, 4, 5]⟩,
              ⟨some 83, .load1 (.tmp 82), (some (some 77, false)), [13, 8, 7, 6, 3, 2, 0, 1, 4, 5]⟩,
              ⟨some 84, .bin .neq (.tmp 81) (.tmp 83), (some (some 77, false)), [12, 9, 8, 7, 6, 3, 2, 0, 1, 4, 5, 11, 10, 14, 13]⟩,
              ⟨some 85, .mv (.tmp 84), (some (some 77, false)), [15, 12, 9, 8, 7, 6, 3, 2, 0, 1, 4, 5, 11, 10, 14, 13]⟩,
              ⟨some 86, .mv (.tmp 2), (some (some 85, true)), [16, 15, 12, 9, 8, 7, 6, 3, 2, 0, 1, 4, 5, 11, 10, 14, 13]⟩,
              ⟨some 87, .mv (.tmp 10), (some (some 85, true)), [16, 15, 12, 9, 8, 7, 6, 3, 2, 0, 1, 4, 5, 11, 10, 14, 13]⟩,
              ⟨some 88, .iadS 1 (.tmp 86) (.tmp 87), (some (some 85, true)), [17, 16, 15, 12, 9, 8, 7, 6, 3, 2, 0, 1, 4, 5, 11, 10, 14, 13, 18]⟩,
              ⟨some 89, .load1 (.tmp 88), (some (some 85, true)), [19, 17, 16, 15, 12, 9, 8, 7, 6, 3, 2, 0, 1, 4, 5, 11, 10, 14, 13, 18]⟩,
              ⟨some 90, .bin .neq (.tmp 89) (.const (.int .i64 0)), (some (some 85, true)), [20, 19, 17, 16, 15, 12, 9, 8, 7, 6, 3, 2, 0, 1, 4, 5, 11, 10, 14, 13, 18]⟩,
              ⟨some 91, .pick (.tmp 85) (.tmp 90) (.const (.bool false)), (some (some 77, false)), [16, 15, 12, 9, 8, 7, 6, 3, 2, 0, 1, 4, 5, 11, 10, 14, 13, 21, 20, 19, 17, 18]⟩,
              ⟨some 92, .pick (.tmp 77) (.const (.bool true)) (.tmp 91), none, [8, 7, 6, 3, 2, 0, 1, 4, 5, 22, 16, 15, 12, 9, 11, 10, 14, 13, 21, 20, 19, 17, 18]⟩] [69, 70, 71, 72, 73, 74, 75, 76, 77, 78, 79, 80, 81, 82, 83, 84, 85, 86, 87, 88, 89, 90, 91])
           (.cond (.tmp 92)
             (.seq
              (.region false [⟨some 6, .mv (.const (.slice none 0 0)), none, []⟩,
                ⟨some 7, .mv (.const (.int .i64 1)), none, []⟩] [])
             .ret)
             .skip))
          (.seq
           (.region false [⟨some 93, .mv (.tmp 2), none, []⟩,
             ⟨some 94, .mv (.tmp 10), none, []⟩,
             ⟨some 95, .iadS 1 (.tmp 93) (.tmp 94), none, []⟩,
             ⟨some 96, .load1 (.tmp 95), none, []⟩,
             ⟨some 14, .mv (.tmp 96), none, []⟩] [93, 94, 95, 96])
          (.seq
           (.seq
            (.region false [⟨some 97, .mv (.tmp 14), none, []⟩,
              ⟨some 98, .bin .lss (.tmp 97) (.const (.int .i64 0)), none, []⟩] [97])
           (.cond (.tmp 98)
             (.region false [⟨some 99, .mv (.tmp 14), none, []⟩,
               ⟨some 100, .fad 2 (.tmp 11), none, []⟩,
               ⟨some 101, .load1 (.tmp 100), none, []⟩,
               ⟨some 102, .conv .u64 (.tmp 101), none, []⟩,
               ⟨some 103, .bin .shl (.const (.int .i64 1)) (.tmp 102), none, []⟩,
               ⟨some 104, .bin .add (.tmp 99) (.tmp 103), none, []⟩,
               ⟨some 14, .mv (.tmp 104), none, []⟩] [99, 100, 101, 102, 103, 104])
             .skip))
          (.region true [⟨some 105, .mv (.tmp 9), none, []⟩,
            ⟨some 106, .fad 0 (.tmp 11), none, []⟩,
            ⟨some 107, .load1 (.tmp 106), none, [1]⟩,
            ⟨some 108, .iadS 1 (.tmp 105) (.tmp 107), none, [0, 2, 1]⟩,
            ⟨some 109, .load1 (.tmp 108), none, [3, 0, 2, 1]⟩,
            ⟨some 110, .mv (.tmp 14), none, []⟩,
            ⟨some 111, .fad 1 (.tmp 11), none, []⟩,
            ⟨some 112, .load1 (.tmp 111), none, [6]⟩,
            ⟨some 113, .conv .u64 (.tmp 112), none, [7, 6]⟩,
            ⟨some 114, .bin .shl (.tmp 110) (.tmp 113), none, [5, 8, 7, 6]⟩,
            ⟨some 115, .bin .add (.tmp 109) (.tmp 114), none, [4, 3, 0, 2, 1, 9, 5, 8, 7, 6]⟩,
            ⟨some 116, .iadS 1 (.tmp 105) (.tmp 107), none, [0, 2, 1, 3, 4, 5, 6, 7, 8, 9, 10]⟩,
            ⟨none, .store 1 (.tmp 116) (.tmp 115), none, [11, 0, 2, 1, 3, 4, 5, 6, 7, 8, 9, 10]⟩] [105, 106, 107, 108, 109, 110, 111, 112, 113, 114, 115, 116]))))))))
       (.region false [⟨some 44, .mv (.tmp 10), none, []⟩,
         ⟨some 45, .bin .add (.tmp 44) (.const (.int .i64 1)), none, []⟩,
         ⟨some 10, .mv (.tmp 45), none, []⟩] [44, 45]))))))
  (.seq
   (.region false [⟨some 117, .mv (.tmp 9), none, []⟩,
     ⟨some 6, .mv (.tmp 117), none, []⟩,
     ⟨some 7, .mv (.const (.int .i64 0)), none, []⟩] [117])
  .ret))))))))
set_option maxRecDepth 100000 in
theorem kref12_Pack : IsCode Try.prog 32 118 cref12_Pack [.tmp 6, .tmp 7] :=
  ⟨Try.f32, _, [98, 92, 57, 43, 30, 18, 0, 3, 8, 1, 2, 9, 10, 11, 12, 13, 14, 6, 7], Try.func32, rfl, by decide, rfl, by kernel_rfl, by kernel_rfl⟩
/-- law12_RecordPacks -/
def claw12_RecordPacks : ACode :=
  (.seq
   (.region false [⟨some 3, .box (.tmp 0), none, []⟩,
     ⟨some 6, .mv (.const (.bool false)), none, []⟩] [])
  (.seq
   (.seq
    (.region false [⟨some 11, .fad 5 (.tmp 3), none, []⟩,
      ⟨some 12, .load1 (.tmp 11), none, []⟩,
      ⟨some 13, .len_ (.tmp 12), none, []⟩,
      ⟨some 14, .bin .gtr (.tmp 13) (.const (.int .i64 20)), none, []⟩,
      ⟨some 15, .mv (.tmp 14), none, []⟩,
      ⟨some 16, .mv (.tmp 2), (some (some 15, false)), []⟩,
      ⟨some 17, .len_ (.tmp 16), (some (some 15, false)), []⟩,
      ⟨some 18, .bin .gtr (.tmp 17) (.const (.int .i64 30)), (some (some 15, false)), []⟩,
      ⟨some 19, .pick (.tmp 15) (.const (.bool true)) (.tmp 18), none, []⟩] [11, 12, 13, 14, 15, 16, 17, 18])
   (.cond (.tmp 19)
     (.seq
      (.region false [⟨some 20, .call (.func 16) [], none, []⟩,
        ⟨some 6, .mv (.tmp 20), none, []⟩] [20])
     .ret)
     .skip))
  (.seq
   (.region false [⟨some 22, .loadN 6 (.tmp 3), none, []⟩,
     ⟨some 23, .call (.func 31) [(.tmp 22)], none, []⟩,
     ⟨some 24, .mv (.tmp 1), none, []⟩,
     ⟨some 25, .buildSl 1 0 [] [], none, []⟩,
     ⟨some 26, .mv (.tmp 2), none, []⟩,
     ⟨some 27, .app 1 8 (.tmp 25) (.tmp 26), none, []⟩,
     ⟨some 28, .call (.func 30) [(.tmp 23), (.tmp 24), (.tmp 27)], none, []⟩,
     ⟨some 21, .mv (.tmp 28), none, []⟩,
     ⟨some 29, .ext (.tmp 21) 0, none, []⟩,
     ⟨some 30, .ext (.tmp 21) 1, none, []⟩,
     ⟨some 7, .mv (.tmp 29), none, []⟩,
     ⟨some 8, .mv (.tmp 30), none, []⟩] [22, 23, 24, 25, 26, 27, 28, 21, 29, 30])
  (.seq
   (.region false [⟨some 32, .loadN 6 (.tmp 3), none, []⟩,
     ⟨some 33, .mv (.tmp 1), none, []⟩,
     ⟨some 34, .mv (.tmp 2), none, []⟩,
     ⟨some 35, .call (.func 32) [(.tmp 32), (.tmp 33), (.tmp 34)], none, []⟩,
     ⟨some 31, .mv (.tmp 35), none, []⟩,
     ⟨some 36, .ext (.tmp 31) 0, none, []⟩,
     ⟨some 37, .ext (.tmp 31) 1, none, []⟩,
     ⟨some 9, .mv (.tmp 36), none, []⟩,
     ⟨some 10, .mv (.tmp 37), none, []⟩] [32, 33, 34, 35, 31, 36, 37])
  (.seq
   (.region false [⟨some 38, .mv (.tmp 7), none, []⟩,
     ⟨some 39, .mv (.tmp 9), none, []⟩,
     ⟨some 40, .call (.func 29) [(.tmp 38), (.tmp 39)], none, []⟩,
     ⟨some 41, .mv (.tmp 40), none, []⟩,
     ⟨some 42, .mv (.tmp 8), (some (some 41, true)), []⟩,
     ⟨some 43, .mv (.tmp 10), (some (some 41, true)), []⟩,
     ⟨some 44, .bin .eql (.tmp 42) (.tmp 43), (some (some 41, true)), []⟩,
     ⟨some 45, .pick (.tmp 41) (.tmp 44) (.const (.bool false)), none, []⟩,
     ⟨some 46, .mv (.tmp 45), none, []⟩,
     ⟨some 47, .call (.func 16) [], (some (some 46, true)), []⟩,
     ⟨some 48, .pick (.tmp 46) (.tmp 47) (.const (.bool false)), none, []⟩,
     ⟨some 6, .mv (.tmp 48), none, []⟩] [38, 39, 40, 41, 42, 43, 44, 45, 46, 47, 48])
  .ret)))))
set_option maxRecDepth 100000 in
theorem klaw12_RecordPacks : IsCode Try.prog 5 49 claw12_RecordPacks [.tmp 6] :=
  ⟨Try.f5, _, [19, 0, 3, 2, 1, 7, 9, 8, 10, 6], Try.func5, rfl, by decide, rfl, by kernel_rfl, by kernel_rfl⟩
end Go.Proofs.Ytdcodicoclecnaa
/- record: Pack. No conditions. -/
set_option linter.unusedSimpArgs false
set_option linter.unusedVariables false
namespace Go.Proofs.Ytdcodicoclecnaa
open Go Go.RowKit Lift

/-- all numbers can be packed -/
def pkAll (s : Int) (l : Lay) (r : List Int) (k : Nat) : Prop := ∀ i, i < k → packOk s (fAt l i) (rAt r i)
open Classical in
noncomputable def packE (l : Lay) (s : Int) (r : List Int) : Int := if ¬ LayOk l then 120 else if 0 ≤ s ∧ s ≤ 3 ∧ r.length = l.fl.length ∧ pkAll s l r l.fl.length then 0 else 1
noncomputable def packR (l : Lay) (s : Int) (r : List Int) : List Int := if packE l s r = 0 then pk s l r l.fl.length else []
theorem packE_lay {l : Lay} {s : Int} {r : List Int} (h : ¬ LayOk l) : packE l s r = 120 := if_pos h
theorem packE_ok {l : Lay} {s : Int} {r : List Int} (h : LayOk l) (h1 : 0 ≤ s ∧ s ≤ 3 ∧ r.length = l.fl.length ∧ pkAll s l r l.fl.length) : packE l s r = 0 := by unfold packE; rw [if_neg (fun k => k h), if_pos h1]
theorem packE_no {l : Lay} {s : Int} {r : List Int} (h : LayOk l) (h1 : ¬ (0 ≤ s ∧ s ≤ 3 ∧ r.length = l.fl.length ∧ pkAll s l r l.fl.length)) : packE l s r = 1 := by unfold packE; rw [if_neg (fun k => k h), if_neg h1]
theorem packR_no {l : Lay} {s : Int} {r : List Int} (h : packE l s r ≠ 0) : packR l s r = [] := if_neg h
theorem packR_ok {l : Lay} {s : Int} {r : List Int} (h : packE l s r = 0) : packR l s r = pk s l r l.fl.length := if_pos h
theorem pkAll_step {s : Int} {l : Lay} {r : List Int} {k : Nat} (h : pkAll s l r k) (h1 : packOk s (fAt l k) (rAt r k)) : pkAll s l r (k + 1) := fun i hi => by
  rcases (by omega : i < k ∨ i = k) with h2 | rfl
  · exact h i h2
  · exact h1
theorem and_mov {w : Int} {f : Fl} (h : FOk w f) (n : Int) : IntKind.i64.wrap ((BitVec.ofInt IntKind.i64.bits (IntKind.i64.wrap (n * 2 ^ f.bit.toNat)) &&& BitVec.ofInt IntKind.i64.bits ((mskF f : Nat) : Int)).toNat) = ((fvN f n : Nat) : Int) := by
  rw [BitVec.toNat_and, bv_nat _ (by have := mskF_lt h; omega), mov_msk h n]
  have := fvN_lt h n
  exact wrap_in (by omega) (by omega)
set_option maxRecDepth 100000 in
set_option maxHeartbeats 8000000 in
theorem pack_ac (l : Lay) (s : Int) (r : List Int) (hl : LayIn l) (hr : r.length ≤ maxLen) : AC Try.prog 30 [layD l, dI s, .list (ints r)] [] [] (.tup [.list (ints (packR l s r)), dI (packE l s r)]) := by
  refine krecord_Pack.ac (n0 := 0) (by simp) ⟨in_layD _ _, .val _, .list _, trivial⟩ trivial rfl ?_
  unfold crecord_Pack
  have ck := check_ac l hl
  have hmax : maxLen = 9223372036854775807 := rfl
  have hnf := hl.nf
  by_cases h1 : LayOk l
  case neg =>
    rw [layE_no h1] at ck
    have he := packE_lay (s := s) (r := r) h1
    rw [packR_no (by rw [he]; omega), he]
    unfold layD layC at *
    (have hg : (987654321 : Nat) - 987654321 = 0 := rfl; have hr := hg; repeat' (first | refine aw_seq ?_ | (refine aw_skip ?_; repeat' (first | with_reducible refine thenQ_n ?_ | with_reducible refine blockQ_n ?_ | with_reducible refine thenQ_e ?_ | with_reducible refine blockQ_t ?_ | with_reducible refine blockQ_f (by decide) ?_)) | (refine aw_exit ?_; repeat' (first | with_reducible refine thenQ_n ?_ | with_reducible refine blockQ_n ?_ | with_reducible refine thenQ_e ?_ | with_reducible refine blockQ_t ?_ | with_reducible refine blockQ_f (by decide) ?_)) | refine aw_ret ?_ | refine aw_block ?_ | refine aw_condT rfl ?_ | refine aw_condF rfl ?_ | ((first | refine aw_hide fun K hK => aw_region ?_ | refine acall0 (ck) ?_ | refine ago_if (by omega) ?_ | skip); simp (config := {maxSteps := 10000000}) (disch := first | exact okYes (by kernel_rfl) | omega) only [List.length, Nat.zero_add, Nat.reduceAdd, Nat.reduceMul, envOf, dI, ARun_none, AOpRun, aexec, D.isBot, FSt.ev, St.F, ↓eget_h, Bool.false_eq_true, Option.isSome, hget_n, or_self, ↓reduceIte, D.cells, AGo_ok, St.app, putO, eput_c, Nat.reduceBEq, eput_n, cond_false, hups, hput_n, List.map, ARun_nil, dropE_c, inL_n, dropE_n, eget_c, hget_c, beq_self_eq_true, cond_true, Nat.reduceLeDiff, List.drop, List.take, inL_c, isSh, Option.map, abin, Int.reduceBNe, thenQ]) | (subst hK; repeat' (first | with_reducible refine thenQ_n ?_ | with_reducible refine blockQ_n ?_ | with_reducible refine thenQ_e ?_ | with_reducible refine blockQ_t ?_ | with_reducible refine blockQ_f (by decide) ?_))))
    all_goals (refine end_to [] [] (by first | exact .inl rfl | exact .inr rfl) rfl (by kernel_rfl) (by kernel_rfl) (by kernel_rfl) ?_ ?_ <;> repeat' (first | exact trivial | exact vr_val _ | exact vr_nil | apply vr_tup | apply And.intro))
  rw [layE_ok h1] at ck
  have wn := within_ac s 0 3
  by_cases hs : 0 ≤ s ∧ s ≤ 3
  case neg =>
    rw [wI_n (by omega)] at wn
    have he := packE_no (s := s) (r := r) h1 (fun h => hs ⟨h.1, h.2.1⟩)
    rw [packR_no (by rw [he]; omega), he]
    unfold layD layC at *
    (have hg : (987654321 : Nat) - 987654321 = 0 := rfl; have hr := hg; repeat' (first | refine aw_seq ?_ | (refine aw_skip ?_; repeat' (first | with_reducible refine thenQ_n ?_ | with_reducible refine blockQ_n ?_ | with_reducible refine thenQ_e ?_ | with_reducible refine blockQ_t ?_ | with_reducible refine blockQ_f (by decide) ?_)) | (refine aw_exit ?_; repeat' (first | with_reducible refine thenQ_n ?_ | with_reducible refine blockQ_n ?_ | with_reducible refine thenQ_e ?_ | with_reducible refine blockQ_t ?_ | with_reducible refine blockQ_f (by decide) ?_)) | refine aw_ret ?_ | refine aw_block ?_ | refine aw_condT rfl ?_ | refine aw_condF rfl ?_ | ((first | refine aw_hide fun K hK => aw_region ?_ | refine acall0 (ck) ?_ | refine acall0 (wn) ?_ | refine ago_if (by omega) ?_ | skip); simp (config := {maxSteps := 10000000}) (disch := first | exact okYes (by kernel_rfl) | omega) only [List.length, Nat.zero_add, Nat.reduceAdd, Nat.reduceMul, envOf, dI, ARun_none, AOpRun, aexec, D.isBot, FSt.ev, St.F, ↓eget_h, Bool.false_eq_true, Option.isSome, hget_n, or_self, ↓reduceIte, D.cells, AGo_ok, St.app, putO, eput_c, Nat.reduceBEq, eput_n, cond_false, hups, hput_n, List.map, ARun_nil, dropE_c, inL_n, dropE_n, eget_c, hget_c, beq_self_eq_true, cond_true, Nat.reduceLeDiff, List.drop, List.take, inL_c, isSh, Option.map, abin, bne_self_eq_false, dB, Bool.not_false, ARun_some, AG_tf, thenQ]) | (subst hK; repeat' (first | with_reducible refine thenQ_n ?_ | with_reducible refine blockQ_n ?_ | with_reducible refine thenQ_e ?_ | with_reducible refine blockQ_t ?_ | with_reducible refine blockQ_f (by decide) ?_))))
    all_goals (refine end_to [] [] (by first | exact .inl rfl | exact .inr rfl) rfl (by kernel_rfl) (by kernel_rfl) (by kernel_rfl) ?_ ?_ <;> repeat' (first | exact trivial | exact vr_val _ | exact vr_nil | apply vr_tup | apply And.intro))
  rw [wI_y hs.1 hs.2] at wn
  by_cases hn : r.length = l.fl.length
  case neg =>
    have q : ((r.length : Int) != (l.fl.length : Int)) = true := by simp only [bne_iff_ne, ne_eq]; omega
    have he := packE_no (s := s) (r := r) h1 (fun h => hn h.2.2.1)
    rw [packR_no (by rw [he]; omega), he]
    unfold layD layC at *
    (have hg : (987654321 : Nat) - 987654321 = 0 := rfl; have hr := hg; repeat' (first | refine aw_seq ?_ | (refine aw_skip ?_; repeat' (first | with_reducible refine thenQ_n ?_ | with_reducible refine blockQ_n ?_ | with_reducible refine thenQ_e ?_ | with_reducible refine blockQ_t ?_ | with_reducible refine blockQ_f (by decide) ?_)) | (refine aw_exit ?_; repeat' (first | with_reducible refine thenQ_n ?_ | with_reducible refine blockQ_n ?_ | with_reducible refine thenQ_e ?_ | with_reducible refine blockQ_t ?_ | with_reducible refine blockQ_f (by decide) ?_)) | refine aw_ret ?_ | refine aw_block ?_ | refine aw_condT rfl ?_ | refine aw_condF rfl ?_ | ((first | refine aw_hide fun K hK => aw_region ?_ | refine acall0 (ck) ?_ | refine acall0 (wn) ?_ | refine ago_if (by omega) ?_ | skip); simp (config := {maxSteps := 10000000}) (disch := first | exact okYes (by kernel_rfl) | omega) only [List.length, Nat.zero_add, Nat.reduceAdd, Nat.reduceMul, envOf, dI, ARun_none, AOpRun, aexec, D.isBot, FSt.ev, St.F, ↓eget_h, Bool.false_eq_true, Option.isSome, hget_n, or_self, ↓reduceIte, D.cells, AGo_ok, St.app, putO, eput_c, Nat.reduceBEq, eput_n, cond_false, hups, hput_n, List.map, ARun_nil, dropE_c, inL_n, dropE_n, eget_c, hget_c, beq_self_eq_true, cond_true, Nat.reduceLeDiff, List.drop, List.take, inL_c, isSh, Option.map, abin, bne_self_eq_false, dB, Bool.not_true, ARun_some, AG_ff, ints_len, run1, List.getElem?_cons_succ, List.getElem?_cons_zero, fls_len, q, thenQ]) | (subst hK; repeat' (first | with_reducible refine thenQ_n ?_ | with_reducible refine blockQ_n ?_ | with_reducible refine thenQ_e ?_ | with_reducible refine blockQ_t ?_ | with_reducible refine blockQ_f (by decide) ?_))))
    all_goals (refine end_to [] [] (by first | exact .inl rfl | exact .inr rfl) rfl (by kernel_rfl) (by kernel_rfl) (by kernel_rfl) ?_ ?_ <;> repeat' (first | exact trivial | exact vr_val _ | exact vr_nil | apply vr_tup | apply And.intro))
  have q : ((r.length : Int) != (l.fl.length : Int)) = false := by simp only [bne_eq_false_iff_eq]; omega
  obtain ⟨n, rfl⟩ : ∃ n : Nat, s = n := ⟨s.toNat, by omega⟩
  have hn4 : n < 4 := by omega
  have w1 := h1.w1
  have w2 := h1.w2
  have gs := sync_at l n hn4
  have hz := pk_zero (n : Int) l r (by omega)
  rw [Int.toNat_natCast] at hz
  have hrl : (List.replicate l.words.toNat (0 : Int)).length = l.words.toNat := List.length_replicate ..
  have hst := ic_t (List.replicate l.words.toNat (0 : Int)) 0 ((sync l)[n]?.getD 0) (by omega)
  rw [← hz] at hst
  have hrz := rep_ic l.words.toNat
  have hic : (icells (List.replicate l.words.toNat (0 : Int))).length = l.words.toNat := by rw [icells_len]; exact hrl
  have ha := fls_all l.fl
  have hfl := fls_len l.fl
  have hno : ∀ {k}, k < l.fl.length → ¬ packOk n (fAt l k) (rAt r k) → packR l n r = [] ∧ packE l n r = 1 := fun {k} hk hp => by
    have he := packE_no (s := n) (r := r) h1 (fun h => hp (h.2.2.2 k hk))
    exact ⟨packR_no (by rw [he]; omega), he⟩
  have hyes : pkAll n l r l.fl.length → packR l n r = pk n l r l.fl.length ∧ packE l n r = 0 := fun hp => by
    have he := packE_ok (s := n) (r := r) h1 ⟨hs.1, hs.2, hn, hp⟩
    exact ⟨packR_ok he, he⟩
  unfold layD layC at *
  refine aw_seq (aw_region ?_)
  simp (config := {maxSteps := 10000000}) (disch := first | exact okYes (by kernel_rfl) | omega) only [thenQ, List.map, dI, List.length, Nat.zero_add, Nat.reduceAdd, Nat.reduceMul, envOf, ARun_none, AOpRun, aexec, D.isBot, FSt.ev, St.F, ↓eget_h, Bool.false_eq_true, Option.isSome, hget_n, or_self, ↓reduceIte, D.cells, AGo_ok, St.app, putO, eput_c, Nat.reduceBEq, eput_n, cond_false, hups, hput_n, ARun_nil, dropE_c, inL_n, dropE_n]
  refine aw_seq (aw_seq (aw_region ?_))
  simp (config := {maxSteps := 10000000}) (disch := first | exact okYes (by kernel_rfl) | omega) only [thenQ, List.length, Nat.zero_add, Nat.reduceAdd, Nat.reduceMul, ARun_none, AOpRun, aexec, FSt.ev, St.F, eget_c, Nat.reduceBEq, ↓eget_h, cond_false, hget_c, beq_self_eq_true, hget_n, cond_true, Nat.reduceLeDiff, ↓reduceIte, List.drop, List.take, AGo_ok, St.app, putO, eput_c, eput_n, hups, List.map]
  refine acall0 ck ?_
  simp (config := {maxSteps := 10000000}) (disch := first | exact okYes (by kernel_rfl) | omega) only [Nat.reduceAdd, St.app, putO, dI, eput_c, Nat.reduceBEq, eput_n, cond_false, hups, ARun_none, AOpRun, aexec, FSt.ev, St.F, eget_c, ↓eget_h, AGo_ok, List.map, ARun_nil, dropE_c, inL_c, inL_n, beq_self_eq_true, cond_true, dropE_n]
  refine aw_seq (aw_region ?_)
  simp (config := {maxSteps := 10000000}) (disch := first | exact okYes (by kernel_rfl) | omega) only [thenQ, List.length, Nat.zero_add, Nat.reduceAdd, Nat.reduceMul, ARun_none, AOpRun, aexec, FSt.ev, St.F, eget_c, Nat.reduceBEq, ↓eget_h, cond_false, AGo_ok, St.app, putO, eput_c, eput_n, hups, List.map, isSh, Bool.false_eq_true, ↓reduceIte, Option.map, abin, bne_self_eq_false, ARun_nil, dropE_c, inL_c, inL_n, beq_self_eq_true, cond_true, dropE_n]
  refine aw_condF rfl (aw_skip ?_)
  refine aw_seq (aw_seq (aw_region ?_))
  simp (config := {maxSteps := 10000000}) (disch := first | exact okYes (by kernel_rfl) | omega) only [thenQ, List.length, Nat.zero_add, Nat.reduceAdd, Nat.reduceMul, ARun_none, AOpRun, aexec, FSt.ev, St.F, eget_c, Nat.reduceBEq, ↓eget_h, cond_false, AGo_ok, St.app, putO, eput_c, eput_n, hups, List.map]
  refine acall0 wn ?_
  simp (config := {maxSteps := 10000000}) (disch := first | exact okYes (by kernel_rfl) | omega) only [Nat.reduceAdd, St.app, putO, dB, eput_c, Nat.reduceBEq, eput_n, cond_false, hups, ARun_none, AOpRun, aexec, FSt.ev, St.F, eget_c, ↓eget_h, Bool.not_true, AGo_ok, List.map, ARun_some, AG_ff, ints_len, Nat.zero_add, Option.map, run1, hget_c, beq_self_eq_true, hget_n, cond_true, List.getElem?_cons_succ, List.getElem?_cons_zero, hfl, isSh, Bool.false_eq_true, ↓reduceIte, abin, q, ARun_nil, dropE_c, inL_c, inL_n, dropE_n]
  refine aw_condF rfl (aw_skip ?_)
  have m1 : 0 ≤ l.words := by omega
  have m2 : l.words * 8 ≤ 2 ^ 48 := by omega
  have m3 : l.words < 2 ^ 62 := by omega
  refine aw_seq (aw_region ?_)
  simp (config := {maxSteps := 10000000}) (disch := first | exact okYes (by kernel_rfl) | omega) only [thenQ, List.length, Nat.zero_add, Nat.reduceAdd, Nat.reduceMul, ARun_none, AOpRun, aexec, FSt.ev, St.F, eget_c, Nat.reduceBEq, ↓eget_h, cond_false, AGo_ok, St.app, putO, eput_c, eput_n, hups, List.map, Option.map, run1, hget_c, beq_self_eq_true, hget_n, cond_true, List.getElem?_cons_zero, m1, cast_lit, m2, m3, Option.isSome, and_self, ↓reduceIte, hrz, hput_c, hput_n, ARun_nil, dropE_c, inL_c, inL_n, dropE_n]
  refine aw_wk (s' := ⟨[(1, dI n), (2, .list (ints r)), (3, .ptr 0 0), (9, .vec 200 l.words.toNat 1)], [(0, [dI l.words, dI l.s0, dI l.s1, dI l.s2, dI l.s3, .list (fls l.fl)]), (200, icells (List.replicate l.words.toNat 0))], 300⟩) ?_ ?_
  · unfold dI
    refine wk_to [] [(0, 0), (200, 168)] (by kernel_rfl) (by kernel_rfl) (by kernel_rfl) (by kernel_rfl) (by kernel_rfl) ?_ ?_ <;> repeat' (first | exact trivial | exact vr_val _ | exact vr_list _ | exact vr_vec _ _ _ _ rfl | exact vr_ptr _ _ _ rfl | refine And.intro ⟨_, rfl, .inl ⟨_, rfl, by decide, ?_⟩⟩ ?_ | apply And.intro | exact vrl_flat _ (by first | exact icells_in _ | exact rcells_in _ | exact scells_in _ | exact bcells_in _ | assumption))
  have m4 : 0 < l.words.toNat := by omega
  have m5 : 0 + 1 ≤ l.words.toNat := by omega
  have m6 : (0 : Int) < (l.words.toNat : Int) := by omega
  have m7 : (n : Int) < 4 := by omega
  refine aw_seq (aw_region ?_)
  simp (config := {maxSteps := 10000000}) (disch := first | exact okYes (by kernel_rfl) | omega) only [thenQ, List.length, Nat.zero_add, Nat.reduceAdd, Nat.reduceMul, dI, ARun_none, AOpRun, aexec, FSt.ev, St.F, eget_c, Nat.reduceBEq, ↓eget_h, cond_false, AGo_ok, St.app, putO, eput_c, eput_n, hups, List.map, Int.natCast_nonneg, cast_lit, m7, and_self, ↓reduceIte, Int.toNat_natCast, Nat.mul_one, Option.map, run1, hget_c, beq_self_eq_true, hget_n, cond_true, Nat.add_zero, gs, Int.le_refl, m6, Int.toNat_zero, ↓hget_h, D.isBot, D.cells, hic, m5, List.all, D.leaf, Bool.and_true, splice, List.take, List.nil_append, List.cons_append, hput_c, hput_n, ARun_nil, dropE_c, inL_c, inL_n, dropE_n]
  have hst2 : D.val (.int .i64 ((sync l)[n]?.getD 0)) :: (icells (List.replicate l.words.toNat (0 : Int))).drop 1 = icells (pk n l r 0) := hst
  rw [hst2]
  refine aw_seq (aw_seq (aw_region ?_))
  simp (config := {maxSteps := 10000000}) (disch := first | exact okYes (by kernel_rfl) | omega) only [thenQ, List.length, Nat.zero_add, Nat.reduceAdd, Nat.reduceMul, ARun_none, AOpRun, aexec, FSt.ev, St.F, eget_c, Nat.reduceBEq, ↓eget_h, cond_false, AGo_ok, St.app, putO, eput_c, eput_n, hups, List.map, ints_len, ARun_nil, dropE_c, inL_n, dropE_n]
  refine aw_block (aw_loop (fun k : Nat => ⟨[(1, dI n), (3, .ptr 0 0), (9, .vec 200 l.words.toNat 1), (38, .list (ints r)), (39, dI r.length), (40, dI k)], [(0, [dI l.words, dI l.s0, dI l.s1, dI l.s2, dI l.s3, .list (fls l.fl)]), (200, icells (pk n l r k))], 400⟩) (fun k => k ≤ r.length ∧ pkAll n l r k) (fun k => r.length - k) ⟨0, ⟨by omega, fun i hi => by omega⟩, ?_⟩ ?_)
  · unfold dI
    refine wk_to [] [(0, 0), (200, 200)] (by kernel_rfl) (by kernel_rfl) (by kernel_rfl) (by kernel_rfl) (by kernel_rfl) ?_ ?_ <;> repeat' (first | exact trivial | exact vr_val _ | exact vr_list _ | exact vr_vec _ _ _ _ rfl | exact vr_ptr _ _ _ rfl | refine And.intro ⟨_, rfl, .inl ⟨_, rfl, by decide, ?_⟩⟩ ?_ | apply And.intro | exact vrl_flat _ (by first | exact icells_in _ | exact rcells_in _ | exact scells_in _ | exact bcells_in _ | assumption))
    all_goals exact vrl_flat _ (icells_in _)
  rintro k ⟨hk, hp⟩
  have hpl := pk_len n l r k
  by_cases hk2 : k < r.length
  case neg =>
    obtain rfl : k = l.fl.length := by omega
    obtain ⟨e1, e2⟩ := hyes hp
    rw [e1, e2]
    generalize pk n l r l.fl.length = L at *
    (have hg : (987654321 : Nat) - 987654321 = 0 := rfl; have hr := hg; repeat' (first | refine aw_seq ?_ | (refine aw_skip ?_; repeat' (first | with_reducible refine thenQ_n ?_ | with_reducible refine blockQ_n ?_ | with_reducible refine thenQ_e ?_ | with_reducible refine blockQ_t ?_ | with_reducible refine blockQ_f (by decide) ?_)) | (refine aw_exit ?_; repeat' (first | with_reducible refine thenQ_n ?_ | with_reducible refine blockQ_n ?_ | with_reducible refine thenQ_e ?_ | with_reducible refine blockQ_t ?_ | with_reducible refine blockQ_f (by decide) ?_)) | refine aw_ret ?_ | refine aw_block ?_ | refine aw_condT rfl ?_ | refine aw_condF rfl ?_ | (refine aw_cond rfl (fun hg => ?_) (fun hg => ?_) <;> (try (have hq := hg; simp only [Bool.not_eq_true', Bool.not_eq_false', Bool.and_eq_true, Bool.and_eq_false_iff, Bool.or_eq_true, Bool.or_eq_false_iff, decide_eq_true_eq, decide_eq_false_iff_not, bne_iff_ne, beq_iff_eq, beq_eq_false_iff_ne, bne_eq_false_iff_eq, ne_eq, Int.not_lt, Int.not_le, Decidable.not_not] at hq)) <;> (try (have hr := hg; simp only [decide_eq_true_eq, decide_eq_false_iff_not] at hr)) <;> (try (exfalso; omega))) | ((first | refine aw_hide fun K hK => aw_region ?_ | refine ago_if (by omega) ?_ | skip); simp (config := {maxSteps := 10000000}) (disch := first | exact okYes (by kernel_rfl) | omega) only [List.length, Nat.zero_add, Nat.reduceMul, Nat.reduceAdd, dI, ARun_none, AOpRun, aexec, FSt.ev, St.F, eget_c, Nat.reduceBEq, ↓eget_h, cond_false, isSh, Bool.false_eq_true, ↓reduceIte, Option.map, abin, AGo_ok, St.app, putO, eput_c, eput_n, hups, List.map, ARun_nil, dropE_c, inL_n, dropE_n, hr, decide_false, inL_c, beq_self_eq_true, cond_true]) | (subst hK; repeat' (first | with_reducible refine thenQ_n ?_ | with_reducible refine blockQ_n ?_ | with_reducible refine thenQ_e ?_ | with_reducible refine blockQ_t ?_ | with_reducible refine blockQ_f (by decide) ?_))))
    refine end_to [200] [] (by first | exact .inl rfl | exact .inr rfl) rfl (by kernel_rfl) (by kernel_rfl) (by kernel_rfl) ?_ ?_ <;> repeat' (first | exact trivial | exact vr_val _ | apply vr_tup | refine vr_fl _ _ _ _ _ (by decide) rfl ?_ ?_ ?_ ?_ | apply And.intro)
    all_goals first | exact ints_one _ | exact (ints_len _).trans hpl | exact ints_flat _ | exact icells_in _
  have hkf : k < l.fl.length := by omega
  have hf : FOk l.words (fAt l k) := h1.fo k hkf
  have gr := ints_gd r k hk2
  have g1 : (fls l.fl)[k]? = some (flC (fAt l k)) := fls_gd l.fl k hkf
  have ki : (k : Int) < (l.fl.length : Int) := by omega
  have ci := in_sub_ac hf n
  have hno2 := hno hkf
  have hstep := pkAll_step hp
  have hrk : rAt r k = r[k]?.getD 0 := rfl
  have ca := can_ac hf (rAt r k)
  rw [← hrk] at gr
  by_cases hin : inSub (fAt l k) n
  case neg =>
    rw [inB_f hin] at ci
    have hpk : packOk n (fAt l k) (rAt r k) ↔ rAt r k = 0 := by unfold packOk; rw [if_neg hin]
    have epk := pk_no n l r k hin
    rw [hpk] at hno2 hstep
    generalize rAt r k = x at *
    generalize fAt l k = f at *
    unfold flD flC at *
    by_cases hx : x = 0
    case neg =>
      have qx : (x != 0) = true := by simpa using hx
      obtain ⟨e1, e2⟩ := hno2 hx
      rw [e1, e2]
      (have hg : (987654321 : Nat) - 987654321 = 0 := rfl; have hr := hg; repeat' (first | refine aw_seq ?_ | (refine aw_skip ?_; repeat' (first | with_reducible refine thenQ_n ?_ | with_reducible refine blockQ_n ?_ | with_reducible refine thenQ_e ?_ | with_reducible refine blockQ_t ?_ | with_reducible refine blockQ_f (by decide) ?_)) | (refine aw_exit ?_; repeat' (first | with_reducible refine thenQ_n ?_ | with_reducible refine blockQ_n ?_ | with_reducible refine thenQ_e ?_ | with_reducible refine blockQ_t ?_ | with_reducible refine blockQ_f (by decide) ?_)) | refine aw_ret ?_ | refine aw_block ?_ | refine aw_condT rfl ?_ | refine aw_condF rfl ?_ | (refine aw_cond rfl (fun hg => ?_) (fun hg => ?_) <;> (try (have hq := hg; simp only [Bool.not_eq_true', Bool.not_eq_false', Bool.and_eq_true, Bool.and_eq_false_iff, Bool.or_eq_true, Bool.or_eq_false_iff, decide_eq_true_eq, decide_eq_false_iff_not, bne_iff_ne, beq_iff_eq, beq_eq_false_iff_ne, bne_eq_false_iff_eq, ne_eq, Int.not_lt, Int.not_le, Decidable.not_not] at hq)) <;> (try (have hr := hg; simp only [decide_eq_true_eq, decide_eq_false_iff_not] at hr)) <;> (try (exfalso; omega))) | ((first | refine aw_hide fun K hK => aw_region ?_ | refine acall0 (ci) ?_ | refine ago_if (by omega) ?_ | skip); simp (config := {maxSteps := 10000000}) (disch := first | exact okYes (by kernel_rfl) | omega) only [List.length, Nat.zero_add, Nat.reduceMul, Nat.reduceAdd, dI, ARun_none, AOpRun, aexec, FSt.ev, St.F, eget_c, Nat.reduceBEq, ↓eget_h, cond_false, isSh, Bool.false_eq_true, ↓reduceIte, Option.map, abin, AGo_ok, St.app, putO, eput_c, eput_n, hups, List.map, ARun_nil, dropE_c, inL_n, dropE_n, hr, decide_true, Int.natCast_nonneg, ints_all, and_self, opt1, Int.toNat_natCast, gr, run1, List.getElem?_cons_zero, inL_c, beq_self_eq_true, cond_true, hget_c, hget_n, List.getElem?_cons_succ, ha, g1, dB, Nat.reduceLeDiff, List.take, fillD, D.isBot, D.cells, ne_eq, not_true_eq_false, Nat.reduceGT, or_self, splice, List.nil_append, List.drop, List.append_nil, Option.isSome, hput_c, hput_n, ↓hget_h, List.all, D.leaf, Bool.and_true, Bool.not_false, qx, blockQ, thenQ]) | (subst hK; repeat' (first | with_reducible refine thenQ_n ?_ | with_reducible refine blockQ_n ?_ | with_reducible refine thenQ_e ?_ | with_reducible refine blockQ_t ?_ | with_reducible refine blockQ_f (by decide) ?_))))
      all_goals (refine end_to [] [] (by first | exact .inl rfl | exact .inr rfl) rfl (by kernel_rfl) (by kernel_rfl) (by kernel_rfl) ?_ ?_ <;> repeat' (first | exact trivial | exact vr_val _ | exact vr_nil | apply vr_tup | apply And.intro))
    have qx : (x != 0) = false := by simpa using hx
    (have hg : (987654321 : Nat) - 987654321 = 0 := rfl; have hr := hg; repeat' (first | refine aw_seq ?_ | (refine aw_skip ?_; repeat' (first | with_reducible refine thenQ_n ?_ | with_reducible refine blockQ_n ?_ | with_reducible refine thenQ_e ?_ | with_reducible refine blockQ_t ?_ | with_reducible refine blockQ_f (by decide) ?_)) | (refine aw_exit ?_; repeat' (first | with_reducible refine thenQ_n ?_ | with_reducible refine blockQ_n ?_ | with_reducible refine thenQ_e ?_ | with_reducible refine blockQ_t ?_ | with_reducible refine blockQ_f (by decide) ?_)) | refine aw_ret ?_ | refine aw_block ?_ | refine aw_condT rfl ?_ | refine aw_condF rfl ?_ | (refine aw_cond rfl (fun hg => ?_) (fun hg => ?_) <;> (try (have hq := hg; simp only [Bool.not_eq_true', Bool.not_eq_false', Bool.and_eq_true, Bool.and_eq_false_iff, Bool.or_eq_true, Bool.or_eq_false_iff, decide_eq_true_eq, decide_eq_false_iff_not, bne_iff_ne, beq_iff_eq, beq_eq_false_iff_ne, bne_eq_false_iff_eq, ne_eq, Int.not_lt, Int.not_le, Decidable.not_not] at hq)) <;> (try (have hr := hg; simp only [decide_eq_true_eq, decide_eq_false_iff_not] at hr)) <;> (try (exfalso; omega))) | ((first | refine aw_hide fun K hK => aw_region ?_ | refine acall0 (ci) ?_ | refine ago_if (by omega) ?_ | skip); simp (config := {maxSteps := 10000000}) (disch := first | exact okYes (by kernel_rfl) | omega) only [List.length, Nat.zero_add, Nat.reduceMul, Nat.reduceAdd, dI, ARun_none, AOpRun, aexec, FSt.ev, St.F, eget_c, Nat.reduceBEq, ↓eget_h, cond_false, isSh, Bool.false_eq_true, ↓reduceIte, Option.map, abin, AGo_ok, St.app, putO, eput_c, eput_n, hups, List.map, ARun_nil, dropE_c, inL_n, dropE_n, hr, decide_true, Int.natCast_nonneg, ints_all, and_self, opt1, Int.toNat_natCast, gr, run1, List.getElem?_cons_zero, inL_c, beq_self_eq_true, cond_true, hget_c, hget_n, List.getElem?_cons_succ, ha, g1, dB, Nat.reduceLeDiff, List.take, fillD, D.isBot, D.cells, ne_eq, not_true_eq_false, Nat.reduceGT, or_self, splice, List.nil_append, List.drop, List.append_nil, Option.isSome, hput_c, hput_n, ↓hget_h, List.all, D.leaf, Bool.and_true, Bool.not_false, qx, fits]) | (subst hK; repeat' (first | with_reducible refine thenQ_n ?_ | with_reducible refine blockQ_n ?_ | with_reducible refine thenQ_e ?_ | with_reducible refine blockQ_t ?_ | with_reducible refine blockQ_f (by decide) ?_))))
    refine ⟨k + 1, ⟨by omega, hstep hx⟩, by omega, ?_⟩
    rw [epk]
    refine wk_to [] [(0, 0), (200, 200)] (by kernel_rfl) (by kernel_rfl) (by kernel_rfl) (by kernel_rfl) (by kernel_rfl) ?_ ?_ <;> repeat' (first | exact trivial | exact vr_val _ | exact vr_list _ | exact vr_vec _ _ _ _ rfl | exact vr_ptr _ _ _ rfl | refine And.intro ⟨_, rfl, .inl ⟨_, rfl, by decide, ?_⟩⟩ ?_ | apply And.intro | exact vrl_flat _ (by first | exact icells_in _ | exact rcells_in _ | exact scells_in _ | exact bcells_in _ | assumption))
    all_goals exact vrl_flat _ (icells_in _)
  rw [inB_t hin] at ci
  have hpk : packOk n (fAt l k) (rAt r k) ↔ canF (fAt l k) (rAt r k) := by unfold packOk; rw [if_pos hin]
  rw [hpk] at hno2 hstep
  by_cases hc : canF (fAt l k) (rAt r k)
  case neg =>
    obtain ⟨e1, e2⟩ := hno2 hc
    rw [e1, e2]
    rw [decide_eq_false hc] at ca
    generalize rAt r k = x at *
    generalize fAt l k = f at *
    unfold flD flC at *
    (have hg : (987654321 : Nat) - 987654321 = 0 := rfl; have hr := hg; repeat' (first | refine aw_seq ?_ | (refine aw_skip ?_; repeat' (first | with_reducible refine thenQ_n ?_ | with_reducible refine blockQ_n ?_ | with_reducible refine thenQ_e ?_ | with_reducible refine blockQ_t ?_ | with_reducible refine blockQ_f (by decide) ?_)) | (refine aw_exit ?_; repeat' (first | with_reducible refine thenQ_n ?_ | with_reducible refine blockQ_n ?_ | with_reducible refine thenQ_e ?_ | with_reducible refine blockQ_t ?_ | with_reducible refine blockQ_f (by decide) ?_)) | refine aw_ret ?_ | refine aw_block ?_ | refine aw_condT rfl ?_ | refine aw_condF rfl ?_ | (refine aw_cond rfl (fun hg => ?_) (fun hg => ?_) <;> (try (have hq := hg; simp only [Bool.not_eq_true', Bool.not_eq_false', Bool.and_eq_true, Bool.and_eq_false_iff, Bool.or_eq_true, Bool.or_eq_false_iff, decide_eq_true_eq, decide_eq_false_iff_not, bne_iff_ne, beq_iff_eq, beq_eq_false_iff_ne, bne_eq_false_iff_eq, ne_eq, Int.not_lt, Int.not_le, Decidable.not_not] at hq)) <;> (try (have hr := hg; simp only [decide_eq_true_eq, decide_eq_false_iff_not] at hr)) <;> (try (exfalso; omega))) | ((first | refine aw_hide fun K hK => aw_region ?_ | refine acall0 (ci) ?_ | refine acall0 (ca) ?_ | refine ago_if (by omega) ?_ | skip); simp (config := {maxSteps := 10000000}) (disch := first | exact okYes (by kernel_rfl) | omega) only [List.length, Nat.zero_add, Nat.reduceMul, Nat.reduceAdd, dI, ARun_none, AOpRun, aexec, FSt.ev, St.F, eget_c, Nat.reduceBEq, ↓eget_h, cond_false, isSh, Bool.false_eq_true, ↓reduceIte, Option.map, abin, AGo_ok, St.app, putO, eput_c, eput_n, hups, List.map, ARun_nil, dropE_c, inL_n, dropE_n, hr, decide_true, Int.natCast_nonneg, ints_all, and_self, opt1, Int.toNat_natCast, gr, run1, List.getElem?_cons_zero, inL_c, beq_self_eq_true, cond_true, hget_c, hget_n, List.getElem?_cons_succ, ha, g1, dB, Nat.reduceLeDiff, List.take, fillD, D.isBot, D.cells, ne_eq, not_true_eq_false, Nat.reduceGT, or_self, splice, List.nil_append, List.drop, List.append_nil, Option.isSome, hput_c, hput_n, ↓hget_h, List.all, D.leaf, Bool.and_true, Bool.not_true, Bool.not_false, blockQ, thenQ]) | (subst hK; repeat' (first | with_reducible refine thenQ_n ?_ | with_reducible refine blockQ_n ?_ | with_reducible refine thenQ_e ?_ | with_reducible refine blockQ_t ?_ | with_reducible refine blockQ_f (by decide) ?_))))
    all_goals (refine end_to [] [] (by first | exact .inl rfl | exact .inr rfl) rfl (by kernel_rfl) (by kernel_rfl) (by kernel_rfl) ?_ ?_ <;> repeat' (first | exact trivial | exact vr_val _ | exact vr_nil | apply vr_tup | apply And.intro))
  rw [decide_eq_true hc] at ca
  have epk := pk_in n l r k hin hf.w1
  have wd1 := hf.w1
  have wd2 := hf.w2
  have b1 := hf.b1
  have hwn : (fAt l k).word.toNat < l.words.toNat := by omega
  have gw := ic_gd (pk n l r k) (fAt l k).word.toNat (by rw [hpl]; exact hwn)
  have gp := pk_get n l r k (fAt l k).word.toNat hwn (by omega)
  rw [Int.toNat_of_nonneg (by omega)] at gp
  rw [gp] at gw
  have hor := or_nat (pkW n l r (fAt l k).word k) (fvN (fAt l k) (rAt r k)) (by have := pkW_lt n l r (fAt l k).word (fun j hj => h1.fo j hj) k (by omega); omega) (by have := fvN_lt hf (rAt r k); omega)
  have hmv := and_mov hf (rAt r k)
  have hmk := mask_ac hf
  have htk := ic_t (pk n l r k) (fAt l k).word.toNat ((pkW n l r (fAt l k).word k ||| fvN (fAt l k) (rAt r k) : Nat) : Int) (by rw [hpl]; exact hwn)
  rw [← epk] at htk
  have hcl : (icells (pk n l r k)).length = l.words.toNat := by rw [icells_len]; exact hpl
  have hcin := icells_in (pk n l r (k + 1))
  have p2 : 0 ≤ (fAt l k).word := by omega
  have p3 : (fAt l k).word < (l.words.toNat : Int) := by omega
  have p4 : (fAt l k).word.toNat + 1 ≤ l.words.toNat := by omega
  have e0 : IntKind.i64.bits = 64 := rfl
  have e5 : min (fAt l k).bit.toNat IntKind.i64.bits = (fAt l k).bit.toNat := by have := (size_pow hf).2.2.2.2.1; rw [e0]; omega
  generalize rAt r k = x at *
  generalize fAt l k = f at *
  generalize hmn : mskF f = M at *
  generalize fvN f x = V at *
  generalize pkW n l r f.word k = U at *
  unfold flD flC at *
  (have hg : (987654321 : Nat) - 987654321 = 0 := rfl; have hr := hg; repeat' (first | refine aw_seq ?_ | (refine aw_skip ?_; repeat' (first | with_reducible refine thenQ_n ?_ | with_reducible refine blockQ_n ?_ | with_reducible refine thenQ_e ?_ | with_reducible refine blockQ_t ?_ | with_reducible refine blockQ_f (by decide) ?_)) | (refine aw_exit ?_; repeat' (first | with_reducible refine thenQ_n ?_ | with_reducible refine blockQ_n ?_ | with_reducible refine thenQ_e ?_ | with_reducible refine blockQ_t ?_ | with_reducible refine blockQ_f (by decide) ?_)) | refine aw_ret ?_ | refine aw_block ?_ | refine aw_condT rfl ?_ | refine aw_condF rfl ?_ | (refine aw_cond rfl (fun hg => ?_) (fun hg => ?_) <;> (try (have hq := hg; simp only [Bool.not_eq_true', Bool.not_eq_false', Bool.and_eq_true, Bool.and_eq_false_iff, Bool.or_eq_true, Bool.or_eq_false_iff, decide_eq_true_eq, decide_eq_false_iff_not, bne_iff_ne, beq_iff_eq, beq_eq_false_iff_ne, bne_eq_false_iff_eq, ne_eq, Int.not_lt, Int.not_le, Decidable.not_not] at hq)) <;> (try (have hr := hg; simp only [decide_eq_true_eq, decide_eq_false_iff_not] at hr)) <;> (try (exfalso; omega))) | ((first | refine aw_hide fun K hK => aw_region ?_ | refine acall0 (ci) ?_ | refine acall0 (ca) ?_ | refine acall0 (hmk) ?_ | refine ago_if (by omega) ?_ | skip); simp (config := {maxSteps := 10000000}) (disch := first | exact okYes (by kernel_rfl) | omega) only [List.length, Nat.zero_add, Nat.mul_one, Nat.reduceAdd, dI, ARun_none, AOpRun, aexec, FSt.ev, St.F, eget_c, Nat.reduceBEq, ↓eget_h, cond_false, isSh, Bool.false_eq_true, ↓reduceIte, Option.map, abin, AGo_ok, St.app, putO, eput_c, eput_n, hups, List.map, ARun_nil, dropE_c, inL_n, dropE_n, Nat.reduceMul, hr, decide_true, Int.natCast_nonneg, ints_all, and_self, opt1, Int.toNat_natCast, gr, run1, List.getElem?_cons_zero, inL_c, beq_self_eq_true, cond_true, hget_c, hget_n, Nat.add_zero, List.getElem?_cons_succ, ha, g1, dB, Nat.reduceLeDiff, List.take, fillD, D.isBot, D.cells, ne_eq, not_true_eq_false, Nat.reduceGT, or_self, splice, List.nil_append, List.drop, List.append_nil, Option.isSome, hput_c, hput_n, ↓hget_h, List.all, D.leaf, Bool.and_true, Bool.not_true, p2, p3, gw, ash, b1, e5, hmv, hor, hcl, p4, htk, fits]) | (subst hK; repeat' (first | with_reducible refine thenQ_n ?_ | with_reducible refine blockQ_n ?_ | with_reducible refine thenQ_e ?_ | with_reducible refine blockQ_t ?_ | with_reducible refine blockQ_f (by decide) ?_))))
  refine ⟨k + 1, ⟨by omega, hstep hc⟩, by omega, ?_⟩
  refine wk_to [] [(0, 0), (200, 200)] (by kernel_rfl) (by kernel_rfl) (by kernel_rfl) (by kernel_rfl) (by kernel_rfl) ?_ ?_ <;> repeat' (first | exact trivial | exact vr_val _ | exact vr_list _ | exact vr_vec _ _ _ _ rfl | exact vr_ptr _ _ _ rfl | refine And.intro ⟨_, rfl, .inl ⟨_, rfl, by decide, ?_⟩⟩ ?_ | apply And.intro | exact vrl_flat _ (by first | exact icells_in _ | exact rcells_in _ | exact scells_in _ | exact bcells_in _ | assumption))
  all_goals exact vrl_flat _ hcin
end Go.Proofs.Ytdcodicoclecnaa
/- The document of record: Pack. No conditions. -/
set_option linter.unusedSimpArgs false
set_option linter.unusedVariables false
namespace Go.Proofs.Ytdcodicoclecnaa
open Go Go.RowKit Lift

theorem set_self (L : List Int) (k : Nat) (h : k < L.length) : L.set k (L[k]?.getD 0) = L := by
  refine List.ext_getElem (by simp) fun i h1 h2 => ?_
  rw [List.getElem_set]
  split
  · rename_i e; subst e; simp [h]
  · rfl
def loF (f : Fl) : Int := if f.sgn = true then -((2 ^ (f.size.toNat - 1) : Nat) : Int) else 0
def hiF (f : Fl) : Int := if f.sgn = true then ((2 ^ (f.size.toNat - 1) - 1 : Nat) : Int) else ((2 ^ f.size.toNat - 1 : Nat) : Int)
theorem canF_iff {w : Int} {f : Fl} (h : FOk w f) (x : Int) : canF f x ↔ wI x (loF f) (hiF f) = true := by
  obtain ⟨h1, h2, h3, h4, h5, h6, h7⟩ := size_pow h
  have e1 : ((2 ^ f.size.toNat : Nat) : Int) = (2 : Int) ^ f.size.toNat := by simp
  have e2 : ((2 ^ (f.size.toNat - 1) : Nat) : Int) = (2 : Int) ^ (f.size.toNat - 1) := by simp
  unfold canF loF hiF wI
  rw [Bool.and_eq_true, decide_eq_true_eq, decide_eq_true_eq]
  split
  · rw [← e2]; omega
  · rw [← e1]; omega
theorem zero_in {w : Int} {f : Fl} (h : FOk w f) : wI 0 (loF f) (hiF f) = true := by
  obtain ⟨h1, h2, h3, h4, h5, h6, h7⟩ := size_pow h
  unfold loF hiF
  refine wI_y ?_ ?_ <;> split <;> omega
set_option maxRecDepth 100000 in
set_option maxHeartbeats 16000000 in
theorem rpack_ac (l : Lay) (s : Int) (r : List Int) (hl : LayIn l) (hr : r.length ≤ maxLen) : AC Try.prog 32 [layD l, dI s, .list (ints r)] [] [] (.tup [.list (ints (packR l s r)), dI (packE l s r)]) := by
  refine kref12_Pack.ac (n0 := 0) (by simp) ⟨in_layD _ _, .val _, .list _, trivial⟩ trivial rfl ?_
  unfold cref12_Pack
  have ck := rcheck_ac l hl
  have hmax : maxLen = 9223372036854775807 := rfl
  have hnf := hl.nf
  by_cases h1 : LayOk l
  case neg =>
    rw [layE_no h1] at ck
    have he := packE_lay (s := s) (r := r) h1
    rw [packR_no (by rw [he]; omega), he]
    unfold layD layC at *
    (have hg : (987654321 : Nat) - 987654321 = 0 := rfl; have hr := hg; repeat' (first | refine aw_seq ?_ | (refine aw_skip ?_; repeat' (first | with_reducible refine thenQ_n ?_ | with_reducible refine blockQ_n ?_ | with_reducible refine thenQ_e ?_ | with_reducible refine blockQ_t ?_ | with_reducible refine blockQ_f (by decide) ?_)) | (refine aw_exit ?_; repeat' (first | with_reducible refine thenQ_n ?_ | with_reducible refine blockQ_n ?_ | with_reducible refine thenQ_e ?_ | with_reducible refine blockQ_t ?_ | with_reducible refine blockQ_f (by decide) ?_)) | refine aw_ret ?_ | refine aw_block ?_ | refine aw_condT rfl ?_ | refine aw_condF rfl ?_ | ((first | refine aw_hide fun K hK => aw_region ?_ | refine acall0 (ck) ?_ | refine ago_if (by omega) ?_ | skip); simp (config := {maxSteps := 10000000}) (disch := first | exact okYes (by kernel_rfl) | omega) only [List.length, Nat.zero_add, Nat.reduceAdd, Nat.reduceMul, envOf, dI, ARun_none, AOpRun, aexec, D.isBot, FSt.ev, St.F, ↓eget_h, Bool.false_eq_true, Option.isSome, hget_n, or_self, ↓reduceIte, D.cells, AGo_ok, St.app, putO, eput_c, Nat.reduceBEq, eput_n, cond_false, hups, hput_n, List.map, ARun_nil, dropE_c, inL_n, dropE_n, eget_c, hget_c, beq_self_eq_true, cond_true, Nat.reduceLeDiff, List.drop, List.take, inL_c, isSh, Option.map, abin, Int.reduceBNe, thenQ]) | (subst hK; repeat' (first | with_reducible refine thenQ_n ?_ | with_reducible refine blockQ_n ?_ | with_reducible refine thenQ_e ?_ | with_reducible refine blockQ_t ?_ | with_reducible refine blockQ_f (by decide) ?_))))
    all_goals (refine end_to [] [] (by first | exact .inl rfl | exact .inr rfl) rfl (by kernel_rfl) (by kernel_rfl) (by kernel_rfl) ?_ ?_ <;> repeat' (first | exact trivial | exact vr_val _ | exact vr_nil | apply vr_tup | apply And.intro))
  rw [layE_ok h1] at ck
  have wn := from_ac s 0 3
  by_cases hs : 0 ≤ s ∧ s ≤ 3
  case neg =>
    rw [wI_n (by omega)] at wn
    have he := packE_no (s := s) (r := r) h1 (fun h => hs ⟨h.1, h.2.1⟩)
    rw [packR_no (by rw [he]; omega), he]
    unfold layD layC at *
    (have hg : (987654321 : Nat) - 987654321 = 0 := rfl; have hr := hg; repeat' (first | refine aw_seq ?_ | (refine aw_skip ?_; repeat' (first | with_reducible refine thenQ_n ?_ | with_reducible refine blockQ_n ?_ | with_reducible refine thenQ_e ?_ | with_reducible refine blockQ_t ?_ | with_reducible refine blockQ_f (by decide) ?_)) | (refine aw_exit ?_; repeat' (first | with_reducible refine thenQ_n ?_ | with_reducible refine blockQ_n ?_ | with_reducible refine thenQ_e ?_ | with_reducible refine blockQ_t ?_ | with_reducible refine blockQ_f (by decide) ?_)) | refine aw_ret ?_ | refine aw_block ?_ | refine aw_condT rfl ?_ | refine aw_condF rfl ?_ | ((first | refine aw_hide fun K hK => aw_region ?_ | refine acall0 (ck) ?_ | refine acall0 (wn) ?_ | refine ago_if (by omega) ?_ | skip); simp (config := {maxSteps := 10000000}) (disch := first | exact okYes (by kernel_rfl) | omega) only [List.length, Nat.zero_add, Nat.reduceAdd, Nat.reduceMul, envOf, dI, ARun_none, AOpRun, aexec, D.isBot, FSt.ev, St.F, ↓eget_h, Bool.false_eq_true, Option.isSome, hget_n, or_self, ↓reduceIte, D.cells, AGo_ok, St.app, putO, eput_c, Nat.reduceBEq, eput_n, cond_false, hups, hput_n, List.map, ARun_nil, dropE_c, inL_n, dropE_n, eget_c, hget_c, beq_self_eq_true, cond_true, Nat.reduceLeDiff, List.drop, List.take, inL_c, isSh, Option.map, abin, bne_self_eq_false, dB, Bool.not_false, ARun_some, AG_tf, thenQ]) | (subst hK; repeat' (first | with_reducible refine thenQ_n ?_ | with_reducible refine blockQ_n ?_ | with_reducible refine thenQ_e ?_ | with_reducible refine blockQ_t ?_ | with_reducible refine blockQ_f (by decide) ?_))))
    all_goals (refine end_to [] [] (by first | exact .inl rfl | exact .inr rfl) rfl (by kernel_rfl) (by kernel_rfl) (by kernel_rfl) ?_ ?_ <;> repeat' (first | exact trivial | exact vr_val _ | exact vr_nil | apply vr_tup | apply And.intro))
  rw [wI_y hs.1 hs.2] at wn
  by_cases hn : r.length = l.fl.length
  case neg =>
    have q : ((r.length : Int) != (l.fl.length : Int)) = true := by simp only [bne_iff_ne, ne_eq]; omega
    have he := packE_no (s := s) (r := r) h1 (fun h => hn h.2.2.1)
    rw [packR_no (by rw [he]; omega), he]
    unfold layD layC at *
    (have hg : (987654321 : Nat) - 987654321 = 0 := rfl; have hr := hg; repeat' (first | refine aw_seq ?_ | (refine aw_skip ?_; repeat' (first | with_reducible refine thenQ_n ?_ | with_reducible refine blockQ_n ?_ | with_reducible refine thenQ_e ?_ | with_reducible refine blockQ_t ?_ | with_reducible refine blockQ_f (by decide) ?_)) | (refine aw_exit ?_; repeat' (first | with_reducible refine thenQ_n ?_ | with_reducible refine blockQ_n ?_ | with_reducible refine thenQ_e ?_ | with_reducible refine blockQ_t ?_ | with_reducible refine blockQ_f (by decide) ?_)) | refine aw_ret ?_ | refine aw_block ?_ | refine aw_condT rfl ?_ | refine aw_condF rfl ?_ | ((first | refine aw_hide fun K hK => aw_region ?_ | refine acall0 (ck) ?_ | refine acall0 (wn) ?_ | refine ago_if (by omega) ?_ | skip); simp (config := {maxSteps := 10000000}) (disch := first | exact okYes (by kernel_rfl) | omega) only [List.length, Nat.zero_add, Nat.reduceAdd, Nat.reduceMul, envOf, dI, ARun_none, AOpRun, aexec, D.isBot, FSt.ev, St.F, ↓eget_h, Bool.false_eq_true, Option.isSome, hget_n, or_self, ↓reduceIte, D.cells, AGo_ok, St.app, putO, eput_c, Nat.reduceBEq, eput_n, cond_false, hups, hput_n, List.map, ARun_nil, dropE_c, inL_n, dropE_n, eget_c, hget_c, beq_self_eq_true, cond_true, Nat.reduceLeDiff, List.drop, List.take, inL_c, isSh, Option.map, abin, bne_self_eq_false, dB, Bool.not_true, ARun_some, AG_ff, ints_len, run1, List.getElem?_cons_succ, List.getElem?_cons_zero, fls_len, q, thenQ]) | (subst hK; repeat' (first | with_reducible refine thenQ_n ?_ | with_reducible refine blockQ_n ?_ | with_reducible refine thenQ_e ?_ | with_reducible refine blockQ_t ?_ | with_reducible refine blockQ_f (by decide) ?_))))
    all_goals (refine end_to [] [] (by first | exact .inl rfl | exact .inr rfl) rfl (by kernel_rfl) (by kernel_rfl) (by kernel_rfl) ?_ ?_ <;> repeat' (first | exact trivial | exact vr_val _ | exact vr_nil | apply vr_tup | apply And.intro))
  have q : ((r.length : Int) != (l.fl.length : Int)) = false := by simp only [bne_eq_false_iff_eq]; omega
  obtain ⟨n, rfl⟩ : ∃ n : Nat, s = n := ⟨s.toNat, by omega⟩
  have hn4 : n < 4 := by omega
  have w1 := h1.w1
  have w2 := h1.w2
  have gs := sync_at l n hn4
  have hz := pk_zero (n : Int) l r (by omega)
  rw [Int.toNat_natCast] at hz
  have hrl : (List.replicate l.words.toNat (0 : Int)).length = l.words.toNat := List.length_replicate ..
  have hst := ic_t (List.replicate l.words.toNat (0 : Int)) 0 ((sync l)[n]?.getD 0) (by omega)
  rw [← hz] at hst
  have hrz := rep_ic l.words.toNat
  have hic : (icells (List.replicate l.words.toNat (0 : Int))).length = l.words.toNat := by rw [icells_len]; exact hrl
  have ha := fls_all l.fl
  have hfl := fls_len l.fl
  have hno : ∀ {k}, k < l.fl.length → ¬ packOk n (fAt l k) (rAt r k) → packR l n r = [] ∧ packE l n r = 1 := fun {k} hk hp => by
    have he := packE_no (s := n) (r := r) h1 (fun h => hp (h.2.2.2 k hk))
    exact ⟨packR_no (by rw [he]; omega), he⟩
  have hyes : pkAll n l r l.fl.length → packR l n r = pk n l r l.fl.length ∧ packE l n r = 0 := fun hp => by
    have he := packE_ok (s := n) (r := r) h1 ⟨hs.1, hs.2, hn, hp⟩
    exact ⟨packR_ok he, he⟩
  unfold layD layC at *
  refine aw_seq (aw_region ?_)
  simp (config := {maxSteps := 10000000}) (disch := first | exact okYes (by kernel_rfl) | omega) only [thenQ, List.map, Int.reduceNeg, dI, List.length, Nat.zero_add, Nat.reduceAdd, Nat.reduceMul, envOf, ARun_none, AOpRun, aexec, D.isBot, FSt.ev, St.F, ↓eget_h, Bool.false_eq_true, Option.isSome, hget_n, or_self, ↓reduceIte, D.cells, AGo_ok, St.app, putO, eput_c, Nat.reduceBEq, eput_n, cond_false, hups, hput_n, ARun_nil, dropE_c, inL_n, dropE_n]
  refine aw_seq (aw_region ?_)
  simp (config := {maxSteps := 10000000}) (disch := first | exact okYes (by kernel_rfl) | omega) only [thenQ, Int.reduceNeg, List.length, Nat.zero_add, Nat.reduceAdd, Nat.reduceMul, ARun_none, AOpRun, aexec, FSt.ev, St.F, eget_c, Nat.reduceBEq, ↓eget_h, cond_false, hget_c, beq_self_eq_true, hget_n, cond_true, Nat.reduceLeDiff, ↓reduceIte, List.drop, List.take, AGo_ok, St.app, putO, eput_c, eput_n, hups, List.map]
  refine acall0 ck ?_
  simp (config := {maxSteps := 10000000}) (disch := first | exact okYes (by kernel_rfl) | omega) only [Int.reduceNeg, Nat.reduceAdd, St.app, putO, dI, eput_c, Nat.reduceBEq, eput_n, cond_false, hups, ARun_none, AOpRun, aexec, FSt.ev, St.F, eget_c, ↓eget_h, AGo_ok, List.map, ARun_nil, dropE_c, inL_c, inL_n, beq_self_eq_true, cond_true, dropE_n]
  refine aw_seq (aw_seq (aw_region ?_))
  simp (config := {maxSteps := 10000000}) (disch := first | exact okYes (by kernel_rfl) | omega) only [thenQ, Int.reduceNeg, List.length, Nat.zero_add, Nat.reduceAdd, Nat.reduceMul, ARun_none, AOpRun, aexec, FSt.ev, St.F, eget_c, Nat.reduceBEq, ↓eget_h, cond_false, AGo_ok, St.app, putO, eput_c, eput_n, hups, List.map, isSh, Bool.false_eq_true, ↓reduceIte, Option.map, abin, bne_self_eq_false, ARun_nil, dropE_c, inL_c, inL_n, beq_self_eq_true, cond_true, dropE_n]
  refine aw_condF rfl (aw_skip ?_)
  refine aw_seq (aw_seq (aw_region ?_))
  simp (config := {maxSteps := 10000000}) (disch := first | exact okYes (by kernel_rfl) | omega) only [thenQ, Int.reduceNeg, List.length, Nat.zero_add, Nat.reduceAdd, Nat.reduceMul, ARun_none, AOpRun, aexec, FSt.ev, St.F, eget_c, Nat.reduceBEq, ↓eget_h, cond_false, AGo_ok, St.app, putO, eput_c, eput_n, hups, List.map]
  refine acall0 wn ?_
  simp (config := {maxSteps := 10000000}) (disch := first | exact okYes (by kernel_rfl) | omega) only [Int.reduceNeg, Nat.reduceAdd, St.app, putO, dB, eput_c, Nat.reduceBEq, eput_n, cond_false, hups, ARun_none, AOpRun, aexec, FSt.ev, St.F, eget_c, ↓eget_h, Bool.not_true, AGo_ok, List.map, ARun_some, AG_ff, ints_len, Nat.zero_add, Option.map, run1, hget_c, beq_self_eq_true, hget_n, cond_true, List.getElem?_cons_succ, List.getElem?_cons_zero, hfl, isSh, Bool.false_eq_true, ↓reduceIte, abin, q, ARun_nil, dropE_c, inL_c, inL_n, dropE_n]
  refine aw_condF rfl (aw_skip ?_)
  have m1 : 0 ≤ l.words := by omega
  have m2 : l.words * 8 ≤ 2 ^ 48 := by omega
  have m3 : l.words < 2 ^ 62 := by omega
  refine aw_seq (aw_region ?_)
  simp (config := {maxSteps := 10000000}) (disch := first | exact okYes (by kernel_rfl) | omega) only [thenQ, Int.reduceNeg, List.length, Nat.zero_add, Nat.reduceAdd, Nat.reduceMul, ARun_none, AOpRun, aexec, FSt.ev, St.F, eget_c, Nat.reduceBEq, ↓eget_h, cond_false, AGo_ok, St.app, putO, eput_c, eput_n, hups, List.map, Option.map, run1, hget_c, beq_self_eq_true, hget_n, cond_true, List.getElem?_cons_zero, m1, cast_lit, m2, m3, Option.isSome, and_self, ↓reduceIte, hrz, hput_c, hput_n, ARun_nil, dropE_c, inL_c, inL_n, dropE_n]
  refine aw_wk (s' := ⟨[(1, dI n), (2, .list (ints r)), (3, .ptr 0 0), (9, .vec 200 l.words.toNat 1)], [(0, [dI l.words, dI l.s0, dI l.s1, dI l.s2, dI l.s3, .list (fls l.fl)]), (200, icells (List.replicate l.words.toNat 0))], 300⟩) ?_ ?_
  · unfold dI
    refine wk_to [] [(0, 0), (200, 168)] (by kernel_rfl) (by kernel_rfl) (by kernel_rfl) (by kernel_rfl) (by kernel_rfl) ?_ ?_ <;> repeat' (first | exact trivial | exact vr_val _ | exact vr_list _ | exact vr_vec _ _ _ _ rfl | exact vr_ptr _ _ _ rfl | refine And.intro ⟨_, rfl, .inl ⟨_, rfl, by decide, ?_⟩⟩ ?_ | apply And.intro | exact vrl_flat _ (by first | exact icells_in _ | exact rcells_in _ | exact scells_in _ | exact bcells_in _ | assumption))
    all_goals exact vrl_flat _ (icells_in _)
  have m4 : 0 < l.words.toNat := by omega
  have m5 : 0 + 1 ≤ l.words.toNat := by omega
  have m6 : (0 : Int) < (l.words.toNat : Int) := by omega
  have m7 : (n : Int) < 4 := by omega
  refine aw_seq (aw_region ?_)
  simp (config := {maxSteps := 10000000}) (disch := first | exact okYes (by kernel_rfl) | omega) only [thenQ, Int.reduceNeg, List.length, Nat.zero_add, Nat.reduceAdd, Nat.reduceMul, dI, ARun_none, AOpRun, aexec, FSt.ev, St.F, eget_c, Nat.reduceBEq, ↓eget_h, cond_false, AGo_ok, St.app, putO, eput_c, eput_n, hups, List.map, Int.natCast_nonneg, cast_lit, m7, and_self, ↓reduceIte, Int.toNat_natCast, Nat.mul_one, Option.map, run1, hget_c, beq_self_eq_true, hget_n, cond_true, Nat.add_zero, gs, Int.le_refl, m6, Int.toNat_zero, ↓hget_h, D.isBot, D.cells, hic, m5, List.all, D.leaf, Bool.and_true, splice, List.take, List.nil_append, List.cons_append, hput_c, hput_n, ARun_nil, dropE_c, inL_c, inL_n, dropE_n]
  have hst2 : D.val (.int .i64 ((sync l)[n]?.getD 0)) :: (icells (List.replicate l.words.toNat (0 : Int))).drop 1 = icells (pk n l r 0) := hst
  rw [hst2]
  refine aw_seq (aw_seq (aw_region ?_))
  simp (config := {maxSteps := 10000000}) (disch := first | exact okYes (by kernel_rfl) | omega) only [thenQ, Int.reduceNeg, List.length, Nat.zero_add, Nat.reduceMul, Nat.reduceAdd, ARun_none, AOpRun, aexec, FSt.ev, AGo_ok, St.app, putO, eput_c, Nat.reduceBEq, eput_n, cond_false, hups, List.map, ARun_nil, dropE_c, inL_n, dropE_n]
  refine aw_block (aw_loop (fun k : Nat => ⟨[(1, dI n), (2, .list (ints r)), (3, .ptr 0 0), (9, .vec 200 l.words.toNat 1), (10, dI k)], [(0, [dI l.words, dI l.s0, dI l.s1, dI l.s2, dI l.s3, .list (fls l.fl)]), (200, icells (pk n l r k))], 400⟩) (fun k => k ≤ r.length ∧ pkAll n l r k) (fun k => r.length - k) ⟨0, ⟨by omega, fun i hi => by omega⟩, ?_⟩ ?_)
  · unfold dI
    refine wk_to [] [(0, 0), (200, 200)] (by kernel_rfl) (by kernel_rfl) (by kernel_rfl) (by kernel_rfl) (by kernel_rfl) ?_ ?_ <;> repeat' (first | exact trivial | exact vr_val _ | exact vr_list _ | exact vr_vec _ _ _ _ rfl | exact vr_ptr _ _ _ rfl | refine And.intro ⟨_, rfl, .inl ⟨_, rfl, by decide, ?_⟩⟩ ?_ | apply And.intro | exact vrl_flat _ (by first | exact icells_in _ | exact rcells_in _ | exact scells_in _ | exact bcells_in _ | assumption))
    all_goals exact vrl_flat _ (icells_in _)
  rintro k ⟨hk, hp⟩
  have hpl := pk_len n l r k
  by_cases hk2 : k < r.length
  case neg =>
    obtain rfl : k = l.fl.length := by omega
    obtain ⟨e1, e2⟩ := hyes hp
    rw [e1, e2]
    generalize pk n l r l.fl.length = L at *
    (have hg : (987654321 : Nat) - 987654321 = 0 := rfl; have hr := hg; repeat' (first | refine aw_seq ?_ | (refine aw_skip ?_; repeat' (first | with_reducible refine thenQ_n ?_ | with_reducible refine blockQ_n ?_ | with_reducible refine thenQ_e ?_ | with_reducible refine blockQ_t ?_ | with_reducible refine blockQ_f (by decide) ?_)) | (refine aw_exit ?_; repeat' (first | with_reducible refine thenQ_n ?_ | with_reducible refine blockQ_n ?_ | with_reducible refine thenQ_e ?_ | with_reducible refine blockQ_t ?_ | with_reducible refine blockQ_f (by decide) ?_)) | refine aw_ret ?_ | refine aw_block ?_ | refine aw_condT rfl ?_ | refine aw_condF rfl ?_ | (refine aw_cond rfl (fun hg => ?_) (fun hg => ?_) <;> (try (have hq := hg; simp only [Bool.not_eq_true', Bool.not_eq_false', Bool.and_eq_true, Bool.and_eq_false_iff, Bool.or_eq_true, Bool.or_eq_false_iff, decide_eq_true_eq, decide_eq_false_iff_not, bne_iff_ne, beq_iff_eq, beq_eq_false_iff_ne, bne_eq_false_iff_eq, ne_eq, Int.not_lt, Int.not_le, Decidable.not_not] at hq)) <;> (try (have hr := hg; simp only [decide_eq_true_eq, decide_eq_false_iff_not] at hr)) <;> (try (exfalso; omega))) | ((first | refine aw_hide fun K hK => aw_region ?_ | refine ago_if (by omega) ?_ | skip); simp (config := {maxSteps := 10000000}) (disch := first | exact okYes (by kernel_rfl) | omega) only [List.length, Nat.zero_add, Nat.reduceAdd, Nat.reduceMul, dI, ARun_none, AOpRun, aexec, FSt.ev, St.F, eget_c, Nat.reduceBEq, ↓eget_h, cond_false, AGo_ok, St.app, putO, eput_c, eput_n, hups, List.map, ints_len, isSh, Bool.false_eq_true, ↓reduceIte, Option.map, abin, ARun_nil, dropE_c, inL_c, inL_n, beq_self_eq_true, cond_true, dropE_n, hr, decide_false]) | (subst hK; repeat' (first | with_reducible refine thenQ_n ?_ | with_reducible refine blockQ_n ?_ | with_reducible refine thenQ_e ?_ | with_reducible refine blockQ_t ?_ | with_reducible refine blockQ_f (by decide) ?_))))
    refine end_to [200] [] (by first | exact .inl rfl | exact .inr rfl) rfl (by kernel_rfl) (by kernel_rfl) (by kernel_rfl) ?_ ?_ <;> repeat' (first | exact trivial | exact vr_val _ | apply vr_tup | refine vr_fl _ _ _ _ _ (by decide) rfl ?_ ?_ ?_ ?_ | apply And.intro)
    all_goals first | exact ints_one _ | exact (ints_len _).trans hpl | exact ints_flat _ | exact icells_in _
  have hkf : k < l.fl.length := by omega
  have hf : FOk l.words (fAt l k) := h1.fo k hkf
  have gr := ints_gd r k hk2
  have g1 : (fls l.fl)[k]? = some (flC (fAt l k)) := fls_gd l.fl k hkf
  have ki : (k : Int) < (l.fl.length : Int) := by omega
  have kr : (k : Int) < (r.length : Int) := by omega
  have hno2 := hno hkf
  have hstep := pkAll_step hp
  have hrk : rAt r k = r[k]?.getD 0 := rfl
  rw [← hrk] at gr
  obtain ⟨z1, z2, z3, z4, z5, z6, z7⟩ := size_pow hf
  have b1 := hf.b1
  have s1 := hf.s1
  have bs := hf.bs
  have wd1 := hf.w1
  have wd2 := hf.w2
  have e0 : IntKind.i64.bits = 64 := rfl
  have e5 : min (fAt l k).bit.toNat IntKind.i64.bits = (fAt l k).bit.toNat := by rw [e0]; omega
  have e6 : min ((fAt l k).size - 1).toNat IntKind.i64.bits = (fAt l k).size.toNat - 1 := by rw [e0]; omega
  have e7 : min (fAt l k).size.toNat IntKind.i64.bits = (fAt l k).size.toNat := by rw [e0]; omega
  have c1 : IntKind.u64.wrap (fAt l k).bit = (fAt l k).bit := uw_in (by omega) (by omega)
  have c2 : IntKind.u64.wrap (fAt l k).size = (fAt l k).size := uw_in (by omega) (by omega)
  have c3 : IntKind.u64.wrap ((fAt l k).size - 1) = (fAt l k).size - 1 := uw_in (by omega) (by omega)
  have p0 : 0 ≤ (fAt l k).size := by omega
  have p1 : 0 ≤ (fAt l k).size - 1 := by omega
  have pp : ((2 ^ (fAt l k).size.toNat : Nat) : Int) = (2 : Int) ^ (fAt l k).size.toNat := by simp
  have pq : ((2 ^ ((fAt l k).size.toNat - 1) : Nat) : Int) = (2 : Int) ^ ((fAt l k).size.toNat - 1) := by simp
  have a1 : IntKind.i64.wrap (1 * 2 ^ (fAt l k).size.toNat) = ((2 ^ (fAt l k).size.toNat : Nat) : Int) := by rw [Int.one_mul, ← pp]; exact wrap_in (by omega) (by omega)
  have a2 : IntKind.i64.wrap (((2 ^ (fAt l k).size.toNat : Nat) : Int) - 1) = ((2 ^ (fAt l k).size.toNat - 1 : Nat) : Int) := by
    rw [show ((2 ^ (fAt l k).size.toNat : Nat) : Int) - 1 = ((2 ^ (fAt l k).size.toNat - 1 : Nat) : Int) by omega]; exact wrap_in (by omega) (by omega)
  have a3 : IntKind.i64.wrap (1 * 2 ^ ((fAt l k).size.toNat - 1)) = ((2 ^ ((fAt l k).size.toNat - 1) : Nat) : Int) := by rw [Int.one_mul, ← pq]; exact wrap_in (by omega) (by omega)
  have a4 : IntKind.i64.wrap (((2 ^ ((fAt l k).size.toNat - 1) : Nat) : Int) - 1) = ((2 ^ ((fAt l k).size.toNat - 1) - 1 : Nat) : Int) := by
    rw [show ((2 ^ ((fAt l k).size.toNat - 1) : Nat) : Int) - 1 = ((2 ^ ((fAt l k).size.toNat - 1) - 1 : Nat) : Int) by omega]; exact wrap_in (by omega) (by omega)
  have a5 : IntKind.i64.wrap (-1 * 2 ^ ((fAt l k).size.toNat - 1)) = -((2 ^ ((fAt l k).size.toNat - 1) : Nat) : Int) := by
    rw [← pq, Int.neg_one_mul]; exact wrap_in (by omega) (by omega)
  have fr := from_ac (rAt r k) (loF (fAt l k)) (hiF (fAt l k))
  have hcf := canF_iff hf (rAt r k)
  have hz0 := zero_in hf
  have ev : (fAt l k).every ≠ 0 := by rcases hf.ev with h | h | h <;> omega
  have hwn : (fAt l k).word.toNat < l.words.toNat := by omega
  have gw := ic_gd (pk n l r k) (fAt l k).word.toNat (by rw [hpl]; exact hwn)
  have gp := pk_get n l r k (fAt l k).word.toNat hwn (by omega)
  rw [Int.toNat_of_nonneg (by omega)] at gp
  have hself := set_self (pk n l r k) (fAt l k).word.toNat (by rw [hpl]; exact hwn)
  rw [gp] at gw hself
  have ul := pkW_lt n l r (fAt l k).word (fun j hj => h1.fo j hj) k (by omega)
  have vl := fvN_lt hf (rAt r k)
  have hcl : (icells (pk n l r k)).length = l.words.toNat := by rw [icells_len]; exact hpl
  have p2 : 0 ≤ (fAt l k).word := by omega
  have p3 : (fAt l k).word < (l.words.toNat : Int) := by omega
  have p4 : (fAt l k).word.toNat + 1 ≤ l.words.toNat := by omega
  by_cases hok : packOk n (fAt l k) (rAt r k)
  case neg =>
    obtain ⟨e1, e2⟩ := hno2 hok
    rw [e1, e2]
    unfold packOk at hok
    clear gw hself ul vl gp hyes hno hstep hno2
    cases hF : wI (rAt r k) (loF (fAt l k)) (hiF (fAt l k)) with
    | false =>
      rw [hF] at fr
      clear hok hcf
      unfold loF hiF at fr
      generalize rAt r k = x at *
      generalize fAt l k = f at *
      unfold flC at *
      cases hsg : f.sgn with
      | true =>
        rw [hsg, if_pos rfl, if_pos rfl] at fr
        rw [hsg] at g1
        (have hg : (987654321 : Nat) - 987654321 = 0 := rfl; have hr := hg; repeat' (first | refine aw_seq ?_ | (refine aw_skip ?_; repeat' (first | with_reducible refine thenQ_n ?_ | with_reducible refine blockQ_n ?_ | with_reducible refine thenQ_e ?_ | with_reducible refine blockQ_t ?_ | with_reducible refine blockQ_f (by decide) ?_)) | (refine aw_exit ?_; repeat' (first | with_reducible refine thenQ_n ?_ | with_reducible refine blockQ_n ?_ | with_reducible refine thenQ_e ?_ | with_reducible refine blockQ_t ?_ | with_reducible refine blockQ_f (by decide) ?_)) | refine aw_ret ?_ | refine aw_block ?_ | refine aw_condT rfl ?_ | refine aw_condF rfl ?_ | ((first | refine aw_hide fun K hK => aw_region ?_ | refine acall0 (fr) ?_ | refine ago_if (by omega) ?_ | skip); simp (config := {maxSteps := 10000000}) (disch := first | exact okYes (by kernel_rfl) | omega) only [List.length, Nat.zero_add, Nat.reduceAdd, Nat.reduceMul, dI, ARun_none, AOpRun, aexec, FSt.ev, St.F, eget_c, Nat.reduceBEq, ↓eget_h, cond_false, AGo_ok, St.app, putO, eput_c, eput_n, hups, List.map, ints_len, isSh, Bool.false_eq_true, ↓reduceIte, Option.map, abin, kr, decide_true, ARun_nil, dropE_c, inL_c, inL_n, beq_self_eq_true, cond_true, dropE_n, run1, hget_c, hget_n, List.getElem?_cons_succ, List.getElem?_cons_zero, Int.natCast_nonneg, ha, and_self, opt1, Int.toNat_natCast, g1, dB, Nat.reduceLeDiff, List.take, Option.isSome, hput_c, hput_n, ↓hget_h, D.isBot, D.cells, List.all, D.leaf, Bool.and_true, splice, List.nil_append, List.drop, List.append_nil, c2, ash, p0, e7, a1, a2, Int.reduceNeg, fits, c3, p1, e6, a5, a3, a4, ints_all, gr, Bool.not_false, ARun_some, AG_tf, AG_un, thenQ, blockQ]) | (subst hK; repeat' (first | with_reducible refine thenQ_n ?_ | with_reducible refine blockQ_n ?_ | with_reducible refine thenQ_e ?_ | with_reducible refine blockQ_t ?_ | with_reducible refine blockQ_f (by decide) ?_))))
        all_goals (refine end_to [] [] (by first | exact .inl rfl | exact .inr rfl) rfl (by kernel_rfl) (by kernel_rfl) (by kernel_rfl) ?_ ?_ <;> repeat' (first | exact trivial | exact vr_val _ | exact vr_nil | apply vr_tup | apply And.intro))
      | false =>
        rw [hsg, if_neg (by simp), if_neg (by simp)] at fr
        rw [hsg] at g1
        (have hg : (987654321 : Nat) - 987654321 = 0 := rfl; have hr := hg; repeat' (first | refine aw_seq ?_ | (refine aw_skip ?_; repeat' (first | with_reducible refine thenQ_n ?_ | with_reducible refine blockQ_n ?_ | with_reducible refine thenQ_e ?_ | with_reducible refine blockQ_t ?_ | with_reducible refine blockQ_f (by decide) ?_)) | (refine aw_exit ?_; repeat' (first | with_reducible refine thenQ_n ?_ | with_reducible refine blockQ_n ?_ | with_reducible refine thenQ_e ?_ | with_reducible refine blockQ_t ?_ | with_reducible refine blockQ_f (by decide) ?_)) | refine aw_ret ?_ | refine aw_block ?_ | refine aw_condT rfl ?_ | refine aw_condF rfl ?_ | ((first | refine aw_hide fun K hK => aw_region ?_ | refine acall0 (fr) ?_ | refine ago_if (by omega) ?_ | skip); simp (config := {maxSteps := 10000000}) (disch := first | exact okYes (by kernel_rfl) | omega) only [List.length, Nat.zero_add, Nat.reduceAdd, Nat.reduceMul, dI, ARun_none, AOpRun, aexec, FSt.ev, St.F, eget_c, Nat.reduceBEq, ↓eget_h, cond_false, AGo_ok, St.app, putO, eput_c, eput_n, hups, List.map, ints_len, isSh, Bool.false_eq_true, ↓reduceIte, Option.map, abin, kr, decide_true, ARun_nil, dropE_c, inL_c, inL_n, beq_self_eq_true, cond_true, dropE_n, run1, hget_c, hget_n, List.getElem?_cons_succ, List.getElem?_cons_zero, Int.natCast_nonneg, ha, and_self, opt1, Int.toNat_natCast, g1, dB, Nat.reduceLeDiff, List.take, Option.isSome, hput_c, hput_n, ↓hget_h, D.isBot, D.cells, List.all, D.leaf, Bool.and_true, splice, List.nil_append, List.drop, List.append_nil, c2, ash, p0, e7, a1, a2, ints_all, gr, Bool.not_false, ARun_some, AG_tf, AG_un, thenQ, blockQ]) | (subst hK; repeat' (first | with_reducible refine thenQ_n ?_ | with_reducible refine blockQ_n ?_ | with_reducible refine thenQ_e ?_ | with_reducible refine blockQ_t ?_ | with_reducible refine blockQ_f (by decide) ?_))))
        all_goals (refine end_to [] [] (by first | exact .inl rfl | exact .inr rfl) rfl (by kernel_rfl) (by kernel_rfl) (by kernel_rfl) ?_ ?_ <;> repeat' (first | exact trivial | exact vr_val _ | exact vr_nil | apply vr_tup | apply And.intro))
    | true =>
      rw [hF] at fr
      have hnin : ¬ inSub (fAt l k) n := fun hin => by rw [if_pos hin] at hok; exact hok (hcf.2 hF)
      rw [if_neg hnin] at hok
      have qi : ((n : Int).tmod (fAt l k).every != (fAt l k).phase) = true := by simp only [bne_iff_ne, ne_eq]; exact hnin
      have qx : (rAt r k != 0) = true := by simpa using hok
      clear hok hcf hnin hF
      unfold loF hiF at fr
      generalize rAt r k = x at *
      generalize fAt l k = f at *
      unfold flC at *
      cases hsg : f.sgn with
      | true =>
        rw [hsg, if_pos rfl, if_pos rfl] at fr
        rw [hsg] at g1
        (have hg : (987654321 : Nat) - 987654321 = 0 := rfl; have hr := hg; repeat' (first | refine aw_seq ?_ | (refine aw_skip ?_; repeat' (first | with_reducible refine thenQ_n ?_ | with_reducible refine blockQ_n ?_ | with_reducible refine thenQ_e ?_ | with_reducible refine blockQ_t ?_ | with_reducible refine blockQ_f (by decide) ?_)) | (refine aw_exit ?_; repeat' (first | with_reducible refine thenQ_n ?_ | with_reducible refine blockQ_n ?_ | with_reducible refine thenQ_e ?_ | with_reducible refine blockQ_t ?_ | with_reducible refine blockQ_f (by decide) ?_)) | refine aw_ret ?_ | refine aw_block ?_ | refine aw_condT rfl ?_ | refine aw_condF rfl ?_ | ((first | refine aw_hide fun K hK => aw_region ?_ | refine acall0 (fr) ?_ | refine ago_if (by omega) ?_ | skip); simp (config := {maxSteps := 10000000}) (disch := first | exact okYes (by kernel_rfl) | omega) only [List.length, Nat.zero_add, Nat.reduceAdd, Nat.reduceMul, dI, ARun_none, AOpRun, aexec, FSt.ev, St.F, eget_c, Nat.reduceBEq, ↓eget_h, cond_false, AGo_ok, St.app, putO, eput_c, eput_n, hups, List.map, ints_len, isSh, Bool.false_eq_true, ↓reduceIte, Option.map, abin, kr, decide_true, ARun_nil, dropE_c, inL_c, inL_n, beq_self_eq_true, cond_true, dropE_n, run1, hget_c, hget_n, List.getElem?_cons_succ, List.getElem?_cons_zero, Int.natCast_nonneg, ha, and_self, opt1, Int.toNat_natCast, g1, dB, Nat.reduceLeDiff, List.take, Option.isSome, hput_c, hput_n, ↓hget_h, D.isBot, D.cells, List.all, D.leaf, Bool.and_true, splice, List.nil_append, List.drop, List.append_nil, c2, ash, p0, e7, a1, a2, Int.reduceNeg, fits, c3, p1, e6, a5, a3, a4, ints_all, gr, Bool.not_true, ARun_some, AG_ff, ev, qi, AG_tt, qx, thenQ, blockQ]) | (subst hK; repeat' (first | with_reducible refine thenQ_n ?_ | with_reducible refine blockQ_n ?_ | with_reducible refine thenQ_e ?_ | with_reducible refine blockQ_t ?_ | with_reducible refine blockQ_f (by decide) ?_))))
        all_goals (refine end_to [] [] (by first | exact .inl rfl | exact .inr rfl) rfl (by kernel_rfl) (by kernel_rfl) (by kernel_rfl) ?_ ?_ <;> repeat' (first | exact trivial | exact vr_val _ | exact vr_nil | apply vr_tup | apply And.intro))
      | false =>
        rw [hsg, if_neg (by simp), if_neg (by simp)] at fr
        rw [hsg] at g1
        (have hg : (987654321 : Nat) - 987654321 = 0 := rfl; have hr := hg; repeat' (first | refine aw_seq ?_ | (refine aw_skip ?_; repeat' (first | with_reducible refine thenQ_n ?_ | with_reducible refine blockQ_n ?_ | with_reducible refine thenQ_e ?_ | with_reducible refine blockQ_t ?_ | with_reducible refine blockQ_f (by decide) ?_)) | (refine aw_exit ?_; repeat' (first | with_reducible refine thenQ_n ?_ | with_reducible refine blockQ_n ?_ | with_reducible refine thenQ_e ?_ | with_reducible refine blockQ_t ?_ | with_reducible refine blockQ_f (by decide) ?_)) | refine aw_ret ?_ | refine aw_block ?_ | refine aw_condT rfl ?_ | refine aw_condF rfl ?_ | ((first | refine aw_hide fun K hK => aw_region ?_ | refine acall0 (fr) ?_ | refine ago_if (by omega) ?_ | skip); simp (config := {maxSteps := 10000000}) (disch := first | exact okYes (by kernel_rfl) | omega) only [List.length, Nat.zero_add, Nat.reduceAdd, Nat.reduceMul, dI, ARun_none, AOpRun, aexec, FSt.ev, St.F, eget_c, Nat.reduceBEq, ↓eget_h, cond_false, AGo_ok, St.app, putO, eput_c, eput_n, hups, List.map, ints_len, isSh, Bool.false_eq_true, ↓reduceIte, Option.map, abin, kr, decide_true, ARun_nil, dropE_c, inL_c, inL_n, beq_self_eq_true, cond_true, dropE_n, run1, hget_c, hget_n, List.getElem?_cons_succ, List.getElem?_cons_zero, Int.natCast_nonneg, ha, and_self, opt1, Int.toNat_natCast, g1, dB, Nat.reduceLeDiff, List.take, Option.isSome, hput_c, hput_n, ↓hget_h, D.isBot, D.cells, List.all, D.leaf, Bool.and_true, splice, List.nil_append, List.drop, List.append_nil, c2, ash, p0, e7, a1, a2, ints_all, gr, Bool.not_true, ARun_some, AG_ff, ev, qi, AG_tt, qx, thenQ, blockQ]) | (subst hK; repeat' (first | with_reducible refine thenQ_n ?_ | with_reducible refine blockQ_n ?_ | with_reducible refine thenQ_e ?_ | with_reducible refine blockQ_t ?_ | with_reducible refine blockQ_f (by decide) ?_))))
        all_goals (refine end_to [] [] (by first | exact .inl rfl | exact .inr rfl) rfl (by kernel_rfl) (by kernel_rfl) (by kernel_rfl) ?_ ?_ <;> repeat' (first | exact trivial | exact vr_val _ | exact vr_nil | apply vr_tup | apply And.intro))
  have hst3 := hstep hok
  have hcin := icells_in (pk n l r (k + 1))
  by_cases hin : inSub (fAt l k) n
  case neg =>
    unfold packOk at hok
    rw [if_neg hin] at hok
    have epk := pk_no n l r k hin
    have qi : ((n : Int).tmod (fAt l k).every != (fAt l k).phase) = true := by simp only [bne_iff_ne, ne_eq]; exact hin
    have htk := (ic_t (pk n l r k) (fAt l k).word.toNat ((pkW n l r (fAt l k).word k : Nat) : Int) (by rw [hpl]; exact hwn)).trans (by rw [hself, ← epk] : _ = icells (pk n l r (k + 1)))
    rw [hok, hz0] at fr
    rw [hok] at gr
    have hsh : IntKind.i64.wrap (0 * 2 ^ (fAt l k).bit.toNat) = 0 := by rw [Int.zero_mul]; rfl
    have had : IntKind.i64.wrap (((pkW n l r (fAt l k).word k : Nat) : Int) + 0) = ((pkW n l r (fAt l k).word k : Nat) : Int) := by rw [Int.add_zero]; exact wrap_in (by omega) (by omega)
    have qx : ((0 : Int) != 0) = false := rfl
    clear hself gp hyes hno hstep hno2 hok hcf hin ul vl
    unfold loF hiF at fr
    generalize pkW n l r (fAt l k).word k = U at *
    generalize fAt l k = f at *
    unfold flC at *
    cases hsg : f.sgn with
    | true =>
      rw [hsg, if_pos rfl, if_pos rfl] at fr
      rw [hsg] at g1
      (have hg : (987654321 : Nat) - 987654321 = 0 := rfl; have hr := hg; repeat' (first | refine aw_seq ?_ | (refine aw_skip ?_; repeat' (first | with_reducible refine thenQ_n ?_ | with_reducible refine blockQ_n ?_ | with_reducible refine thenQ_e ?_ | with_reducible refine blockQ_t ?_ | with_reducible refine blockQ_f (by decide) ?_)) | (refine aw_exit ?_; repeat' (first | with_reducible refine thenQ_n ?_ | with_reducible refine blockQ_n ?_ | with_reducible refine thenQ_e ?_ | with_reducible refine blockQ_t ?_ | with_reducible refine blockQ_f (by decide) ?_)) | refine aw_ret ?_ | refine aw_block ?_ | refine aw_condT rfl ?_ | refine aw_condF rfl ?_ | ((first | refine aw_hide fun K hK => aw_region ?_ | refine acall0 (fr) ?_ | refine ago_if (by omega) ?_ | skip); simp (config := {maxSteps := 10000000}) (disch := first | exact okYes (by kernel_rfl) | omega) only [List.length, Nat.zero_add, Nat.reduceAdd, Nat.reduceMul, dI, ARun_none, AOpRun, aexec, FSt.ev, St.F, eget_c, Nat.reduceBEq, ↓eget_h, cond_false, AGo_ok, St.app, putO, eput_c, eput_n, hups, List.map, ints_len, isSh, Bool.false_eq_true, ↓reduceIte, Option.map, abin, kr, decide_true, ARun_nil, dropE_c, inL_c, inL_n, beq_self_eq_true, cond_true, dropE_n, run1, hget_c, hget_n, Nat.add_zero, List.getElem?_cons_succ, List.getElem?_cons_zero, Int.natCast_nonneg, ha, and_self, opt1, Int.toNat_natCast, g1, dB, Nat.reduceLeDiff, List.take, Option.isSome, hput_c, hput_n, ↓hget_h, D.isBot, D.cells, List.all, D.leaf, Bool.and_true, splice, List.nil_append, List.drop, List.append_nil, c2, ash, p0, e7, a1, a2, Int.reduceNeg, fits, c3, p1, e6, a5, a3, a4, ints_all, gr, Bool.not_true, ARun_some, AG_ff, ev, qi, AG_tt, bne_self_eq_false, Int.reduceLT, decide_false, p2, p3, Nat.mul_one, gw, c1, b1, e5, hsh, had, hcl, p4, htk]) | (subst hK; repeat' (first | with_reducible refine thenQ_n ?_ | with_reducible refine blockQ_n ?_ | with_reducible refine thenQ_e ?_ | with_reducible refine blockQ_t ?_ | with_reducible refine blockQ_f (by decide) ?_))))
      refine ⟨k + 1, ⟨by omega, hst3⟩, by omega, ?_⟩
      refine wk_to [] [(0, 0), (200, 200)] (by kernel_rfl) (by kernel_rfl) (by kernel_rfl) (by kernel_rfl) (by kernel_rfl) ?_ ?_ <;> repeat' (first | exact trivial | exact vr_val _ | exact vr_list _ | exact vr_vec _ _ _ _ rfl | exact vr_ptr _ _ _ rfl | refine And.intro ⟨_, rfl, .inl ⟨_, rfl, by decide, ?_⟩⟩ ?_ | apply And.intro | exact vrl_flat _ (by first | exact icells_in _ | exact rcells_in _ | exact scells_in _ | exact bcells_in _ | assumption))
      all_goals exact vrl_flat _ hcin
    | false =>
      rw [hsg, if_neg (by simp), if_neg (by simp)] at fr
      rw [hsg] at g1
      (have hg : (987654321 : Nat) - 987654321 = 0 := rfl; have hr := hg; repeat' (first | refine aw_seq ?_ | (refine aw_skip ?_; repeat' (first | with_reducible refine thenQ_n ?_ | with_reducible refine blockQ_n ?_ | with_reducible refine thenQ_e ?_ | with_reducible refine blockQ_t ?_ | with_reducible refine blockQ_f (by decide) ?_)) | (refine aw_exit ?_; repeat' (first | with_reducible refine thenQ_n ?_ | with_reducible refine blockQ_n ?_ | with_reducible refine thenQ_e ?_ | with_reducible refine blockQ_t ?_ | with_reducible refine blockQ_f (by decide) ?_)) | refine aw_ret ?_ | refine aw_block ?_ | refine aw_condT rfl ?_ | refine aw_condF rfl ?_ | ((first | refine aw_hide fun K hK => aw_region ?_ | refine acall0 (fr) ?_ | refine ago_if (by omega) ?_ | skip); simp (config := {maxSteps := 10000000}) (disch := first | exact okYes (by kernel_rfl) | omega) only [List.length, Nat.zero_add, Nat.reduceAdd, Nat.reduceMul, dI, ARun_none, AOpRun, aexec, FSt.ev, St.F, eget_c, Nat.reduceBEq, ↓eget_h, cond_false, AGo_ok, St.app, putO, eput_c, eput_n, hups, List.map, ints_len, isSh, Bool.false_eq_true, ↓reduceIte, Option.map, abin, kr, decide_true, ARun_nil, dropE_c, inL_c, inL_n, beq_self_eq_true, cond_true, dropE_n, run1, hget_c, hget_n, Nat.add_zero, List.getElem?_cons_succ, List.getElem?_cons_zero, Int.natCast_nonneg, ha, and_self, opt1, Int.toNat_natCast, g1, dB, Nat.reduceLeDiff, List.take, Option.isSome, hput_c, hput_n, ↓hget_h, D.isBot, D.cells, List.all, D.leaf, Bool.and_true, splice, List.nil_append, List.drop, List.append_nil, c2, ash, p0, e7, a1, a2, ints_all, gr, Bool.not_true, ARun_some, AG_ff, ev, qi, AG_tt, bne_self_eq_false, Int.reduceLT, decide_false, p2, p3, Nat.mul_one, gw, c1, b1, e5, hsh, had, hcl, p4, htk, fits]) | (subst hK; repeat' (first | with_reducible refine thenQ_n ?_ | with_reducible refine blockQ_n ?_ | with_reducible refine thenQ_e ?_ | with_reducible refine blockQ_t ?_ | with_reducible refine blockQ_f (by decide) ?_))))
      refine ⟨k + 1, ⟨by omega, hst3⟩, by omega, ?_⟩
      refine wk_to [] [(0, 0), (200, 200)] (by kernel_rfl) (by kernel_rfl) (by kernel_rfl) (by kernel_rfl) (by kernel_rfl) ?_ ?_ <;> repeat' (first | exact trivial | exact vr_val _ | exact vr_list _ | exact vr_vec _ _ _ _ rfl | exact vr_ptr _ _ _ rfl | refine And.intro ⟨_, rfl, .inl ⟨_, rfl, by decide, ?_⟩⟩ ?_ | apply And.intro | exact vrl_flat _ (by first | exact icells_in _ | exact rcells_in _ | exact scells_in _ | exact bcells_in _ | assumption))
      all_goals exact vrl_flat _ hcin
  have hc : canF (fAt l k) (rAt r k) := by unfold packOk at hok; rwa [if_pos hin] at hok
  rw [hcf.1 hc] at fr
  have epk := pk_in n l r k hin wd1
  have qi : ((n : Int).tmod (fAt l k).every != (fAt l k).phase) = false := by simp only [bne_eq_false_iff_eq]; exact hin
  have hand := pkW_and h1 hn4 r hkf hin
  have hor := or_add ul vl hand
  have htk := ic_t (pk n l r k) (fAt l k).word.toNat ((pkW n l r (fAt l k).word k ||| fvN (fAt l k) (rAt r k) : Nat) : Int) (by rw [hpl]; exact hwn)
  rw [← epk] at htk
  have hcm := can_mod hf (rAt r k) hc
  have hfv : ((fmod (fAt l k) (rAt r k) : Nat) : Int) * 2 ^ (fAt l k).bit.toNat = ((fvN (fAt l k) (rAt r k) : Nat) : Int) := by unfold fvN; simp
  have had : IntKind.i64.wrap (((pkW n l r (fAt l k).word k : Nat) : Int) + ((fvN (fAt l k) (rAt r k) : Nat) : Int)) = ((pkW n l r (fAt l k).word k ||| fvN (fAt l k) (rAt r k) : Nat) : Int) := by
    rw [hor, Int.natCast_add]
    exact wrap_in (by omega) (by omega)
  have fml := fmod_lt (fAt l k) (rAt r k)
  by_cases hx0 : rAt r k < 0
  · rw [if_pos hx0] at hcm
    have qn : decide (rAt r k < 0) = true := decide_eq_true hx0
    have hxp : IntKind.i64.wrap (rAt r k + ((2 ^ (fAt l k).size.toNat : Nat) : Int)) = ((fmod (fAt l k) (rAt r k) : Nat) : Int) := by
      rw [hcm, pp]; exact wrap_in (by omega) (by omega)
    have hsh : IntKind.i64.wrap (((fmod (fAt l k) (rAt r k) : Nat) : Int) * 2 ^ (fAt l k).bit.toNat) = ((fvN (fAt l k) (rAt r k) : Nat) : Int) := by
      rw [hfv]; exact wrap_in (by omega) (by omega)
    clear hself gp hyes hno hstep hno2 hok hcf hin hc hand hor hcm hfv
    unfold loF hiF at fr
    generalize pkW n l r (fAt l k).word k = U at *
    generalize fvN (fAt l k) (rAt r k) = V at *
    generalize fmod (fAt l k) (rAt r k) = M at *
    generalize rAt r k = x at *
    generalize fAt l k = f at *
    unfold flC at *
    cases hsg : f.sgn with
    | true =>
      rw [hsg, if_pos rfl, if_pos rfl] at fr
      rw [hsg] at g1
      (have hg : (987654321 : Nat) - 987654321 = 0 := rfl; have hr := hg; repeat' (first | refine aw_seq ?_ | (refine aw_skip ?_; repeat' (first | with_reducible refine thenQ_n ?_ | with_reducible refine blockQ_n ?_ | with_reducible refine thenQ_e ?_ | with_reducible refine blockQ_t ?_ | with_reducible refine blockQ_f (by decide) ?_)) | (refine aw_exit ?_; repeat' (first | with_reducible refine thenQ_n ?_ | with_reducible refine blockQ_n ?_ | with_reducible refine thenQ_e ?_ | with_reducible refine blockQ_t ?_ | with_reducible refine blockQ_f (by decide) ?_)) | refine aw_ret ?_ | refine aw_block ?_ | refine aw_condT rfl ?_ | refine aw_condF rfl ?_ | ((first | refine aw_hide fun K hK => aw_region ?_ | refine acall0 (fr) ?_ | refine ago_if (by omega) ?_ | skip); simp (config := {maxSteps := 10000000}) (disch := first | exact okYes (by kernel_rfl) | omega) only [List.length, Nat.zero_add, Nat.reduceAdd, Nat.reduceMul, dI, ARun_none, AOpRun, aexec, FSt.ev, St.F, eget_c, Nat.reduceBEq, ↓eget_h, cond_false, AGo_ok, St.app, putO, eput_c, eput_n, hups, List.map, ints_len, isSh, Bool.false_eq_true, ↓reduceIte, Option.map, abin, kr, decide_true, ARun_nil, dropE_c, inL_c, inL_n, beq_self_eq_true, cond_true, dropE_n, run1, hget_c, hget_n, Nat.add_zero, List.getElem?_cons_succ, List.getElem?_cons_zero, Int.natCast_nonneg, ha, and_self, opt1, Int.toNat_natCast, g1, dB, Nat.reduceLeDiff, List.take, Option.isSome, hput_c, hput_n, ↓hget_h, D.isBot, D.cells, List.all, D.leaf, Bool.and_true, splice, List.nil_append, List.drop, List.append_nil, c2, ash, p0, e7, a1, a2, Int.reduceNeg, fits, c3, p1, e6, a5, a3, a4, ints_all, gr, Bool.not_true, ARun_some, AG_ff, ev, qi, AG_ft, qn, hxp, p2, p3, Nat.mul_one, gw, c1, b1, e5, hsh, had, hcl, p4, htk]) | (subst hK; repeat' (first | with_reducible refine thenQ_n ?_ | with_reducible refine blockQ_n ?_ | with_reducible refine thenQ_e ?_ | with_reducible refine blockQ_t ?_ | with_reducible refine blockQ_f (by decide) ?_))))
      refine ⟨k + 1, ⟨by omega, hst3⟩, by omega, ?_⟩
      refine wk_to [] [(0, 0), (200, 200)] (by kernel_rfl) (by kernel_rfl) (by kernel_rfl) (by kernel_rfl) (by kernel_rfl) ?_ ?_ <;> repeat' (first | exact trivial | exact vr_val _ | exact vr_list _ | exact vr_vec _ _ _ _ rfl | exact vr_ptr _ _ _ rfl | refine And.intro ⟨_, rfl, .inl ⟨_, rfl, by decide, ?_⟩⟩ ?_ | apply And.intro | exact vrl_flat _ (by first | exact icells_in _ | exact rcells_in _ | exact scells_in _ | exact bcells_in _ | assumption))
      all_goals exact vrl_flat _ hcin
    | false =>
      rw [hsg, if_neg (by simp), if_neg (by simp)] at fr
      rw [hsg] at g1
      (have hg : (987654321 : Nat) - 987654321 = 0 := rfl; have hr := hg; repeat' (first | refine aw_seq ?_ | (refine aw_skip ?_; repeat' (first | with_reducible refine thenQ_n ?_ | with_reducible refine blockQ_n ?_ | with_reducible refine thenQ_e ?_ | with_reducible refine blockQ_t ?_ | with_reducible refine blockQ_f (by decide) ?_)) | (refine aw_exit ?_; repeat' (first | with_reducible refine thenQ_n ?_ | with_reducible refine blockQ_n ?_ | with_reducible refine thenQ_e ?_ | with_reducible refine blockQ_t ?_ | with_reducible refine blockQ_f (by decide) ?_)) | refine aw_ret ?_ | refine aw_block ?_ | refine aw_condT rfl ?_ | refine aw_condF rfl ?_ | ((first | refine aw_hide fun K hK => aw_region ?_ | refine acall0 (fr) ?_ | refine ago_if (by omega) ?_ | skip); simp (config := {maxSteps := 10000000}) (disch := first | exact okYes (by kernel_rfl) | omega) only [List.length, Nat.zero_add, Nat.reduceAdd, Nat.reduceMul, dI, ARun_none, AOpRun, aexec, FSt.ev, St.F, eget_c, Nat.reduceBEq, ↓eget_h, cond_false, AGo_ok, St.app, putO, eput_c, eput_n, hups, List.map, ints_len, isSh, Bool.false_eq_true, ↓reduceIte, Option.map, abin, kr, decide_true, ARun_nil, dropE_c, inL_c, inL_n, beq_self_eq_true, cond_true, dropE_n, run1, hget_c, hget_n, Nat.add_zero, List.getElem?_cons_succ, List.getElem?_cons_zero, Int.natCast_nonneg, ha, and_self, opt1, Int.toNat_natCast, g1, dB, Nat.reduceLeDiff, List.take, Option.isSome, hput_c, hput_n, ↓hget_h, D.isBot, D.cells, List.all, D.leaf, Bool.and_true, splice, List.nil_append, List.drop, List.append_nil, c2, ash, p0, e7, a1, a2, ints_all, gr, Bool.not_true, ARun_some, AG_ff, ev, qi, AG_ft, qn, hxp, p2, p3, Nat.mul_one, gw, c1, b1, e5, hsh, had, hcl, p4, htk, fits]) | (subst hK; repeat' (first | with_reducible refine thenQ_n ?_ | with_reducible refine blockQ_n ?_ | with_reducible refine thenQ_e ?_ | with_reducible refine blockQ_t ?_ | with_reducible refine blockQ_f (by decide) ?_))))
      refine ⟨k + 1, ⟨by omega, hst3⟩, by omega, ?_⟩
      refine wk_to [] [(0, 0), (200, 200)] (by kernel_rfl) (by kernel_rfl) (by kernel_rfl) (by kernel_rfl) (by kernel_rfl) ?_ ?_ <;> repeat' (first | exact trivial | exact vr_val _ | exact vr_list _ | exact vr_vec _ _ _ _ rfl | exact vr_ptr _ _ _ rfl | refine And.intro ⟨_, rfl, .inl ⟨_, rfl, by decide, ?_⟩⟩ ?_ | apply And.intro | exact vrl_flat _ (by first | exact icells_in _ | exact rcells_in _ | exact scells_in _ | exact bcells_in _ | assumption))
      all_goals exact vrl_flat _ hcin
  · rw [if_neg hx0] at hcm
    have qn : decide (rAt r k < 0) = false := decide_eq_false hx0
    have hsh : IntKind.i64.wrap (rAt r k * 2 ^ (fAt l k).bit.toNat) = ((fvN (fAt l k) (rAt r k) : Nat) : Int) := by
      have e9 : rAt r k * 2 ^ (fAt l k).bit.toNat = ((fvN (fAt l k) (rAt r k) : Nat) : Int) := by rw [← hfv, hcm]
      rw [e9]; exact wrap_in (by omega) (by omega)
    clear hself gp hyes hno hstep hno2 hok hcf hin hc hand hor hcm hfv
    unfold loF hiF at fr
    generalize pkW n l r (fAt l k).word k = U at *
    generalize fvN (fAt l k) (rAt r k) = V at *
    generalize rAt r k = x at *
    generalize fAt l k = f at *
    unfold flC at *
    cases hsg : f.sgn with
    | true =>
      rw [hsg, if_pos rfl, if_pos rfl] at fr
      rw [hsg] at g1
      (have hg : (987654321 : Nat) - 987654321 = 0 := rfl; have hr := hg; repeat' (first | refine aw_seq ?_ | (refine aw_skip ?_; repeat' (first | with_reducible refine thenQ_n ?_ | with_reducible refine blockQ_n ?_ | with_reducible refine thenQ_e ?_ | with_reducible refine blockQ_t ?_ | with_reducible refine blockQ_f (by decide) ?_)) | (refine aw_exit ?_; repeat' (first | with_reducible refine thenQ_n ?_ | with_reducible refine blockQ_n ?_ | with_reducible refine thenQ_e ?_ | with_reducible refine blockQ_t ?_ | with_reducible refine blockQ_f (by decide) ?_)) | refine aw_ret ?_ | refine aw_block ?_ | refine aw_condT rfl ?_ | refine aw_condF rfl ?_ | ((first | refine aw_hide fun K hK => aw_region ?_ | refine acall0 (fr) ?_ | refine ago_if (by omega) ?_ | skip); simp (config := {maxSteps := 10000000}) (disch := first | exact okYes (by kernel_rfl) | omega) only [List.length, Nat.zero_add, Nat.reduceAdd, Nat.reduceMul, dI, ARun_none, AOpRun, aexec, FSt.ev, St.F, eget_c, Nat.reduceBEq, ↓eget_h, cond_false, AGo_ok, St.app, putO, eput_c, eput_n, hups, List.map, ints_len, isSh, Bool.false_eq_true, ↓reduceIte, Option.map, abin, kr, decide_true, ARun_nil, dropE_c, inL_c, inL_n, beq_self_eq_true, cond_true, dropE_n, run1, hget_c, hget_n, Nat.add_zero, List.getElem?_cons_succ, List.getElem?_cons_zero, Int.natCast_nonneg, ha, and_self, opt1, Int.toNat_natCast, g1, dB, Nat.reduceLeDiff, List.take, Option.isSome, hput_c, hput_n, ↓hget_h, D.isBot, D.cells, List.all, D.leaf, Bool.and_true, splice, List.nil_append, List.drop, List.append_nil, c2, ash, p0, e7, a1, a2, Int.reduceNeg, fits, c3, p1, e6, a5, a3, a4, ints_all, gr, Bool.not_true, ARun_some, AG_ff, ev, qi, AG_ft, qn, p2, p3, Nat.mul_one, gw, c1, b1, e5, hsh, had, hcl, p4, htk]) | (subst hK; repeat' (first | with_reducible refine thenQ_n ?_ | with_reducible refine blockQ_n ?_ | with_reducible refine thenQ_e ?_ | with_reducible refine blockQ_t ?_ | with_reducible refine blockQ_f (by decide) ?_))))
      refine ⟨k + 1, ⟨by omega, hst3⟩, by omega, ?_⟩
      refine wk_to [] [(0, 0), (200, 200)] (by kernel_rfl) (by kernel_rfl) (by kernel_rfl) (by kernel_rfl) (by kernel_rfl) ?_ ?_ <;> repeat' (first | exact trivial | exact vr_val _ | exact vr_list _ | exact vr_vec _ _ _ _ rfl | exact vr_ptr _ _ _ rfl | refine And.intro ⟨_, rfl, .inl ⟨_, rfl, by decide, ?_⟩⟩ ?_ | apply And.intro | exact vrl_flat _ (by first | exact icells_in _ | exact rcells_in _ | exact scells_in _ | exact bcells_in _ | assumption))
      all_goals exact vrl_flat _ hcin
    | false =>
      rw [hsg, if_neg (by simp), if_neg (by simp)] at fr
      rw [hsg] at g1
      (have hg : (987654321 : Nat) - 987654321 = 0 := rfl; have hr := hg; repeat' (first | refine aw_seq ?_ | (refine aw_skip ?_; repeat' (first | with_reducible refine thenQ_n ?_ | with_reducible refine blockQ_n ?_ | with_reducible refine thenQ_e ?_ | with_reducible refine blockQ_t ?_ | with_reducible refine blockQ_f (by decide) ?_)) | (refine aw_exit ?_; repeat' (first | with_reducible refine thenQ_n ?_ | with_reducible refine blockQ_n ?_ | with_reducible refine thenQ_e ?_ | with_reducible refine blockQ_t ?_ | with_reducible refine blockQ_f (by decide) ?_)) | refine aw_ret ?_ | refine aw_block ?_ | refine aw_condT rfl ?_ | refine aw_condF rfl ?_ | ((first | refine aw_hide fun K hK => aw_region ?_ | refine acall0 (fr) ?_ | refine ago_if (by omega) ?_ | skip); simp (config := {maxSteps := 10000000}) (disch := first | exact okYes (by kernel_rfl) | omega) only [List.length, Nat.zero_add, Nat.reduceAdd, Nat.reduceMul, dI, ARun_none, AOpRun, aexec, FSt.ev, St.F, eget_c, Nat.reduceBEq, ↓eget_h, cond_false, AGo_ok, St.app, putO, eput_c, eput_n, hups, List.map, ints_len, isSh, Bool.false_eq_true, ↓reduceIte, Option.map, abin, kr, decide_true, ARun_nil, dropE_c, inL_c, inL_n, beq_self_eq_true, cond_true, dropE_n, run1, hget_c, hget_n, Nat.add_zero, List.getElem?_cons_succ, List.getElem?_cons_zero, Int.natCast_nonneg, ha, and_self, opt1, Int.toNat_natCast, g1, dB, Nat.reduceLeDiff, List.take, Option.isSome, hput_c, hput_n, ↓hget_h, D.isBot, D.cells, List.all, D.leaf, Bool.and_true, splice, List.nil_append, List.drop, List.append_nil, c2, ash, p0, e7, a1, a2, ints_all, gr, Bool.not_true, ARun_some, AG_ff, ev, qi, AG_ft, qn, p2, p3, Nat.mul_one, gw, c1, b1, e5, hsh, had, hcl, p4, htk, fits]) | (subst hK; repeat' (first | with_reducible refine thenQ_n ?_ | with_reducible refine blockQ_n ?_ | with_reducible refine thenQ_e ?_ | with_reducible refine blockQ_t ?_ | with_reducible refine blockQ_f (by decide) ?_))))
      refine ⟨k + 1, ⟨by omega, hst3⟩, by omega, ?_⟩
      refine wk_to [] [(0, 0), (200, 200)] (by kernel_rfl) (by kernel_rfl) (by kernel_rfl) (by kernel_rfl) (by kernel_rfl) ?_ ?_ <;> repeat' (first | exact trivial | exact vr_val _ | exact vr_list _ | exact vr_vec _ _ _ _ rfl | exact vr_ptr _ _ _ rfl | refine And.intro ⟨_, rfl, .inl ⟨_, rfl, by decide, ?_⟩⟩ ?_ | apply And.intro | exact vrl_flat _ (by first | exact icells_in _ | exact rcells_in _ | exact scells_in _ | exact bcells_in _ | assumption))
      all_goals exact vrl_flat _ hcin
end Go.Proofs.Ytdcodicoclecnaa
/- The law of Pack. No conditions. -/
set_option linter.unusedSimpArgs false
set_option linter.unusedVariables false
namespace Go.Proofs.Ytdcodicoclecnaa
open Go Go.RowKit Lift

theorem packR_len (l : Lay) (s : Int) (r : List Int) : (packR l s r).length ≤ 32 := by
  unfold packR
  split
  · rename_i h
    have h1 : LayOk l := by
      refine Classical.byContradiction fun hn => ?_
      rw [packE_lay hn] at h; cases h
    rw [pk_len]
    have := h1.w2
    omega
  · simp
set_option maxRecDepth 100000 in
set_option maxHeartbeats 8000000 in
theorem lawPacks_ac (l : Lay) (s : Int) (r : List Int) (hl : LayIn l) (hr : r.length ≤ maxLen) : AC Try.prog 5 [layD l, dI s, .list (ints r)] [] [] (dB true) := by
  refine klaw12_RecordPacks.ac (n0 := 0) (by simp) ⟨in_layD _ _, .val _, .list _, trivial⟩ trivial rfl ?_
  unfold claw12_RecordPacks
  have hmax : maxLen = 9223372036854775807 := rfl
  have hnf := hl.nf
  have c1 := pack_ac l s r hl hr
  have c2 := rpack_ac l s r hl hr
  have hpl := packR_len l s r
  cases q1 : decide ((l.fl.length : Int) > 20) with
  | true =>
    unfold layD layC at *
    (have hg : (987654321 : Nat) - 987654321 = 0 := rfl; have hr := hg; repeat' (first | refine aw_seq ?_ | (refine aw_skip ?_; repeat' (first | with_reducible refine thenQ_n ?_ | with_reducible refine blockQ_n ?_ | with_reducible refine thenQ_e ?_ | with_reducible refine blockQ_t ?_ | with_reducible refine blockQ_f (by decide) ?_)) | (refine aw_exit ?_; repeat' (first | with_reducible refine thenQ_n ?_ | with_reducible refine blockQ_n ?_ | with_reducible refine thenQ_e ?_ | with_reducible refine blockQ_t ?_ | with_reducible refine blockQ_f (by decide) ?_)) | refine aw_ret ?_ | refine aw_block ?_ | refine aw_condT rfl ?_ | refine aw_condF rfl ?_ | ((first | refine aw_hide fun K hK => aw_region ?_ | refine acall0 (works_ac) ?_ | refine ago_if (by omega) ?_ | skip); simp (config := {maxSteps := 10000000}) (disch := first | exact okYes (by kernel_rfl) | omega) only [List.length, Nat.zero_add, Nat.reduceAdd, Nat.reduceMul, envOf, dI, ARun_none, AOpRun, aexec, D.isBot, FSt.ev, St.F, ↓eget_h, Bool.false_eq_true, Option.isSome, hget_n, or_self, ↓reduceIte, D.cells, AGo_ok, St.app, putO, eput_c, Nat.reduceBEq, eput_n, cond_false, hups, hput_n, List.map, ARun_nil, dropE_c, inL_n, dropE_n, eget_c, Option.map, run1, hget_c, beq_self_eq_true, cond_true, List.getElem?_cons_succ, List.getElem?_cons_zero, fls_len, isSh, abin, q1, ARun_some, AG_tf, inL_c, dB, thenQ]) | (subst hK; repeat' (first | with_reducible refine thenQ_n ?_ | with_reducible refine blockQ_n ?_ | with_reducible refine thenQ_e ?_ | with_reducible refine blockQ_t ?_ | with_reducible refine blockQ_f (by decide) ?_))))
    all_goals (refine end_to [] [] (by first | exact .inl rfl | exact .inr rfl) rfl (by kernel_rfl) (by kernel_rfl) (by kernel_rfl) ?_ ?_ <;> repeat' (first | exact trivial | exact vr_val _))
  | false =>
  cases q2 : decide ((r.length : Int) > 30) with
  | true =>
    unfold layD layC at *
    (have hg : (987654321 : Nat) - 987654321 = 0 := rfl; have hr := hg; repeat' (first | refine aw_seq ?_ | (refine aw_skip ?_; repeat' (first | with_reducible refine thenQ_n ?_ | with_reducible refine blockQ_n ?_ | with_reducible refine thenQ_e ?_ | with_reducible refine blockQ_t ?_ | with_reducible refine blockQ_f (by decide) ?_)) | (refine aw_exit ?_; repeat' (first | with_reducible refine thenQ_n ?_ | with_reducible refine blockQ_n ?_ | with_reducible refine thenQ_e ?_ | with_reducible refine blockQ_t ?_ | with_reducible refine blockQ_f (by decide) ?_)) | refine aw_ret ?_ | refine aw_block ?_ | refine aw_condT rfl ?_ | refine aw_condF rfl ?_ | ((first | refine aw_hide fun K hK => aw_region ?_ | refine acall0 (works_ac) ?_ | refine ago_if (by omega) ?_ | skip); simp (config := {maxSteps := 10000000}) (disch := first | exact okYes (by kernel_rfl) | omega) only [List.length, Nat.zero_add, Nat.reduceAdd, Nat.reduceMul, envOf, dI, ARun_none, AOpRun, aexec, D.isBot, FSt.ev, St.F, ↓eget_h, Bool.false_eq_true, Option.isSome, hget_n, or_self, ↓reduceIte, D.cells, AGo_ok, St.app, putO, eput_c, Nat.reduceBEq, eput_n, cond_false, hups, hput_n, List.map, ARun_nil, dropE_c, inL_n, dropE_n, eget_c, Option.map, run1, hget_c, beq_self_eq_true, cond_true, List.getElem?_cons_succ, List.getElem?_cons_zero, fls_len, isSh, abin, q1, ARun_some, AG_ff, ints_len, q2, inL_c, dB, thenQ]) | (subst hK; repeat' (first | with_reducible refine thenQ_n ?_ | with_reducible refine blockQ_n ?_ | with_reducible refine thenQ_e ?_ | with_reducible refine blockQ_t ?_ | with_reducible refine blockQ_f (by decide) ?_))))
    all_goals (refine end_to [] [] (by first | exact .inl rfl | exact .inr rfl) rfl (by kernel_rfl) (by kernel_rfl) (by kernel_rfl) ?_ ?_ <;> repeat' (first | exact trivial | exact vr_val _))
  | false =>
  have n1 := of_decide_eq_false q1
  have n2 := of_decide_eq_false q2
  have cl := copyL_ac l (by omega)
  generalize packR l s r = P at *
  generalize packE l s r = E at *
  have si := sameI_ac P P (by omega) (by omega)
  rw [decide_eq_true rfl] at si
  have b1 : (E == E) = true := by simp
  unfold layD layC at *
  refine aw_seq (aw_region ?_)
  simp (config := {maxSteps := 10000000}) (disch := first | exact okYes (by kernel_rfl) | omega) only [thenQ, List.map, List.length, Nat.zero_add, Nat.reduceAdd, Nat.reduceMul, envOf, dI, ARun_none, AOpRun, aexec, D.isBot, FSt.ev, St.F, ↓eget_h, Bool.false_eq_true, Option.isSome, hget_n, or_self, ↓reduceIte, D.cells, AGo_ok, St.app, putO, eput_c, Nat.reduceBEq, eput_n, cond_false, hups, hput_n, ARun_nil, dropE_c, inL_n, dropE_n]
  refine aw_seq (aw_seq (aw_region ?_))
  simp (config := {maxSteps := 10000000}) (disch := first | exact okYes (by kernel_rfl) | omega) only [thenQ, List.length, Nat.zero_add, Nat.reduceAdd, Nat.reduceMul, ARun_none, AOpRun, aexec, FSt.ev, St.F, eget_c, Nat.reduceBEq, ↓eget_h, cond_false, AGo_ok, St.app, putO, eput_c, eput_n, hups, List.map, Option.map, run1, hget_c, beq_self_eq_true, hget_n, cond_true, List.getElem?_cons_succ, List.getElem?_cons_zero, fls_len, isSh, Bool.false_eq_true, ↓reduceIte, abin, q1, ARun_some, AG_ff, ints_len, q2, ARun_nil, dropE_c, inL_c, inL_n, dropE_n]
  refine aw_condF rfl (aw_skip ?_)
  refine aw_seq (aw_region_cut [⟨some 22, .loadN 6 (.tmp 3), none, []⟩,
     ⟨some 23, .call (.func 31) [(.tmp 22)], none, []⟩,
     ⟨some 24, .mv (.tmp 1), none, []⟩,
     ⟨some 25, .buildSl 1 0 [] [], none, []⟩,
     ⟨some 26, .mv (.tmp 2), none, []⟩,
     ⟨some 27, .app 1 8 (.tmp 25) (.tmp 26), none, []⟩]
     [⟨some 28, .call (.func 30) [(.tmp 23), (.tmp 24), (.tmp 27)], none, []⟩,
     ⟨some 21, .mv (.tmp 28), none, []⟩,
     ⟨some 29, .ext (.tmp 21) 0, none, []⟩,
     ⟨some 30, .ext (.tmp 21) 1, none, []⟩,
     ⟨some 7, .mv (.tmp 29), none, []⟩,
     ⟨some 8, .mv (.tmp 30), none, []⟩] ?_)
  simp (config := {maxSteps := 10000000}) (disch := first | exact okYes (by kernel_rfl) | omega) only [List.length, Nat.zero_add, Nat.reduceAdd, Nat.reduceMul, thenQ, ARun_none, AOpRun, FSt.ev, List.map, St.F, aexec, eget_c, Nat.reduceBEq, ↓eget_h, cond_false, hget_c, beq_self_eq_true, hget_n, cond_true, Nat.reduceLeDiff, ↓reduceIte, List.drop, List.take, AGo_ok, St.app, putO, eput_c, eput_n, hups]
  refine acall0 cl ?_
  simp (config := {maxSteps := 10000000}) (disch := first | exact okYes (by kernel_rfl) | omega) only [Nat.reduceAdd, St.app, putO, dI, eput_c, Nat.reduceBEq, eput_n, cond_false, hups, ARun_none, AOpRun, aexec, FSt.ev, St.F, eget_c, ↓eget_h, AGo_ok, List.map, Option.isSome, Nat.reduceMul, hget_c, hget_n, Bool.false_eq_true, ↓reduceIte, Option.map, fillD, hput_c, hput_n, base, ↓hget_h, List.length, Nat.zero_le, and_self, List.take, elems, ints_all, ints_len, ints_flat, Nat.zero_add, icells_leaf, and_true, ups, List.nil_append, List.cons_append]
  refine ago_if (by omega) ?_
  simp (config := {maxSteps := 10000000}) (disch := first | exact okYes (by kernel_rfl) | omega) only [AGo_ok, Nat.reduceAdd, St.app, putO, eput_c, Nat.reduceBEq, eput_n, cond_false, hups, hput_c, hput_n, hdel_c, beq_self_eq_true, hdel_n, cond_true, List.map, ARun_nil]
  refine ⟨⟨[(1, dI s), (2, .list (ints r)), (3, .ptr 0 0), (23, .agg [dI l.words, dI l.s0, dI l.s1, dI l.s2, dI l.s3, .list (fls l.fl)]), (24, dI s), (27, .list (ints r))], [(0, [dI l.words, dI l.s0, dI l.s1, dI l.s2, dI l.s3, .list (fls l.fl)])], 600⟩, ?_, of_decide_eq_true (by kernel_rfl), ?_⟩
  · unfold dI
    refine wk_to [128] [(0, 0)] (by kernel_rfl) (by kernel_rfl) (by kernel_rfl) (by kernel_rfl) (by kernel_rfl) ?_ ?_ <;> repeat' (first | exact trivial | exact vr_val _ | exact vr_list _ | exact vr_ptr _ _ _ rfl | apply vr_agg | refine vr_fl _ _ _ _ _ (by decide) rfl ?_ ?_ ?_ ?_ | refine And.intro ⟨_, rfl, .inl ⟨_, rfl, by decide, ?_⟩⟩ ?_ | apply And.intro)
    all_goals first | exact ints_one _ | exact ints_len _ | exact ints_flat _ | exact icells_in _
  simp (config := {maxSteps := 10000000}) (disch := first | exact okYes (by kernel_rfl) | omega) only [Nat.reduceSub, Nat.reduceAdd, dI, eget_c, Nat.reduceBEq, ↓eget_h, cond_false]
  refine acall0 c1 ?_
  simp (config := {maxSteps := 10000000}) (disch := first | exact okYes (by kernel_rfl) | omega) only [Nat.reduceAdd, St.app, putO, dI, eput_c, Nat.reduceBEq, eput_n, cond_false, hups, ARun_none, AOpRun, aexec, FSt.ev, St.F, eget_c, ↓eget_h, AGo_ok, List.map, opt1, Option.map, List.getElem?_cons_zero, List.getElem?_cons_succ, ARun_nil, dropE_c, inL_c, inL_n, beq_self_eq_true, cond_true, dropE_n]
  (have hg : (987654321 : Nat) - 987654321 = 0 := rfl; have hr := hg; repeat' (first | refine aw_seq ?_ | (refine aw_skip ?_; repeat' (first | with_reducible refine thenQ_n ?_ | with_reducible refine blockQ_n ?_ | with_reducible refine thenQ_e ?_ | with_reducible refine blockQ_t ?_ | with_reducible refine blockQ_f (by decide) ?_)) | (refine aw_exit ?_; repeat' (first | with_reducible refine thenQ_n ?_ | with_reducible refine blockQ_n ?_ | with_reducible refine thenQ_e ?_ | with_reducible refine blockQ_t ?_ | with_reducible refine blockQ_f (by decide) ?_)) | refine aw_ret ?_ | refine aw_block ?_ | refine aw_condT rfl ?_ | refine aw_condF rfl ?_ | ((first | refine aw_hide fun K hK => aw_region ?_ | refine acall0 (c2) ?_ | refine acall0 (si) ?_ | refine acall0 (works_ac) ?_ | refine ago_if (by omega) ?_ | skip); simp (config := {maxSteps := 10000000}) (disch := first | exact okYes (by kernel_rfl) | omega) only [List.length, Nat.zero_add, Nat.reduceAdd, Nat.reduceMul, ARun_none, AOpRun, aexec, FSt.ev, St.F, eget_c, Nat.reduceBEq, ↓eget_h, cond_false, hget_c, beq_self_eq_true, hget_n, cond_true, Nat.reduceLeDiff, ↓reduceIte, List.drop, List.take, AGo_ok, St.app, putO, eput_c, eput_n, hups, List.map, dI, opt1, Option.map, List.getElem?_cons_zero, List.getElem?_cons_succ, ARun_nil, dropE_c, inL_c, inL_n, dropE_n, dB, ARun_some, AG_tt, isSh, Bool.false_eq_true, abin]) | (subst hK; repeat' (first | with_reducible refine thenQ_n ?_ | with_reducible refine blockQ_n ?_ | with_reducible refine thenQ_e ?_ | with_reducible refine blockQ_t ?_ | with_reducible refine blockQ_f (by decide) ?_))))
  all_goals (refine end_to [] [] (by first | exact .inl rfl | exact .inr rfl) rfl (by kernel_rfl) (by kernel_rfl) (by kernel_rfl) ?_ ?_ <;> repeat' (first | exact trivial | exact vr_val _))
end Go.Proofs.Ytdcodicoclecnaa
