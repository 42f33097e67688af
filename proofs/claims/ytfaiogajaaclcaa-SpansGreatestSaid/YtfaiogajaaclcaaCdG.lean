/- The functions' bodies, translated. Written by a program; no conditions. -/
import Derived.Test.YtfaiogajaaclcaaLift
import Derived.Test.YtfaiogajaaclcaaRows
namespace Go.Proofs.Ytfaiogajaaclcaa
open Go.RowKit Lift

/-- ref01_Greatest -/
def cref01_Greatest : ACode :=
  (.seq
   (.region false [⟨some 3, .box (.tmp 0), none, []⟩,
     ⟨some 4, .box (.tmp 1), none, []⟩,
     ⟨some 6, .mv (.const (.int .i64 0)), none, []⟩,
     ⟨some 7, .mv (.const (.int .i64 0)), none, []⟩] [])
  (.seq
   (.region false [⟨some 10, .loadN 3 (.tmp 3), none, []⟩,
     ⟨some 11, .call (.func 18) [(.tmp 10)], none, []⟩,
     ⟨some 8, .mv (.tmp 11), none, []⟩] [10, 11])
  (.seq
   (.seq
    (.region false [⟨some 12, .mv (.tmp 8), none, []⟩,
      ⟨some 13, .bin .neq (.tmp 12) (.const (.int .i64 0)), none, []⟩] [12])
   (.cond (.tmp 13)
     (.seq
      (.region false [⟨some 14, .mv (.tmp 8), none, []⟩,
        ⟨some 6, .mv (.const (.int .i64 0)), none, []⟩,
        ⟨some 7, .mv (.tmp 14), none, []⟩] [14])
     .ret)
     .skip))
  (.seq
   (.seq
    (.region false [⟨some 15, .loadN 2 (.tmp 4), none, []⟩,
      ⟨some 16, .call (.func 49) [(.tmp 15)], none, []⟩,
      ⟨some 17, .un .not (.tmp 16), none, []⟩] [15, 16])
   (.cond (.tmp 17)
     (.seq
      (.region false [⟨some 6, .mv (.const (.int .i64 0)), none, []⟩,
        ⟨some 7, .mv (.const (.int .i64 10)), none, []⟩] [])
     .ret)
     .skip))
  (.seq
   (.seq
    (.region false [⟨some 18, .fad 1 (.tmp 3), none, []⟩,
      ⟨some 19, .load1 (.tmp 18), none, []⟩,
      ⟨some 20, .loadN 2 (.tmp 4), none, []⟩,
      ⟨some 21, .call (.func 69) [(.tmp 19), (.tmp 20)], none, []⟩,
      ⟨some 22, .un .not (.tmp 21), none, []⟩] [18, 19, 20, 21])
   (.cond (.tmp 22)
     (.seq
      (.region false [⟨some 6, .mv (.const (.int .i64 0)), none, []⟩,
        ⟨some 7, .mv (.const (.int .i64 1)), none, []⟩] [])
     .ret)
     .skip))
  (.seq
   (.seq
    (.region false [⟨some 23, .fad 0 (.tmp 3), none, []⟩,
      ⟨some 24, .load1 (.tmp 23), none, []⟩,
      ⟨some 25, .fad 0 (.tmp 3), none, []⟩,
      ⟨some 26, .load1 (.tmp 25), none, []⟩,
      ⟨some 27, .len_ (.tmp 26), none, []⟩,
      ⟨some 28, .bin .sub (.tmp 27) (.const (.int .i64 1)), none, []⟩,
      ⟨some 29, .iadS 1 (.tmp 24) (.tmp 28), none, []⟩,
      ⟨some 30, .load1 (.tmp 29), none, []⟩,
      ⟨some 9, .mv (.tmp 30), none, []⟩] [23, 24, 25, 26, 27, 28, 29, 30])
   (.block 0
     (.loop
       (.seq
        (.seq
         (.region false [⟨some 31, .mv (.tmp 9), none, []⟩,
           ⟨some 32, .fad 0 (.tmp 3), none, []⟩,
           ⟨some 33, .load1 (.tmp 32), none, []⟩,
           ⟨some 34, .iadS 1 (.tmp 33) (.const (.int .i64 0)), none, []⟩,
           ⟨some 35, .load1 (.tmp 34), none, []⟩,
           ⟨some 36, .bin .geq (.tmp 31) (.tmp 35), none, []⟩] [31, 32, 33, 34, 35])
        (.cond (.tmp 36)
          .skip
          (.exit 0)))
       (.seq
        (.block 1
          (.seq
           (.region false [⟨some 39, .loadN 3 (.tmp 3), none, []⟩,
             ⟨some 40, .mv (.tmp 9), none, []⟩,
             ⟨some 41, .mv (.tmp 9), none, []⟩,
             ⟨some 42, .build [(.val (.int .i64 0)), (.val (.int .i64 0))] [(0, 1, (.tmp 40)), (1, 1, (.tmp 41))], none, []⟩,
             ⟨some 43, .loadN 2 (.tmp 4), none, []⟩,
             ⟨some 44, .call (.func 70) [(.tmp 39), (.tmp 42), (.tmp 43)], none, []⟩,
             ⟨some 45, .fld1 1 (.tmp 44), none, []⟩,
             ⟨some 46, .mv (.tmp 2), none, []⟩,
             ⟨some 47, .bin .leq (.tmp 45) (.tmp 46), none, []⟩] [39, 40, 41, 42, 43, 44, 45, 46])
          (.cond (.tmp 47)
            (.seq
             (.region false [⟨some 48, .mv (.tmp 9), none, []⟩,
               ⟨some 6, .mv (.tmp 48), none, []⟩,
               ⟨some 7, .mv (.const (.int .i64 0)), none, []⟩] [48])
            .ret)
            .skip)))
       (.region false [⟨some 37, .mv (.tmp 9), none, []⟩,
         ⟨some 38, .bin .sub (.tmp 37) (.const (.int .i64 1)), none, []⟩,
         ⟨some 9, .mv (.tmp 38), none, []⟩] [37, 38]))))))
  (.seq
   (.region false [⟨some 6, .mv (.const (.int .i64 0)), none, []⟩,
     ⟨some 7, .mv (.const (.int .i64 3)), none, []⟩] [])
  .ret)))))))
set_option maxRecDepth 100000 in
theorem kref01_Greatest : IsCode Try.prog 22 49 cref01_Greatest [.tmp 6, .tmp 7] :=
  ⟨Try.f22, _, [47, 36, 22, 17, 13, 0, 1, 3, 8, 4, 9, 2, 6, 7], Try.func22, rfl, by decide, rfl, by kernel_rfl, by kernel_rfl⟩
/-- ref01_Copy -/
def cref01_Copy : ACode :=
  (.seq
   (.region false [⟨some 1, .box (.tmp 0), none, []⟩,
     ⟨some 2, .mem [(.val (.slice none 0 0)), (.val (.slice none 0 0)), (.val (.slice none 0 0))], none, []⟩] [])
  (.seq
   (.region true [⟨some 5, .buildSl 1 0 [] [], none, []⟩,
     ⟨some 6, .fad 0 (.tmp 1), none, []⟩,
     ⟨some 7, .load1 (.tmp 6), none, [1]⟩,
     ⟨some 8, .app 1 8 (.tmp 5) (.tmp 7), none, [0, 2, 1]⟩,
     ⟨some 9, .buildSl 1 0 [] [], none, []⟩,
     ⟨some 10, .fad 1 (.tmp 1), none, []⟩,
     ⟨some 11, .load1 (.tmp 10), none, [5]⟩,
     ⟨some 12, .app 1 8 (.tmp 9) (.tmp 11), none, [4, 6, 5, 3, 0, 2, 1]⟩,
     ⟨some 13, .build [(.val (.slice none 0 0)), (.val (.slice none 0 0)), (.val (.slice none 0 0))] [(0, 1, (.tmp 8)), (1, 1, (.tmp 12))], none, [3, 0, 2, 1, 7, 4, 6, 5]⟩,
     ⟨some 3, .mem [(.val (.slice none 0 0)), (.val (.slice none 0 0)), (.val (.slice none 0 0))], none, []⟩,
     ⟨none, .store 3 (.tmp 3) (.tmp 13), none, [9, 8, 3, 0, 2, 1, 7, 4, 6, 5]⟩] [5, 6, 7, 8, 9, 10, 11, 12, 13])
  (.seq
   (.seq
    (.region false [⟨some 4, .mv (.const (.int .i64 0)), none, []⟩] [])
   (.block 0
     (.loop
       (.seq
        (.seq
         (.region false [⟨some 14, .mv (.tmp 4), none, []⟩,
           ⟨some 15, .fad 2 (.tmp 1), none, []⟩,
           ⟨some 16, .load1 (.tmp 15), none, []⟩,
           ⟨some 17, .len_ (.tmp 16), none, []⟩,
           ⟨some 18, .bin .lss (.tmp 14) (.tmp 17), none, []⟩] [14, 15, 16, 17])
        (.cond (.tmp 18)
          .skip
          (.exit 0)))
       (.seq
        (.block 1
          (.region true [⟨some 21, .fad 2 (.tmp 3), none, []⟩,
            ⟨some 22, .load1 (.tmp 21), none, [0]⟩,
            ⟨some 23, .buildSl 1 0 [] [], none, []⟩,
            ⟨some 24, .fad 2 (.tmp 1), none, []⟩,
            ⟨some 25, .load1 (.tmp 24), none, [3]⟩,
            ⟨some 26, .mv (.tmp 4), none, []⟩,
            ⟨some 27, .iadS 1 (.tmp 25) (.tmp 26), none, [4, 3, 5]⟩,
            ⟨some 28, .load1 (.tmp 27), none, [6, 4, 3, 5]⟩,
            ⟨some 29, .app 1 8 (.tmp 23) (.tmp 28), none, [2, 7, 6, 4, 3, 5]⟩,
            ⟨some 30, .buildSl 1 1 [(.val (.slice none 0 0))] [(0, 1, (.tmp 29))], none, [8, 2, 7, 6, 4, 3, 5]⟩,
            ⟨some 31, .app 1 24 (.tmp 22) (.tmp 30), none, [1, 0, 9, 8, 2, 7, 6, 4, 3, 5]⟩,
            ⟨some 32, .fad 2 (.tmp 3), none, [0, 1, 2, 3, 4, 5, 6, 7, 8, 9, 10]⟩,
            ⟨none, .store 1 (.tmp 32) (.tmp 31), none, [11, 0, 1, 2, 3, 4, 5, 6, 7, 8, 9, 10]⟩] [21, 22, 23, 24, 25, 26, 27, 28, 29, 30, 31, 32]))
       (.region false [⟨some 19, .mv (.tmp 4), none, []⟩,
         ⟨some 20, .bin .add (.tmp 19) (.const (.int .i64 1)), none, []⟩,
         ⟨some 4, .mv (.tmp 20), none, []⟩] [19, 20]))))))
  (.seq
   (.region false [⟨some 33, .loadN 3 (.tmp 3), none, []⟩,
     ⟨none, .store 3 (.tmp 2) (.tmp 33), none, []⟩] [33])
  .ret))))
set_option maxRecDepth 100000 in
theorem kref01_Copy : IsCode Try.prog 21 34 cref01_Copy [.cellN 2 3] :=
  ⟨Try.f21, _, [18, 0, 1, 4, 3, 2], Try.func21, rfl, by decide, rfl, by kernel_rfl, by kernel_rfl⟩
/-- law01_SpansGreatest -/
def claw01_SpansGreatest : ACode :=
  (.seq
   (.region false [⟨some 3, .box (.tmp 0), none, []⟩,
     ⟨some 4, .box (.tmp 1), none, []⟩,
     ⟨some 5, .box (.tmp 2), none, []⟩,
     ⟨some 6, .mv (.const (.bool false)), none, []⟩] [])
  (.seq
   (.seq
    (.region true [⟨some 13, .loadN 3 (.tmp 3), none, []⟩,
      ⟨some 14, .call (.func 17) [(.tmp 13)], none, [0]⟩,
      ⟨some 15, .mv (.tmp 14), none, [1, 0]⟩,
      ⟨some 16, .loadN 3 (.tmp 3), (some (some 15, false)), [2, 1, 0]⟩,
      ⟨some 17, .call (.func 18) [(.tmp 16)], (some (some 15, false)), [3, 2, 1, 0]⟩,
      ⟨some 18, .bin .eql (.tmp 17) (.const (.int .i64 0)), (some (some 15, false)), [4, 3, 2, 1, 0]⟩,
      ⟨some 19, .mv (.tmp 18), (some (some 15, false)), [5, 4, 3, 2, 1, 0]⟩,
      ⟨some 20, .fad 0 (.tmp 3), (some (some 19, true)), [6, 5, 4, 3, 2, 1, 0]⟩,
      ⟨some 21, .load1 (.tmp 20), (some (some 19, true)), [7, 6, 5, 4, 3, 2, 1, 0]⟩,
      ⟨some 22, .fad 0 (.tmp 3), (some (some 19, true)), [6, 5, 4, 3, 2, 1, 0]⟩,
      ⟨some 23, .load1 (.tmp 22), (some (some 19, true)), [9, 6, 5, 4, 3, 2, 1, 0]⟩,
      ⟨some 24, .len_ (.tmp 23), (some (some 19, true)), [10, 9, 6, 5, 4, 3, 2, 1, 0]⟩,
      ⟨some 25, .bin .sub (.tmp 24) (.const (.int .i64 1)), (some (some 19, true)), [11, 10, 9, 6, 5, 4, 3, 2, 1, 0]⟩,
      ⟨some 26, .iadS 1 (.tmp 21) (.tmp 25), (some (some 19, true)), [8, 7, 6, 5, 4, 3, 2, 1, 0, 12, 11, 10, 9]⟩,
      ⟨some 27, .load1 (.tmp 26), (some (some 19, true)), [13, 8, 7, 6, 5, 4, 3, 2, 1, 0, 12, 11, 10, 9]⟩,
      ⟨some 28, .fad 0 (.tmp 3), (some (some 19, true)), [6, 5, 4, 3, 2, 1, 0]⟩,
      ⟨some 29, .load1 (.tmp 28), (some (some 19, true)), [15, 6, 5, 4, 3, 2, 1, 0]⟩,
      ⟨some 30, .iadS 1 (.tmp 29) (.const (.int .i64 0)), (some (some 19, true)), [16, 15, 6, 5, 4, 3, 2, 1, 0]⟩,
      ⟨some 31, .load1 (.tmp 30), (some (some 19, true)), [17, 16, 15, 6, 5, 4, 3, 2, 1, 0]⟩,
      ⟨some 32, .bin .sub (.tmp 27) (.tmp 31), (some (some 19, true)), [14, 13, 8, 7, 6, 5, 4, 3, 2, 1, 0, 12, 11, 10, 9, 18, 17, 16, 15]⟩,
      ⟨some 33, .bin .gtr (.tmp 32) (.const (.int .i64 3000)), (some (some 19, true)), [19, 14, 13, 8, 7, 6, 5, 4, 3, 2, 1, 0, 12, 11, 10, 9, 18, 17, 16, 15]⟩,
      ⟨some 34, .pick (.tmp 19) (.tmp 33) (.const (.bool false)), (some (some 15, false)), [6, 5, 4, 3, 2, 1, 0, 20, 19, 14, 13, 8, 7, 12, 11, 10, 9, 18, 17, 16, 15]⟩,
      ⟨some 35, .pick (.tmp 15) (.const (.bool true)) (.tmp 34), none, [2, 1, 0, 21, 6, 5, 4, 3, 20, 19, 14, 13, 8, 7, 12, 11, 10, 9, 18, 17, 16, 15]⟩] [13, 14, 15, 16, 17, 18, 19, 20, 21, 22, 23, 24, 25, 26, 27, 28, 29, 30, 31, 32, 33, 34])
   (.cond (.tmp 35)
     (.seq
      (.region false [⟨some 36, .call (.func 19) [], none, []⟩,
        ⟨some 6, .mv (.tmp 36), none, []⟩] [36])
     .ret)
     .skip))
  (.seq
   (.region true [⟨some 38, .loadN 3 (.tmp 3), none, []⟩,
     ⟨some 39, .call (.func 21) [(.tmp 38)], none, [0]⟩,
     ⟨some 40, .loadN 2 (.tmp 4), none, []⟩,
     ⟨some 41, .iadA 2 1 (.tmp 5) (.const (.int .i64 0)), none, []⟩,
     ⟨some 42, .load1 (.tmp 41), none, [3]⟩,
     ⟨some 43, .call (.func 20) [(.tmp 39), (.tmp 40), (.tmp 42)], none, [1, 0, 2, 4, 3]⟩,
     ⟨some 37, .mv (.tmp 43), none, [5, 1, 0, 2, 4, 3]⟩,
     ⟨some 44, .ext (.tmp 37) 0, none, [6, 5, 1, 0, 2, 4, 3]⟩,
     ⟨some 45, .ext (.tmp 37) 1, none, [6, 5, 1, 0, 2, 4, 3]⟩,
     ⟨some 7, .mv (.tmp 44), none, [7, 6, 5, 1, 0, 2, 4, 3]⟩,
     ⟨some 8, .mv (.tmp 45), none, [8, 6, 5, 1, 0, 2, 4, 3, 9, 7]⟩] [38, 39, 40, 41, 42, 43, 37, 44, 45])
  (.seq
   (.region false [⟨some 47, .loadN 3 (.tmp 3), none, []⟩,
     ⟨some 48, .loadN 2 (.tmp 4), none, []⟩,
     ⟨some 49, .iadA 2 1 (.tmp 5) (.const (.int .i64 0)), none, []⟩,
     ⟨some 50, .load1 (.tmp 49), none, []⟩,
     ⟨some 51, .call (.func 22) [(.tmp 47), (.tmp 48), (.tmp 50)], none, []⟩,
     ⟨some 46, .mv (.tmp 51), none, []⟩,
     ⟨some 52, .ext (.tmp 46) 0, none, []⟩,
     ⟨some 53, .ext (.tmp 46) 1, none, []⟩,
     ⟨some 9, .mv (.tmp 52), none, []⟩,
     ⟨some 10, .mv (.tmp 53), none, []⟩] [47, 48, 49, 50, 51, 46, 52, 53])
  (.seq
   (.seq
    (.region false [⟨some 54, .mv (.tmp 7), none, []⟩,
      ⟨some 55, .mv (.tmp 9), none, []⟩,
      ⟨some 56, .bin .neq (.tmp 54) (.tmp 55), none, []⟩,
      ⟨some 57, .mv (.tmp 56), none, []⟩,
      ⟨some 58, .mv (.tmp 8), (some (some 57, false)), []⟩,
      ⟨some 59, .mv (.tmp 10), (some (some 57, false)), []⟩,
      ⟨some 60, .bin .neq (.tmp 58) (.tmp 59), (some (some 57, false)), []⟩,
      ⟨some 61, .pick (.tmp 57) (.const (.bool true)) (.tmp 60), none, []⟩] [54, 55, 56, 57, 58, 59, 60])
   (.cond (.tmp 61)
     (.seq
      (.region false [⟨some 6, .mv (.const (.bool false)), none, []⟩] [])
     .ret)
     .skip))
  (.seq
   (.region true [⟨some 63, .loadN 3 (.tmp 3), none, []⟩,
     ⟨some 64, .call (.func 21) [(.tmp 63)], none, [0]⟩,
     ⟨some 65, .loadN 2 (.tmp 4), none, []⟩,
     ⟨some 66, .iadA 2 1 (.tmp 5) (.const (.int .i64 1)), none, []⟩,
     ⟨some 67, .load1 (.tmp 66), none, [3]⟩,
     ⟨some 68, .call (.func 20) [(.tmp 64), (.tmp 65), (.tmp 67)], none, [1, 0, 2, 4, 3]⟩,
     ⟨some 62, .mv (.tmp 68), none, [5, 1, 0, 2, 4, 3]⟩,
     ⟨some 69, .ext (.tmp 62) 0, none, [6, 5, 1, 0, 2, 4, 3]⟩,
     ⟨some 70, .ext (.tmp 62) 1, none, [6, 5, 1, 0, 2, 4, 3]⟩,
     ⟨some 11, .mv (.tmp 69), none, [7, 6, 5, 1, 0, 2, 4, 3]⟩,
     ⟨some 12, .mv (.tmp 70), none, [8, 6, 5, 1, 0, 2, 4, 3, 9, 7]⟩] [63, 64, 65, 66, 67, 68, 62, 69, 70])
  (.seq
   (.seq
    (.region false [⟨some 71, .iadA 2 1 (.tmp 5) (.const (.int .i64 1)), none, []⟩,
      ⟨some 72, .load1 (.tmp 71), none, []⟩,
      ⟨some 73, .iadA 2 1 (.tmp 5) (.const (.int .i64 0)), none, []⟩,
      ⟨some 74, .load1 (.tmp 73), none, []⟩,
      ⟨some 75, .bin .lss (.tmp 72) (.tmp 74), none, []⟩,
      ⟨some 76, .mv (.tmp 75), none, []⟩,
      ⟨some 77, .mv (.tmp 8), (some (some 76, false)), []⟩,
      ⟨some 78, .bin .neq (.tmp 77) (.const (.int .i64 0)), (some (some 76, false)), []⟩,
      ⟨some 79, .pick (.tmp 76) (.const (.bool true)) (.tmp 78), none, []⟩] [71, 72, 73, 74, 75, 76, 77, 78])
   (.cond (.tmp 79)
     (.seq
      (.region false [⟨some 80, .call (.func 19) [], none, []⟩,
        ⟨some 6, .mv (.tmp 80), none, []⟩] [80])
     .ret)
     .skip))
  (.seq
   (.region false [⟨some 81, .mv (.tmp 12), none, []⟩,
     ⟨some 82, .bin .eql (.tmp 81) (.const (.int .i64 0)), none, []⟩,
     ⟨some 83, .mv (.tmp 82), none, []⟩,
     ⟨some 84, .mv (.tmp 11), (some (some 83, true)), []⟩,
     ⟨some 85, .mv (.tmp 7), (some (some 83, true)), []⟩,
     ⟨some 86, .bin .geq (.tmp 84) (.tmp 85), (some (some 83, true)), []⟩,
     ⟨some 87, .pick (.tmp 83) (.tmp 86) (.const (.bool false)), none, []⟩,
     ⟨some 88, .mv (.tmp 87), none, []⟩,
     ⟨some 89, .call (.func 19) [], (some (some 88, true)), []⟩,
     ⟨some 90, .pick (.tmp 88) (.tmp 89) (.const (.bool false)), none, []⟩,
     ⟨some 6, .mv (.tmp 90), none, []⟩] [81, 82, 83, 84, 85, 86, 87, 88, 89, 90])
  .ret))))))))
set_option maxRecDepth 100000 in
theorem klaw01_SpansGreatest : IsCode Try.prog 3 91 claw01_SpansGreatest [.tmp 6] :=
  ⟨Try.f3, _, [79, 61, 35, 0, 1, 2, 3, 4, 5, 7, 9, 8, 10, 12, 11, 6], Try.func3, rfl, by decide, rfl, by kernel_rfl, by kernel_rfl⟩
end Go.Proofs.Ytfaiogajaaclcaa
