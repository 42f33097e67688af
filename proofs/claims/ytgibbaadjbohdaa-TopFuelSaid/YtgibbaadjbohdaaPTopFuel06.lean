/- Texts of the law TopFuel, part 6. No conditions. -/
import Derived.Test.YtgibbaadjbohdaaPTopFuel05
import Derived.Test.YtgibbaadjbohdaaRows
/- The functions' bodies, translated. Written by a program; no conditions. -/
namespace Go.Proofs.Ytgibbaadjbohdaa
open Go.RowKit Lift

/-- rotor_within -/
def crotor_within : ACode :=
  (.seq
   (.region false [⟨some 6, .mv (.const (.bool false)), none, []⟩] [])
  (.seq
   (.region false [⟨some 7, .mv (.tmp 0), none, []⟩,
     ⟨some 8, .mv (.tmp 1), none, []⟩,
     ⟨some 9, .bin .geq (.tmp 7) (.tmp 8), none, []⟩,
     ⟨some 10, .mv (.tmp 9), none, []⟩,
     ⟨some 11, .mv (.tmp 0), (some (some 10, true)), []⟩,
     ⟨some 12, .mv (.tmp 2), (some (some 10, true)), []⟩,
     ⟨some 13, .bin .leq (.tmp 11) (.tmp 12), (some (some 10, true)), []⟩,
     ⟨some 14, .pick (.tmp 10) (.tmp 13) (.const (.bool false)), none, []⟩,
     ⟨some 6, .mv (.tmp 14), none, []⟩] [7, 8, 9, 10, 11, 12, 13, 14])
  .ret))
set_option maxRecDepth 100000 in
theorem krotor_within : IsCode Try.prog 145 15 crotor_within [.tmp 6] :=
  ⟨Try.f145, _, [0, 1, 2, 6], Try.func145, rfl, by decide, rfl, by kernel_rfl, by kernel_rfl⟩
/-- rotor_limits_right -/
def crotor_limits_right : ACode :=
  (.seq
   (.region false [⟨some 1, .box (.tmp 0), none, []⟩,
     ⟨some 2, .mv (.const (.bool false)), none, []⟩] [])
  (.seq
   (.region false [⟨some 4, .mkfn 151 [] [(.tmp 1)], none, []⟩,
     ⟨some 3, .mem [(.val (.nilFunc))], none, []⟩,
     ⟨none, .store 1 (.tmp 3) (.tmp 4), none, []⟩] [4])
  (.seq
   (.region false [⟨some 5, .fad 0 (.tmp 1), none, []⟩,
     ⟨some 6, .loadN 3 (.tmp 5), none, []⟩,
     ⟨some 7, .call (.func 110) [(.tmp 6)], none, []⟩,
     ⟨some 8, .bin .eql (.tmp 7) (.const (.int .i64 0)), none, []⟩,
     ⟨some 9, .mv (.tmp 8), none, []⟩,
     ⟨some 10, .fad 0 (.tmp 1), (some (some 9, true)), []⟩,
     ⟨some 11, .fad 2 (.tmp 10), (some (some 9, true)), []⟩,
     ⟨some 12, .load1 (.tmp 11), (some (some 9, true)), []⟩,
     ⟨some 13, .mkfn 152 [] [(.tmp 3)], (some (some 9, true)), []⟩,
     ⟨some 14, .call (.func 138) [(.tmp 12), (.tmp 13)], (some (some 9, true)), []⟩,
     ⟨some 15, .un .not (.tmp 14), (some (some 9, true)), []⟩,
     ⟨some 16, .pick (.tmp 9) (.tmp 15) (.const (.bool false)), none, []⟩,
     ⟨some 2, .mv (.tmp 16), none, []⟩] [5, 6, 7, 8, 9, 10, 11, 12, 13, 14, 15, 16])
  .ret)))
set_option maxRecDepth 100000 in
theorem krotor_limits_right : IsCode Try.prog 143 17 crotor_limits_right [.tmp 2] :=
  ⟨Try.f143, _, [0, 1, 3, 2], Try.func143, rfl, by decide, rfl, by kernel_rfl, by kernel_rfl⟩
/-- rotor_limits_right_S1 -/
def crotor_limits_right_S1 : ACode :=
  (.seq
   (.region false [⟨some 3, .mv (.const (.bool false)), none, []⟩] [])
  (.seq
   (.region false [⟨some 4, .mv (.tmp 0), none, []⟩,
     ⟨some 5, .fad 3 (.tmp 1), none, []⟩,
     ⟨some 6, .load1 (.tmp 5), none, []⟩,
     ⟨some 7, .fad 4 (.tmp 1), none, []⟩,
     ⟨some 8, .load1 (.tmp 7), none, []⟩,
     ⟨some 9, .call (.func 145) [(.tmp 4), (.tmp 6), (.tmp 8)], none, []⟩,
     ⟨some 10, .un .not (.tmp 9), none, []⟩,
     ⟨some 3, .mv (.tmp 10), none, []⟩] [4, 5, 6, 7, 8, 9, 10])
  .ret))
set_option maxRecDepth 100000 in
theorem krotor_limits_right_S1 : IsCode Try.prog 151 11 crotor_limits_right_S1 [.tmp 3] :=
  ⟨Try.f151, _, [0, 1, 3], Try.func151, rfl, by decide, rfl, by kernel_rfl, by kernel_rfl⟩
/-- rotor_limits_right_S2 -/
def crotor_limits_right_S2 : ACode :=
  (.seq
   (.region false [⟨some 3, .mv (.const (.bool false)), none, []⟩] [])
  (.seq
   (.region false [⟨some 4, .mv (.tmp 0), none, []⟩,
     ⟨some 5, .load1 (.tmp 1), none, []⟩,
     ⟨some 6, .call (.func 94) [(.tmp 4), (.tmp 5)], none, []⟩,
     ⟨some 3, .mv (.tmp 6), none, []⟩] [4, 5, 6])
  .ret))
set_option maxRecDepth 100000 in
theorem krotor_limits_right_S2 : IsCode Try.prog 152 7 crotor_limits_right_S2 [.tmp 3] :=
  ⟨Try.f152, _, [0, 1, 3], Try.func152, rfl, by decide, rfl, by kernel_rfl, by kernel_rfl⟩
/-- rotor_Check -/
def crotor_Check : ACode :=
  (.seq
   (.region false [⟨some 1, .box (.tmp 0), none, []⟩,
     ⟨some 2, .mv (.const (.int .i64 0)), none, []⟩] [])
  (.seq
   (.seq
    (.region false [⟨some 11, .fad 0 (.tmp 1), none, []⟩,
      ⟨some 12, .loadN 3 (.tmp 11), none, []⟩,
      ⟨some 13, .build [(.val (.slice none 0 0)), (.val (.slice none 0 0)), (.val (.slice none 0 0)), (.val (.int .i64 0)), (.val (.int .i64 0))] [(0, 3, (.tmp 12)), (3, 1, (.const (.int .i64 0))), (4, 1, (.const (.int .i64 100000)))], none, []⟩,
      ⟨some 14, .fad 3 (.tmp 1), none, []⟩,
      ⟨some 15, .loadN 3 (.tmp 14), none, []⟩,
      ⟨some 16, .build [(.val (.slice none 0 0)), (.val (.slice none 0 0)), (.val (.slice none 0 0)), (.val (.int .i64 0)), (.val (.int .i64 0))] [(0, 3, (.tmp 15)), (3, 1, (.const (.int .i64 0))), (4, 1, (.const (.int .i64 100)))], none, []⟩,
      ⟨some 17, .fad 6 (.tmp 1), none, []⟩,
      ⟨some 18, .loadN 3 (.tmp 17), none, []⟩,
      ⟨some 19, .build [(.val (.slice none 0 0)), (.val (.slice none 0 0)), (.val (.slice none 0 0)), (.val (.int .i64 0)), (.val (.int .i64 0))] [(0, 3, (.tmp 18)), (3, 1, (.const (.int .i64 0))), (4, 1, (.const (.int .i64 100000)))], none, []⟩,
      ⟨some 20, .fad 9 (.tmp 1), none, []⟩,
      ⟨some 21, .loadN 3 (.tmp 20), none, []⟩,
      ⟨some 22, .build [(.val (.slice none 0 0)), (.val (.slice none 0 0)), (.val (.slice none 0 0)), (.val (.int .i64 0)), (.val (.int .i64 0))] [(0, 3, (.tmp 21)), (3, 1, (.const (.int .i64 0))), (4, 1, (.const (.int .i64 100000)))], none, []⟩,
      ⟨some 23, .fad 12 (.tmp 1), none, []⟩,
      ⟨some 24, .loadN 3 (.tmp 23), none, []⟩,
      ⟨some 25, .build [(.val (.slice none 0 0)), (.val (.slice none 0 0)), (.val (.slice none 0 0)), (.val (.int .i64 0)), (.val (.int .i64 0))] [(0, 3, (.tmp 24)), (3, 1, (.const (.int .i64 0))), (4, 1, (.const (.int .i64 10000)))], none, []⟩,
      ⟨some 26, .fad 15 (.tmp 1), none, []⟩,
      ⟨some 27, .loadN 3 (.tmp 26), none, []⟩,
      ⟨some 28, .build [(.val (.slice none 0 0)), (.val (.slice none 0 0)), (.val (.slice none 0 0)), (.val (.int .i64 0)), (.val (.int .i64 0))] [(0, 3, (.tmp 27)), (3, 1, (.const (.int .i64 0))), (4, 1, (.const (.int .i64 10000)))], none, []⟩,
      ⟨some 29, .fad 18 (.tmp 1), none, []⟩,
      ⟨some 30, .loadN 3 (.tmp 29), none, []⟩,
      ⟨some 31, .build [(.val (.slice none 0 0)), (.val (.slice none 0 0)), (.val (.slice none 0 0)), (.val (.int .i64 0)), (.val (.int .i64 0))] [(0, 3, (.tmp 30)), (3, 1, (.const (.int .i64 0))), (4, 1, (.const (.int .i64 10000)))], none, []⟩,
      ⟨some 32, .fad 21 (.tmp 1), none, []⟩,
      ⟨some 33, .loadN 3 (.tmp 32), none, []⟩,
      ⟨some 34, .build [(.val (.slice none 0 0)), (.val (.slice none 0 0)), (.val (.slice none 0 0)), (.val (.int .i64 0)), (.val (.int .i64 0))] [(0, 3, (.tmp 33)), (3, 1, (.const (.int .i64 1))), (4, 1, (.const (.int .i64 10000)))], none, []⟩,
      ⟨some 35, .buildSl 5 8 [(.val (.slice none 0 0)), (.val (.slice none 0 0)), (.val (.slice none 0 0)), (.val (.int .i64 0)), (.val (.int .i64 0)), (.val (.slice none 0 0)), (.val (.slice none 0 0)), (.val (.slice none 0 0)), (.val (.int .i64 0)), (.val (.int .i64 0)), (.val (.slice none 0 0)), (.val (.slice none 0 0)), (.val (.slice none 0 0)), (.val (.int .i64 0)), (.val (.int .i64 0)), (.val (.slice none 0 0)), (.val (.slice none 0 0)), (.val (.slice none 0 0)), (.val (.int .i64 0)), (.val (.int .i64 0)), (.val (.slice none 0 0)), (.val (.slice none 0 0)), (.val (.slice none 0 0)), (.val (.int .i64 0)), (.val (.int .i64 0)), (.val (.slice none 0 0)), (.val (.slice none 0 0)), (.val (.slice none 0 0)), (.val (.int .i64 0)), (.val (.int .i64 0)), (.val (.slice none 0 0)), (.val (.slice none 0 0)), (.val (.slice none 0 0)), (.val (.int .i64 0)), (.val (.int .i64 0)), (.val (.slice none 0 0)), (.val (.slice none 0 0)), (.val (.slice none 0 0)), (.val (.int .i64 0)), (.val (.int .i64 0))] [(0, 5, (.tmp 13)), (5, 5, (.tmp 16)), (10, 5, (.tmp 19)), (15, 5, (.tmp 22)), (20, 5, (.tmp 25)), (25, 5, (.tmp 28)), (30, 5, (.tmp 31)), (35, 5, (.tmp 34))], none, []⟩,
      ⟨some 36, .len_ (.tmp 35), none, []⟩,
      ⟨some 37, .mv (.const (.int .i64 0)), none, []⟩] [11, 12, 13, 14, 15, 16, 17, 18, 19, 20, 21, 22, 23, 24, 25, 26, 27, 28, 29, 30, 31, 32, 33, 34])
   (.block 0
     (.loop
       (.seq
        (.region false [⟨some 38, .bin .lss (.tmp 37) (.tmp 36), none, []⟩] [])
       (.seq
        (.cond (.tmp 38)
          .skip
          (.exit 0))
       (.seq
        (.block 1
          (.seq
           (.region false [⟨some 39, .iadS 5 (.tmp 35) (.tmp 37), none, []⟩,
             ⟨some 40, .loadN 5 (.tmp 39), none, []⟩,
             ⟨some 4, .mem [(.val (.slice none 0 0)), (.val (.slice none 0 0)), (.val (.slice none 0 0)), (.val (.int .i64 0)), (.val (.int .i64 0))], none, []⟩,
             ⟨none, .store 5 (.tmp 4) (.tmp 40), none, []⟩] [39, 40])
          (.seq
           (.region false [⟨some 41, .loadN 5 (.tmp 4), none, []⟩,
             ⟨some 42, .call (.func 143) [(.tmp 41)], none, []⟩,
             ⟨some 43, .un .not (.tmp 42), none, []⟩] [41, 42])
          (.cond (.tmp 43)
            (.seq
             (.region false [⟨some 2, .mv (.const (.int .i64 20)), none, []⟩] [])
            .ret)
            .skip))))
       (.region false [⟨some 44, .bin .add (.tmp 37) (.const (.int .i64 1)), none, []⟩,
         ⟨some 37, .mv (.tmp 44), none, []⟩] [44])))))))
  (.seq
   (.region true [⟨some 45, .fad 15 (.tmp 1), none, []⟩,
     ⟨some 46, .loadN 3 (.tmp 45), none, [0]⟩,
     ⟨some 47, .fad 18 (.tmp 1), none, []⟩,
     ⟨some 48, .loadN 3 (.tmp 47), none, [2]⟩,
     ⟨some 5, .mem [(.val (.slice none 0 0)), (.val (.slice none 0 0)), (.val (.slice none 0 0))], none, []⟩,
     ⟨some 6, .mem [(.val (.slice none 0 0)), (.val (.slice none 0 0)), (.val (.slice none 0 0))], none, []⟩,
     ⟨none, .store 3 (.tmp 5) (.tmp 46), none, [4, 1, 0, 5]⟩,
     ⟨none, .store 3 (.tmp 6) (.tmp 48), none, [5, 3, 2, 6, 4, 1, 0]⟩] [45, 46, 47, 48])
  (.seq
   (.seq
    (.region false [⟨some 49, .fad 0 (.tmp 5), none, []⟩,
      ⟨some 50, .load1 (.tmp 49), none, []⟩,
      ⟨some 51, .fad 0 (.tmp 6), none, []⟩,
      ⟨some 52, .load1 (.tmp 51), none, []⟩,
      ⟨some 53, .call (.func 144) [(.tmp 50), (.tmp 52)], none, []⟩,
      ⟨some 54, .un .not (.tmp 53), none, []⟩,
      ⟨some 55, .mv (.tmp 54), none, []⟩,
      ⟨some 56, .fad 1 (.tmp 5), (some (some 55, false)), []⟩,
      ⟨some 57, .load1 (.tmp 56), (some (some 55, false)), []⟩,
      ⟨some 58, .fad 1 (.tmp 6), (some (some 55, false)), []⟩,
      ⟨some 59, .load1 (.tmp 58), (some (some 55, false)), []⟩,
      ⟨some 60, .call (.func 144) [(.tmp 57), (.tmp 59)], (some (some 55, false)), []⟩,
      ⟨some 61, .un .not (.tmp 60), (some (some 55, false)), []⟩,
      ⟨some 62, .pick (.tmp 55) (.const (.bool true)) (.tmp 61), none, []⟩,
      ⟨some 63, .mv (.tmp 62), none, []⟩,
      ⟨some 64, .fad 24 (.tmp 1), (some (some 63, false)), []⟩,
      ⟨some 65, .load1 (.tmp 64), (some (some 63, false)), []⟩,
      ⟨some 66, .call (.func 145) [(.tmp 65), (.const (.int .i64 1)), (.const (.int .i64 1000))], (some (some 63, false)), []⟩,
      ⟨some 67, .un .not (.tmp 66), (some (some 63, false)), []⟩,
      ⟨some 68, .pick (.tmp 63) (.const (.bool true)) (.tmp 67), none, []⟩,
      ⟨some 69, .mv (.tmp 68), none, []⟩,
      ⟨some 70, .fad 25 (.tmp 1), (some (some 69, false)), []⟩,
      ⟨some 71, .load1 (.tmp 70), (some (some 69, false)), []⟩,
      ⟨some 72, .call (.func 145) [(.tmp 71), (.const (.int .i64 1)), (.const (.int .i64 1000))], (some (some 69, false)), []⟩,
      ⟨some 73, .un .not (.tmp 72), (some (some 69, false)), []⟩,
      ⟨some 74, .pick (.tmp 69) (.const (.bool true)) (.tmp 73), none, []⟩] [49, 50, 51, 52, 53, 54, 55, 56, 57, 58, 59, 60, 61, 62, 63, 64, 65, 66, 67, 68, 69, 70, 71, 72, 73])
   (.cond (.tmp 74)
     (.seq
      (.region false [⟨some 2, .mv (.const (.int .i64 20)), none, []⟩] [])
     .ret)
     .skip))
  (.seq
   (.seq
    (.region false [⟨some 75, .fad 2 (.tmp 5), none, []⟩,
      ⟨some 76, .load1 (.tmp 75), none, []⟩,
      ⟨some 77, .len_ (.tmp 76), none, []⟩,
      ⟨some 78, .mv (.const (.int .i64 0)), none, []⟩] [75])
   (.block 2
     (.loop
       (.seq
        (.region false [⟨some 79, .bin .lss (.tmp 78) (.tmp 77), none, []⟩] [])
       (.seq
        (.cond (.tmp 79)
          .skip
          (.exit 2))
       (.seq
        (.block 3
          (.seq
           (.region false [⟨some 80, .mv (.tmp 78), none, []⟩,
             ⟨some 81, .iadS 1 (.tmp 76) (.tmp 78), none, []⟩,
             ⟨some 82, .load1 (.tmp 81), none, []⟩,
             ⟨some 7, .mv (.tmp 80), none, []⟩,
             ⟨some 8, .mv (.tmp 82), none, []⟩] [80, 81, 82])
          (.seq
           (.region false [⟨some 83, .mv (.tmp 8), none, []⟩,
             ⟨some 84, .len_ (.tmp 83), none, []⟩,
             ⟨some 85, .mv (.const (.int .i64 0)), none, []⟩] [])
          (.block 4
            (.loop
              (.seq
               (.region false [⟨some 86, .bin .lss (.tmp 85) (.tmp 84), none, []⟩] [])
              (.seq
               (.cond (.tmp 86)
                 .skip
                 (.exit 4))
              (.seq
               (.block 5
                 (.seq
                  (.region false [⟨some 87, .mv (.tmp 85), none, []⟩,
                    ⟨some 88, .iadS 1 (.tmp 83) (.tmp 85), none, []⟩,
                    ⟨some 89, .load1 (.tmp 88), none, []⟩,
                    ⟨some 9, .mv (.tmp 87), none, []⟩,
                    ⟨some 10, .mv (.tmp 89), none, []⟩] [87, 88, 89])
                 (.seq
                  (.region false [⟨some 90, .mv (.tmp 10), none, []⟩,
                    ⟨some 91, .fad 2 (.tmp 6), none, []⟩,
                    ⟨some 92, .load1 (.tmp 91), none, []⟩,
                    ⟨some 93, .mv (.tmp 7), none, []⟩,
                    ⟨some 94, .iadS 1 (.tmp 92) (.tmp 93), none, []⟩,
                    ⟨some 95, .load1 (.tmp 94), none, []⟩,
                    ⟨some 96, .mv (.tmp 9), none, []⟩,
                    ⟨some 97, .iadS 1 (.tmp 95) (.tmp 96), none, []⟩,
                    ⟨some 98, .load1 (.tmp 97), none, []⟩,
                    ⟨some 99, .bin .gtr (.tmp 90) (.tmp 98), none, []⟩] [90, 91, 92, 93, 94, 95, 96, 97, 98])
                 (.cond (.tmp 99)
                   (.seq
                    (.region false [⟨some 2, .mv (.const (.int .i64 20)), none, []⟩] [])
                   .ret)
                   .skip))))
              (.region false [⟨some 100, .bin .add (.tmp 85) (.const (.int .i64 1)), none, []⟩,
                ⟨some 85, .mv (.tmp 100), none, []⟩] [100])))))))))
       (.region false [⟨some 101, .bin .add (.tmp 78) (.const (.int .i64 1)), none, []⟩,
         ⟨some 78, .mv (.tmp 101), none, []⟩] [101])))))))
  (.seq
   (.region false [⟨some 2, .mv (.const (.int .i64 0)), none, []⟩] [])
  .ret))))))
set_option maxRecDepth 100000 in
theorem krotor_Check : IsCode Try.prog 119 102 crotor_Check [.tmp 2] :=
  ⟨Try.f119, _, [99, 86, 79, 74, 43, 38, 0, 1, 37, 36, 35, 4, 5, 6, 78, 77, 76, 8, 85, 84, 83, 10, 7, 9, 2], Try.func119, rfl, by decide, rfl, by kernel_rfl, by kernel_rfl⟩
/-- rotor_valid -/
def crotor_valid : ACode :=
  (.seq
   (.region false [⟨some 1, .box (.tmp 0), none, []⟩,
     ⟨some 2, .mv (.const (.bool false)), none, []⟩] [])
  (.seq
   (.region false [⟨some 3, .loadN 2 (.tmp 1), none, []⟩,
     ⟨some 4, .buildSl 2 1 [(.val (.int .i64 0)), (.val (.int .i64 0))] [(0, 2, (.tmp 3))], none, []⟩,
     ⟨some 5, .call (.func 77) [(.tmp 4)], none, []⟩,
     ⟨some 6, .bin .eql (.tmp 5) (.const (.int .i64 0)), none, []⟩,
     ⟨some 2, .mv (.tmp 6), none, []⟩] [3, 4, 5, 6])
  .ret))
set_option maxRecDepth 100000 in
theorem krotor_valid : IsCode Try.prog 120 7 crotor_valid [.tmp 2] :=
  ⟨Try.f120, _, [0, 1, 2], Try.func120, rfl, by decide, rfl, by kernel_rfl, by kernel_rfl⟩
/-- rotor_check_S1 -/
def crotor_check_S1 : ACode :=
  (.seq
   (.region false [⟨some 1, .box (.tmp 0), none, []⟩,
     ⟨some 2, .mv (.const (.bool false)), none, []⟩] [])
  (.seq
   (.region false [⟨some 3, .loadN 2 (.tmp 1), none, []⟩,
     ⟨some 4, .call (.func 120) [(.tmp 3)], none, []⟩,
     ⟨some 5, .un .not (.tmp 4), none, []⟩,
     ⟨some 2, .mv (.tmp 5), none, []⟩] [3, 4, 5])
  .ret))
set_option maxRecDepth 100000 in
theorem krotor_check_S1 : IsCode Try.prog 121 6 crotor_check_S1 [.tmp 2] :=
  ⟨Try.f121, _, [0, 1, 2], Try.func121, rfl, by decide, rfl, by kernel_rfl, by kernel_rfl⟩
/-- rotor_check_S2 -/
def crotor_check_S2 : ACode :=
  (.seq
   (.region false [⟨some 1, .box (.tmp 0), none, []⟩,
     ⟨some 2, .mv (.const (.bool false)), none, []⟩] [])
  (.seq
   (.region false [⟨some 3, .loadN 7 (.tmp 1), none, []⟩,
     ⟨some 4, .call (.func 124) [(.tmp 3)], none, []⟩,
     ⟨some 5, .un .not (.tmp 4), none, []⟩,
     ⟨some 2, .mv (.tmp 5), none, []⟩] [3, 4, 5])
  .ret))
set_option maxRecDepth 100000 in
theorem krotor_check_S2 : IsCode Try.prog 123 6 crotor_check_S2 [.tmp 2] :=
  ⟨Try.f123, _, [0, 1, 2], Try.func123, rfl, by decide, rfl, by kernel_rfl, by kernel_rfl⟩
/-- rotor_looked_lies -/
def crotor_looked_lies : ACode :=
  (.seq
   (.region false [⟨some 1, .box (.tmp 0), none, []⟩,
     ⟨some 2, .mv (.const (.bool false)), none, []⟩] [])
  (.seq
   (.region true [⟨some 3, .fad 3 (.tmp 1), none, []⟩,
     ⟨some 4, .fad 0 (.tmp 3), none, [0]⟩,
     ⟨some 5, .load1 (.tmp 4), none, [1, 0]⟩,
     ⟨some 6, .fad 0 (.tmp 1), none, []⟩,
     ⟨some 7, .fad 0 (.tmp 6), none, [3]⟩,
     ⟨some 8, .load1 (.tmp 7), none, [4, 3]⟩,
     ⟨some 9, .iadS 1 (.tmp 8) (.const (.int .i64 0)), none, [5, 4, 3]⟩,
     ⟨some 10, .load1 (.tmp 9), none, [6, 5, 4, 3]⟩,
     ⟨some 11, .bin .geq (.tmp 5) (.tmp 10), none, [2, 1, 0, 7, 6, 5, 4, 3]⟩,
     ⟨some 12, .mv (.tmp 11), none, [8, 2, 1, 0, 7, 6, 5, 4, 3]⟩,
     ⟨some 13, .fad 3 (.tmp 1), (some (some 12, true)), [9, 8, 2, 1, 0, 7, 6, 5, 4, 3]⟩,
     ⟨some 14, .fad 1 (.tmp 13), (some (some 12, true)), [10, 9, 8, 2, 1, 0, 7, 6, 5, 4, 3]⟩,
     ⟨some 15, .load1 (.tmp 14), (some (some 12, true)), [11, 10, 9, 8, 2, 1, 0, 7, 6, 5, 4, 3]⟩,
     ⟨some 16, .fad 0 (.tmp 1), (some (some 12, true)), [9, 8, 2, 1, 0, 7, 6, 5, 4, 3]⟩,
     ⟨some 17, .fad 0 (.tmp 16), (some (some 12, true)), [13, 9, 8, 2, 1, 0, 7, 6, 5, 4, 3]⟩,
     ⟨some 18, .load1 (.tmp 17), (some (some 12, true)), [14, 13, 9, 8, 2, 1, 0, 7, 6, 5, 4, 3]⟩,
     ⟨some 19, .fad 0 (.tmp 1), (some (some 12, true)), [9, 8, 2, 1, 0, 7, 6, 5, 4, 3]⟩,
     ⟨some 20, .fad 0 (.tmp 19), (some (some 12, true)), [16, 9, 8, 2, 1, 0, 7, 6, 5, 4, 3]⟩,
     ⟨some 21, .load1 (.tmp 20), (some (some 12, true)), [17, 16, 9, 8, 2, 1, 0, 7, 6, 5, 4, 3]⟩,
     ⟨some 22, .len_ (.tmp 21), (some (some 12, true)), [18, 17, 16, 9, 8, 2, 1, 0, 7, 6, 5, 4, 3]⟩,
     ⟨some 23, .bin .sub (.tmp 22) (.const (.int .i64 1)), (some (some 12, true)), [19, 18, 17, 16, 9, 8, 2, 1, 0, 7, 6, 5, 4, 3]⟩,
     ⟨some 24, .iadS 1 (.tmp 18) (.tmp 23), (some (some 12, true)), [15, 14, 13, 9, 8, 2, 1, 0, 7, 6, 5, 4, 3, 20, 19, 18, 17, 16]⟩,
     ⟨some 25, .load1 (.tmp 24), (some (some 12, true)), [21, 15, 14, 13, 9, 8, 2, 1, 0, 7, 6, 5, 4, 3, 20, 19, 18, 17, 16]⟩,
     ⟨some 26, .bin .leq (.tmp 15) (.tmp 25), (some (some 12, true)), [12, 11, 10, 9, 8, 2, 1, 0, 7, 6, 5, 4, 3, 22, 21, 15, 14, 13, 20, 19, 18, 17, 16]⟩,
     ⟨some 27, .pick (.tmp 12) (.tmp 26) (.const (.bool false)), none, [9, 8, 2, 1, 0, 7, 6, 5, 4, 3, 23, 12, 11, 10, 22, 21, 15, 14, 13, 20, 19, 18, 17, 16]⟩,
     ⟨some 28, .mv (.tmp 27), none, [24, 9, 8, 2, 1, 0, 7, 6, 5, 4, 3, 23, 12, 11, 10, 22, 21, 15, 14, 13, 20, 19, 18, 17, 16]⟩,
     ⟨some 29, .fad 5 (.tmp 1), (some (some 28, true)), [25, 24, 9, 8, 2, 1, 0, 7, 6, 5, 4, 3, 23, 12, 11, 10, 22, 21, 15, 14, 13, 20, 19, 18, 17, 16]⟩,
     ⟨some 30, .fad 0 (.tmp 29), (some (some 28, true)), [26, 25, 24, 9, 8, 2, 1, 0, 7, 6, 5, 4, 3, 23, 12, 11, 10, 22, 21, 15, 14, 13, 20, 19, 18, 17, 16]⟩,
     ⟨some 31, .load1 (.tmp 30), (some (some 28, true)), [27, 26, 25, 24, 9, 8, 2, 1, 0, 7, 6, 5, 4, 3, 23, 12, 11, 10, 22, 21, 15, 14, 13, 20, 19, 18, 17, 16]⟩,
     ⟨some 32, .fad 0 (.tmp 1), (some (some 28, true)), [25, 24, 9, 8, 2, 1, 0, 7, 6, 5, 4, 3, 23, 12, 11, 10, 22, 21, 15, 14, 13, 20, 19, 18, 17, 16]⟩,
     ⟨some 33, .fad 1 (.tmp 32), (some (some 28, true)), [29, 25, 24, 9, 8, 2, 1, 0, 7, 6, 5, 4, 3, 23, 12, 11, 10, 22, 21, 15, 14, 13, 20, 19, 18, 17, 16]⟩,
     ⟨some 34, .load1 (.tmp 33), (some (some 28, true)), [30, 29, 25, 24, 9, 8, 2, 1, 0, 7, 6, 5, 4, 3, 23, 12, 11, 10, 22, 21, 15, 14, 13, 20, 19, 18, 17, 16]⟩,
     ⟨some 35, .iadS 1 (.tmp 34) (.const (.int .i64 0)), (some (some 28, true)), [31, 30, 29, 25, 24, 9, 8, 2, 1, 0, 7, 6, 5, 4, 3, 23, 12, 11, 10, 22, 21, 15, 14, 13, 20, 19, 18, 17, 16]⟩,
     ⟨some 36, .load1 (.tmp 35), (some (some 28, true)), [32, 31, 30, 29, 25, 24, 9, 8, 2, 1, 0, 7, 6, 5, 4, 3, 23, 12, 11, 10, 22, 21, 15, 14, 13, 20, 19, 18, 17, 16]⟩,
     ⟨some 37, .bin .geq (.tmp 31) (.tmp 36), (some (some 28, true)), [28, 27, 26, 25, 24, 9, 8, 2, 1, 0, 7, 6, 5, 4, 3, 23, 12, 11, 10, 22, 21, 15, 14, 13, 20, 19, 18, 17, 16, 33, 32, 31, 30, 29]⟩,
     ⟨some 38, .pick (.tmp 28) (.tmp 37) (.const (.bool false)), none, [25, 24, 9, 8, 2, 1, 0, 7, 6, 5, 4, 3, 23, 12, 11, 10, 22, 21, 15, 14, 13, 20, 19, 18, 17, 16, 34, 28, 27, 26, 33, 32, 31, 30, 29]⟩,
     ⟨some 39, .mv (.tmp 38), none, [35, 25, 24, 9, 8, 2, 1, 0, 7, 6, 5, 4, 3, 23, 12, 11, 10, 22, 21, 15, 14, 13, 20, 19, 18, 17, 16, 34, 28, 27, 26, 33, 32, 31, 30, 29]⟩,
     ⟨some 40, .fad 5 (.tmp 1), (some (some 39, true)), [36, 35, 25, 24, 9, 8, 2, 1, 0, 7, 6, 5, 4, 3, 23, 12, 11, 10, 22, 21, 15, 14, 13, 20, 19, 18, 17, 16, 34, 28, 27, 26, 33, 32, 31, 30, 29]⟩,
     ⟨some 41, .fad 1 (.tmp 40), (some (some 39, true)), [37, 36, 35, 25, 24, 9, 8, 2, 1, 0, 7, 6, 5, 4, 3, 23, 12, 11, 10, 22, 21, 15, 14, 13, 20, 19, 18, 17, 16, 34, 28, 27, 26, 33, 32, 31, 30, 29]⟩,
     ⟨some 42, .load1 (.tmp 41), (some (some 39, true)), [38, 37, 36, 35, 25, 24, 9, 8, 2, 1, 0, 7, 6, 5, 4, 3, 23, 12, 11, 10, 22, 21, 15, 14, 13, 20, 19, 18, 17, 16, 34, 28, 27, 26, 33, 32, 31, 30, 29]⟩,
     ⟨some 43, .fad 0 (.tmp 1), (some (some 39, true)), [36, 35, 25, 24, 9, 8, 2, 1, 0, 7, 6, 5, 4, 3, 23, 12, 11, 10, 22, 21, 15, 14, 13, 20, 19, 18, 17, 16, 34, 28, 27, 26, 33, 32, 31, 30, 29]⟩,
     ⟨some 44, .fad 1 (.tmp 43), (some (some 39, true)), [40, 36, 35, 25, 24, 9, 8, 2, 1, 0, 7, 6, 5, 4, 3, 23, 12, 11, 10, 22, 21, 15, 14, 13, 20, 19, 18, 17, 16, 34, 28, 27, 26, 33, 32, 31, 30, 29]⟩,
     ⟨some 45, .load1 (.tmp 44), (some (some 39, true)), [41, 40, 36, 35, 25, 24, 9, 8, 2, 1, 0, 7, 6, 5, 4, 3, 23, 12, 11, 10, 22, 21, 15, 14, 13, 20, 19, 18, 17, 16, 34, 28, 27, 26, 33, 32, 31, 30, 29]⟩,
     ⟨some 46, .fad 0 (.tmp 1), (some (some 39, true)), [36, 35, 25, 24, 9, 8, 2, 1, 0, 7, 6, 5, 4, 3, 23, 12, 11, 10, 22, 21, 15, 14, 13, 20, 19, 18, 17, 16, 34, 28, 27, 26, 33, 32, 31, 30, 29]⟩,
     ⟨some 47, .fad 1 (.tmp 46), (some (some 39, true)), [43, 36, 35, 25, 24, 9, 8, 2, 1, 0, 7, 6, 5, 4, 3, 23, 12, 11, 10, 22, 21, 15, 14, 13, 20, 19, 18, 17, 16, 34, 28, 27, 26, 33, 32, 31, 30, 29]⟩,
     ⟨some 48, .load1 (.tmp 47), (some (some 39, true)), [44, 43, 36, 35, 25, 24, 9, 8, 2, 1, 0, 7, 6, 5, 4, 3, 23, 12, 11, 10, 22, 21, 15, 14, 13, 20, 19, 18, 17, 16, 34, 28, 27, 26, 33, 32, 31, 30, 29]⟩,
     ⟨some 49, .len_ (.tmp 48), (some (some 39, true)), [45, 44, 43, 36, 35, 25, 24, 9, 8, 2, 1, 0, 7, 6, 5, 4, 3, 23, 12, 11, 10, 22, 21, 15, 14, 13, 20, 19, 18, 17, 16, 34, 28, 27, 26, 33, 32, 31, 30, 29]⟩,
     ⟨some 50, .bin .sub (.tmp 49) (.const (.int .i64 1)), (some (some 39, true)), [46, 45, 44, 43, 36, 35, 25, 24, 9, 8, 2, 1, 0, 7, 6, 5, 4, 3, 23, 12, 11, 10, 22, 21, 15, 14, 13, 20, 19, 18, 17, 16, 34, 28, 27, 26, 33, 32, 31, 30, 29]⟩,
     ⟨some 51, .iadS 1 (.tmp 45) (.tmp 50), (some (some 39, true)), [42, 41, 40, 36, 35, 25, 24, 9, 8, 2, 1, 0, 7, 6, 5, 4, 3, 23, 12, 11, 10, 22, 21, 15, 14, 13, 20, 19, 18, 17, 16, 34, 28, 27, 26, 33, 32, 31, 30, 29, 47, 46, 45, 44, 43]⟩,
     ⟨some 52, .load1 (.tmp 51), (some (some 39, true)), [48, 42, 41, 40, 36, 35, 25, 24, 9, 8, 2, 1, 0, 7, 6, 5, 4, 3, 23, 12, 11, 10, 22, 21, 15, 14, 13, 20, 19, 18, 17, 16, 34, 28, 27, 26, 33, 32, 31, 30, 29, 47, 46, 45, 44, 43]⟩,
     ⟨some 53, .bin .leq (.tmp 42) (.tmp 52), (some (some 39, true)), [39, 38, 37, 36, 35, 25, 24, 9, 8, 2, 1, 0, 7, 6, 5, 4, 3, 23, 12, 11, 10, 22, 21, 15, 14, 13, 20, 19, 18, 17, 16, 34, 28, 27, 26, 33, 32, 31, 30, 29, 49, 48, 42, 41, 40, 47, 46, 45, 44, 43]⟩,
     ⟨some 54, .pick (.tmp 39) (.tmp 53) (.const (.bool false)), none, [36, 35, 25, 24, 9, 8, 2, 1, 0, 7, 6, 5, 4, 3, 23, 12, 11, 10, 22, 21, 15, 14, 13, 20, 19, 18, 17, 16, 34, 28, 27, 26, 33, 32, 31, 30, 29, 50, 39, 38, 37, 49, 48, 42, 41, 40, 47, 46, 45, 44, 43]⟩,
     ⟨some 2, .mv (.tmp 54), none, [51, 36, 35, 25, 24, 9, 8, 2, 1, 0, 7, 6, 5, 4, 3, 23, 12, 11, 10, 22, 21, 15, 14, 13, 20, 19, 18, 17, 16, 34, 28, 27, 26, 33, 32, 31, 30, 29, 50, 39, 38, 37, 49, 48, 42, 41, 40, 47, 46, 45, 44, 43]⟩] [3, 4, 5, 6, 7, 8, 9, 10, 11, 12, 13, 14, 15, 16, 17, 18, 19, 20, 21, 22, 23, 24, 25, 26, 27, 28, 29, 30, 31, 32, 33, 34, 35, 36, 37, 38, 39, 40, 41, 42, 43, 44, 45, 46, 47, 48, 49, 50, 51, 52, 53, 54])
  .ret))
set_option maxRecDepth 100000 in
theorem krotor_looked_lies : IsCode Try.prog 124 55 crotor_looked_lies [.tmp 2] :=
  ⟨Try.f124, _, [0, 1, 2], Try.func124, rfl, by decide, rfl, by kernel_rfl, by kernel_rfl⟩
/-- rotor_looked_bound -/
def crotor_looked_bound : ACode :=
  (.seq
   (.region false [⟨some 1, .box (.tmp 0), none, []⟩,
     ⟨some 2, .mem [(.val (.int .i64 0)), (.val (.int .i64 0))], none, []⟩] [])
  (.seq
   (.region false [⟨some 6, .fad 0 (.tmp 1), none, []⟩,
     ⟨some 7, .loadN 3 (.tmp 6), none, []⟩,
     ⟨some 8, .fad 3 (.tmp 1), none, []⟩,
     ⟨some 9, .loadN 2 (.tmp 8), none, []⟩,
     ⟨some 10, .fad 5 (.tmp 1), none, []⟩,
     ⟨some 11, .loadN 2 (.tmp 10), none, []⟩,
     ⟨some 12, .call (.func 33) [(.tmp 7), (.tmp 9), (.tmp 11)], none, []⟩,
     ⟨some 5, .mv (.tmp 12), none, []⟩,
     ⟨some 13, .ext (.tmp 5) 0, none, []⟩,
     ⟨some 14, .ext (.tmp 5) 1, none, []⟩,
     ⟨some 3, .mem [(.val (.int .i64 0)), (.val (.int .i64 0))], none, []⟩,
     ⟨none, .store 2 (.tmp 3) (.tmp 13), none, []⟩,
     ⟨some 4, .mv (.tmp 14), none, []⟩] [6, 7, 8, 9, 10, 11, 12, 5, 13, 14, 4])
  (.seq
   (.region false [⟨some 15, .loadN 2 (.tmp 3), none, []⟩,
     ⟨none, .store 2 (.tmp 2) (.tmp 15), none, []⟩] [15])
  .ret)))
set_option maxRecDepth 100000 in
theorem krotor_looked_bound : IsCode Try.prog 73 16 crotor_looked_bound [.cellN 2 2] :=
  ⟨Try.f73, _, [0, 1, 3, 2], Try.func73, rfl, by decide, rfl, by kernel_rfl, by kernel_rfl⟩
/-- rotor_machine_level -/
def crotor_machine_level : ACode :=
  (.seq
   (.region false [⟨some 2, .box (.tmp 0), none, []⟩,
     ⟨some 3, .box (.tmp 1), none, []⟩,
     ⟨some 4, .mem [(.val (.slice none 0 0)), (.val (.slice none 0 0)), (.val (.slice none 0 0)), (.val (.int .i64 0)), (.val (.int .i64 0)), (.val (.int .i64 0)), (.val (.int .i64 0))], none, []⟩] [])
  (.seq
   (.region false [⟨some 5, .fad 0 (.tmp 2), none, []⟩,
     ⟨some 6, .fad 6 (.tmp 5), none, []⟩,
     ⟨some 7, .loadN 3 (.tmp 6), none, []⟩,
     ⟨some 8, .loadN 2 (.tmp 3), none, []⟩,
     ⟨some 9, .fad 26 (.tmp 2), none, []⟩,
     ⟨some 10, .fad 0 (.tmp 9), none, []⟩,
     ⟨some 11, .loadN 2 (.tmp 10), none, []⟩,
     ⟨some 12, .build [(.val (.slice none 0 0)), (.val (.slice none 0 0)), (.val (.slice none 0 0)), (.val (.int .i64 0)), (.val (.int .i64 0)), (.val (.int .i64 0)), (.val (.int .i64 0))] [(0, 3, (.tmp 7)), (3, 2, (.tmp 8)), (5, 2, (.tmp 11))], none, []⟩,
     ⟨none, .store 7 (.tmp 4) (.tmp 12), none, []⟩] [5, 6, 7, 8, 9, 10, 11, 12])
  .ret))
set_option maxRecDepth 100000 in
theorem krotor_machine_level : IsCode Try.prog 72 13 crotor_machine_level [.cellN 4 7] :=
  ⟨Try.f72, _, [0, 1, 2, 3, 4], Try.func72, rfl, by decide, rfl, by kernel_rfl, by kernel_rfl⟩
/-- slices_Equal_L_L_Jint_Kint_J -/
def cslices_Equal_L_L_Jint_Kint_J : ACode :=
  (.seq
   (.region false [⟨some 4, .mv (.const (.bool false)), none, []⟩] [])
  (.seq
   (.seq
    (.region false [⟨some 6, .mv (.tmp 0), none, []⟩,
      ⟨some 7, .len_ (.tmp 6), none, []⟩,
      ⟨some 8, .mv (.tmp 1), none, []⟩,
      ⟨some 9, .len_ (.tmp 8), none, []⟩,
      ⟨some 10, .bin .neq (.tmp 7) (.tmp 9), none, []⟩] [6, 7, 8, 9])
   (.cond (.tmp 10)
     (.seq
      (.region false [⟨some 4, .mv (.const (.bool false)), none, []⟩] [])
     .ret)
     .skip))
  (.seq
   (.seq
    (.region false [⟨some 11, .mv (.tmp 0), none, []⟩,
      ⟨some 12, .len_ (.tmp 11), none, []⟩,
      ⟨some 13, .mv (.const (.int .i64 0)), none, []⟩] [11])
   (.block 0
     (.loop
       (.seq
        (.region false [⟨some 14, .bin .lss (.tmp 13) (.tmp 12), none, []⟩] [])
       (.seq
        (.cond (.tmp 14)
          .skip
          (.exit 0))
       (.seq
        (.block 1
          (.seq
           (.region false [⟨some 15, .mv (.tmp 13), none, []⟩,
             ⟨some 5, .mv (.tmp 15), none, []⟩] [15])
          (.seq
           (.region true [⟨some 16, .mv (.tmp 0), none, []⟩,
             ⟨some 17, .mv (.tmp 5), none, []⟩,
             ⟨some 18, .iadS 1 (.tmp 16) (.tmp 17), none, [0, 1]⟩,
             ⟨some 19, .load1 (.tmp 18), none, [2, 0, 1]⟩,
             ⟨some 20, .mv (.tmp 1), none, []⟩,
             ⟨some 21, .mv (.tmp 5), none, []⟩,
             ⟨some 22, .iadS 1 (.tmp 20) (.tmp 21), none, [4, 5]⟩,
             ⟨some 23, .load1 (.tmp 22), none, [6, 4, 5]⟩,
             ⟨some 24, .bin .neq (.tmp 19) (.tmp 23), none, [3, 2, 0, 1, 7, 6, 4, 5]⟩] [16, 17, 18, 19, 20, 21, 22, 23])
          (.cond (.tmp 24)
            (.seq
             (.region false [⟨some 4, .mv (.const (.bool false)), none, []⟩] [])
            .ret)
            .skip))))
       (.region false [⟨some 25, .bin .add (.tmp 13) (.const (.int .i64 1)), none, []⟩,
         ⟨some 13, .mv (.tmp 25), none, []⟩] [25])))))))
  (.seq
   (.region false [⟨some 4, .mv (.const (.bool true)), none, []⟩] [])
  .ret))))
set_option maxRecDepth 100000 in
theorem kslices_Equal_L_L_Jint_Kint_J : IsCode Try.prog 144 26 cslices_Equal_L_L_Jint_Kint_J [.tmp 4] :=
  ⟨Try.f144, _, [24, 14, 10, 0, 1, 13, 12, 5, 4], Try.func144, rfl, by decide, rfl, by kernel_rfl, by kernel_rfl⟩
/-- slices_ContainsFunc_L_L_J_L_Jint_K_L_Jint_J -/
def cslices_ContainsFunc_L_L_J_L_Jint_K_L_Jint_J : ACode :=
  (.seq
   (.region false [⟨some 4, .mv (.const (.bool false)), none, []⟩] [])
  (.seq
   (.region false [⟨some 5, .mv (.tmp 0), none, []⟩,
     ⟨some 6, .mv (.tmp 1), none, []⟩,
     ⟨some 7, .call (.func 149) [(.tmp 5), (.tmp 6)], none, []⟩,
     ⟨some 8, .bin .geq (.tmp 7) (.const (.int .i64 0)), none, []⟩,
     ⟨some 4, .mv (.tmp 8), none, []⟩] [5, 6, 7, 8])
  .ret))
set_option maxRecDepth 100000 in
theorem kslices_ContainsFunc_L_L_J_L_Jint_K_L_Jint_J : IsCode Try.prog 138 9 cslices_ContainsFunc_L_L_J_L_Jint_K_L_Jint_J [.tmp 4] :=
  ⟨Try.f138, _, [0, 1, 4], Try.func138, rfl, by decide, rfl, by kernel_rfl, by kernel_rfl⟩
/-- slices_IndexFunc_L_L_J_L_Jint_K_L_Jint_J -/
def cslices_IndexFunc_L_L_J_L_Jint_K_L_Jint_J : ACode :=
  (.seq
   (.region false [⟨some 4, .mv (.const (.int .i64 0)), none, []⟩] [])
  (.seq
   (.seq
    (.region false [⟨some 6, .mv (.tmp 0), none, []⟩,
      ⟨some 7, .len_ (.tmp 6), none, []⟩,
      ⟨some 8, .mv (.const (.int .i64 0)), none, []⟩] [6])
   (.block 0
     (.loop
       (.seq
        (.region false [⟨some 9, .bin .lss (.tmp 8) (.tmp 7), none, []⟩] [])
       (.seq
        (.cond (.tmp 9)
          .skip
          (.exit 0))
       (.seq
        (.block 1
          (.seq
           (.region false [⟨some 10, .mv (.tmp 8), none, []⟩,
             ⟨some 5, .mv (.tmp 10), none, []⟩] [10])
          (.seq
           (.region false [⟨some 11, .mv (.tmp 1), none, []⟩,
             ⟨some 12, .mv (.tmp 0), none, []⟩,
             ⟨some 13, .mv (.tmp 5), none, []⟩,
             ⟨some 14, .iadS 1 (.tmp 12) (.tmp 13), none, []⟩,
             ⟨some 15, .load1 (.tmp 14), none, []⟩,
             ⟨some 16, .call (.tmp 11) [(.tmp 15)], none, []⟩] [11, 12, 13, 14, 15])
          (.cond (.tmp 16)
            (.seq
             (.region false [⟨some 17, .mv (.tmp 5), none, []⟩,
               ⟨some 4, .mv (.tmp 17), none, []⟩] [17])
            .ret)
            .skip))))
       (.region false [⟨some 18, .bin .add (.tmp 8) (.const (.int .i64 1)), none, []⟩,
         ⟨some 8, .mv (.tmp 18), none, []⟩] [18])))))))
  (.seq
   (.region false [⟨some 4, .mv (.const (.int .i64 (-1))), none, []⟩] [])
  .ret)))
set_option maxRecDepth 100000 in
theorem kslices_IndexFunc_L_L_J_L_Jint_K_L_Jint_J : IsCode Try.prog 149 19 cslices_IndexFunc_L_L_J_L_Jint_K_L_Jint_J [.tmp 4] :=
  ⟨Try.f149, _, [16, 9, 0, 8, 7, 1, 5, 4], Try.func149, rfl, by decide, rfl, by kernel_rfl, by kernel_rfl⟩
/-- slices_ContainsFunc_L_L_Jrotor_looked_Krotor_looked_J -/
def cslices_ContainsFunc_L_L_Jrotor_looked_Krotor_looked_J : ACode :=
  (.seq
   (.region false [⟨some 4, .mv (.const (.bool false)), none, []⟩] [])
  (.seq
   (.region false [⟨some 5, .mv (.tmp 0), none, []⟩,
     ⟨some 6, .mv (.tmp 1), none, []⟩,
     ⟨some 7, .call (.func 146) [(.tmp 5), (.tmp 6)], none, []⟩,
     ⟨some 8, .bin .geq (.tmp 7) (.const (.int .i64 0)), none, []⟩,
     ⟨some 4, .mv (.tmp 8), none, []⟩] [5, 6, 7, 8])
  .ret))
set_option maxRecDepth 100000 in
theorem kslices_ContainsFunc_L_L_Jrotor_looked_Krotor_looked_J : IsCode Try.prog 122 9 cslices_ContainsFunc_L_L_Jrotor_looked_Krotor_looked_J [.tmp 4] :=
  ⟨Try.f122, _, [0, 1, 4], Try.func122, rfl, by decide, rfl, by kernel_rfl, by kernel_rfl⟩
/-- slices_IndexFunc_L_L_Jrotor_looked_Krotor_looked_J -/
def cslices_IndexFunc_L_L_Jrotor_looked_Krotor_looked_J : ACode :=
  (.seq
   (.region false [⟨some 4, .mv (.const (.int .i64 0)), none, []⟩] [])
  (.seq
   (.seq
    (.region false [⟨some 6, .mv (.tmp 0), none, []⟩,
      ⟨some 7, .len_ (.tmp 6), none, []⟩,
      ⟨some 8, .mv (.const (.int .i64 0)), none, []⟩] [6])
   (.block 0
     (.loop
       (.seq
        (.region false [⟨some 9, .bin .lss (.tmp 8) (.tmp 7), none, []⟩] [])
       (.seq
        (.cond (.tmp 9)
          .skip
          (.exit 0))
       (.seq
        (.block 1
          (.seq
           (.region false [⟨some 10, .mv (.tmp 8), none, []⟩,
             ⟨some 5, .mv (.tmp 10), none, []⟩] [10])
          (.seq
           (.region false [⟨some 11, .mv (.tmp 1), none, []⟩,
             ⟨some 12, .mv (.tmp 0), none, []⟩,
             ⟨some 13, .mv (.tmp 5), none, []⟩,
             ⟨some 14, .iadS 7 (.tmp 12) (.tmp 13), none, []⟩,
             ⟨some 15, .loadN 7 (.tmp 14), none, []⟩,
             ⟨some 16, .call (.tmp 11) [(.tmp 15)], none, []⟩] [11, 12, 13, 14, 15])
          (.cond (.tmp 16)
            (.seq
             (.region false [⟨some 17, .mv (.tmp 5), none, []⟩,
               ⟨some 4, .mv (.tmp 17), none, []⟩] [17])
            .ret)
            .skip))))
       (.region false [⟨some 18, .bin .add (.tmp 8) (.const (.int .i64 1)), none, []⟩,
         ⟨some 8, .mv (.tmp 18), none, []⟩] [18])))))))
  (.seq
   (.region false [⟨some 4, .mv (.const (.int .i64 (-1))), none, []⟩] [])
  .ret)))
set_option maxRecDepth 100000 in
theorem kslices_IndexFunc_L_L_Jrotor_looked_Krotor_looked_J : IsCode Try.prog 146 19 cslices_IndexFunc_L_L_Jrotor_looked_Krotor_looked_J [.tmp 4] :=
  ⟨Try.f146, _, [16, 9, 0, 8, 7, 1, 5, 4], Try.func146, rfl, by decide, rfl, by kernel_rfl, by kernel_rfl⟩
end Go.Proofs.Ytgibbaadjbohdaa
/- rotor: the limits of a table. No conditions. -/
set_option linter.unusedSimpArgs false
set_option linter.unusedVariables false
namespace Go.Proofs.Ytgibbaadjbohdaa
open Go.RowKit Lift

def isW : D → Bool
  | .val _ => true
  | .list _ => true
  | _ => false
theorem wals_in {S : Nat → Prop} {c : List D} (h : c.all isW = true) : ∀ d ∈ c, In S d := fun d hd => by
  have := List.all_eq_true.1 h d hd
  cases d <;> first | exact .val _ | exact .list _ | (simp [isW] at this)
/-- a table -/
structure Tb where
  x : List Int
  y : List Int
  v : List (List Int)
def TbSm (t : Tb) : Prop := t.x.length ≤ 15 ∧ t.y.length ≤ 15 ∧ t.v.length ≤ 15 ∧ ∀ r ∈ t.v, r.length ≤ 15
theorem TbSm.sz {t : Tb} (h : TbSm t) : TSz t.x t.y t.v := ⟨by have := h.1; omega, by have := h.2.1; omega, by have := h.2.2.1; omega, fun r hr => by have := h.2.2.2 r hr; omega⟩
theorem TbSm.row {t : Tb} (h : TbSm t) (k : Nat) : (t.v[k]?.getD []).length ≤ 15 := by
  by_cases hk : k < t.v.length
  · rw [List.getElem?_eq_getElem hk]; exact h.2.2.2 _ (List.getElem_mem hk)
  · rw [List.getElem?_eq_none (by omega)]; simp
def limB (t : Tb) (lo hi : Int) : Bool := decide (tabErr t.x t.y t.v = 0) && t.v.all fun r => allI r lo hi
def limC (t : Tb) (lo hi : Int) : List D := [.list (ints t.x), .list (ints t.y), .list (rows t.v), dI lo, dI hi]
theorem limC_in (S : Nat → Prop) (t : Tb) (lo hi : Int) : ∀ d ∈ limC t lo hi, In S d := by
  intro d hd; simp [limC] at hd; rcases hd with rfl | rfl | rfl | rfl | rfl <;> first | exact .list _ | exact .val _
set_option maxRecDepth 100000 in
set_option maxHeartbeats 1000000 in
theorem roWithin_ac (n a b : Int) : AC Try.prog 145 [dI n, dI a, dI b] [] [] (dB (wI n a b)) := by
  refine krotor_within.ac (n0 := 0) (by simp) ⟨.val _, .val _, .val _, trivial⟩ trivial rfl ?_
  unfold crotor_within wI
  cases q1 : decide (a ≤ n) <;> cases q2 : decide (n ≤ b)
  all_goals
    (have hg : (987654321 : Nat) - 987654321 = 0 := rfl; have hr := hg; repeat' (first | refine aw_seq ?_ | (refine aw_skip ?_; try simp only [thenQ, blockQ, if_true, if_false, Nat.reduceEqDiff, reduceCtorEq]) | (refine aw_exit ?_; try simp only [thenQ, blockQ, if_true, if_false, Nat.reduceEqDiff, reduceCtorEq]) | refine aw_ret ?_ | refine aw_block ?_ | refine aw_condT rfl ?_ | refine aw_condF rfl ?_ | ((first | refine aw_region ?_ | refine ago_if (by omega) ?_ | skip); simp (config := {maxSteps := 10000000}) (disch := first | exact okYes (by kernel_rfl) | omega) only [thenQ, List.map, dB, Bool.and_false, List.length, Nat.zero_add, Nat.reduceMul, envOf, dI, Nat.reduceAdd, ARun_none, AOpRun, aexec, FSt.ev, AGo_ok, St.app, putO, eput_c, Nat.reduceBEq, eput_n, cond_false, hups, ARun_nil, dropE_c, inL_n, dropE_n, St.F, ↓eget_h, eget_c, isSh, Bool.false_eq_true, ↓reduceIte, Option.map, abin, ge_iff_le, q1, ARun_some, AG_ft, beq_self_eq_true, cond_true, inL_c, Bool.and_true, AG_tt, q2])))
    all_goals (refine end_to [] [] (by first | exact .inl rfl | exact .inr rfl) rfl (by kernel_rfl) (by kernel_rfl) (by kernel_rfl) ?_ ?_ <;> repeat' (first | exact trivial | exact vr_val _))
set_option maxRecDepth 100000 in
theorem right1_ac (x : Int) (t : Tb) (lo hi : Int) : AC Try.prog 151 [dI x, .ptr 0 0] [(0, limC t lo hi)] [(0, some (limC t lo hi))] (dB (!wI x lo hi)) := by
  refine krotor_limits_right_S1.ac (n0 := 200) (by simp) ⟨.val _, .ptr _ _ (by omega), trivial⟩ ⟨⟨by omega, limC_in _ _ _ _⟩, trivial⟩ rfl ?_
  unfold crotor_limits_right_S1 limC
  (have hg : (987654321 : Nat) - 987654321 = 0 := rfl; have hr := hg; repeat' (first | refine aw_seq ?_ | (refine aw_skip ?_; with_reducible repeat' (first | refine thenQ_n ?_ | refine blockQ_n ?_ | refine thenQ_e ?_ | refine blockQ_t ?_ | refine blockQ_f (by decide) ?_)) | (refine aw_exit ?_; with_reducible repeat' (first | refine thenQ_n ?_ | refine blockQ_n ?_ | refine thenQ_e ?_ | refine blockQ_t ?_ | refine blockQ_f (by decide) ?_)) | refine aw_ret ?_ | refine aw_block ?_ | refine aw_condT rfl ?_ | refine aw_condF rfl ?_ | ((first | refine aw_hide fun K hK => aw_region ?_ | refine acall0 (roWithin_ac _ _ _) ?_ | refine ago_if (by omega) ?_ | skip); simp (config := {maxSteps := 10000000}) (disch := first | exact okYes (by kernel_rfl) | omega) only [List.length, Nat.zero_add, Nat.reduceMul, Nat.reduceAdd, envOf, dI, ARun_none, AOpRun, aexec, FSt.ev, AGo_ok, St.app, putO, eput_c, Nat.reduceBEq, eput_n, cond_false, hups, List.map, ARun_nil, dropE_c, inL_n, dropE_n, St.F, ↓eget_h, eget_c, Option.map, run1, hget_c, beq_self_eq_true, hget_n, cond_true, List.getElem?_cons_succ, List.getElem?_cons_zero, dB, inL_c]) | (subst hK; with_reducible repeat' (first | refine thenQ_n ?_ | refine blockQ_n ?_ | refine thenQ_e ?_ | refine blockQ_t ?_ | refine blockQ_f (by decide) ?_))))
  all_goals (refine end_to [] [(0, 0)] (by first | exact .inl rfl | exact .inr rfl) rfl (by kernel_rfl) (by kernel_rfl) (by kernel_rfl) ?_ ?_ <;> repeat' (first | exact trivial | exact vr_val _ | exact vr_list _ | refine And.intro ⟨_, rfl, _, rfl, by decide, ?_⟩ ?_ | apply And.intro))
def fnD : D := .fn 151 [] [.ptr 0 0]
set_option maxRecDepth 100000 in
set_option maxHeartbeats 4000000 in
theorem roIdx_ac (l : List Int) (t : Tb) (lo hi : Int) (hl : l.length ≤ 1000000) : AC Try.prog 129 [.list (ints l), fnD] [(0, limC t lo hi), (8, [fnD])] [(0, some (limC t lo hi)), (8, some [fnD])] (dI (match l.findIdx? (fun x => !wI x lo hi) with
    | some k => (k : Int)
    | none => -1)) := by
  refine kslices_IndexFunc_L_L_Jint_Kint_J.ac (n0 := 200) (by simp) ⟨.list _, .fn _ _ _ (by simp) (by intro d hd; simp at hd; subst hd; exact .ptr _ _ (by omega)), trivial⟩ ⟨⟨by omega, limC_in _ _ _ _⟩, ⟨by omega, by intro d hd; simp at hd; subst hd; exact .fn _ _ _ (by simp) (by intro d hd; simp at hd; subst hd; exact .ptr _ _ (by omega))⟩, trivial⟩ rfl ?_
  have r1 := fun x => right1_ac x t lo hi
  unfold cslices_IndexFunc_L_L_Jint_Kint_J
  unfold limC fnD at *
  (have hg : (987654321 : Nat) - 987654321 = 0 := rfl; have hr := hg; repeat' (first | refine aw_seq ?_ | (refine aw_skip ?_; with_reducible repeat' (first | refine thenQ_n ?_ | refine blockQ_n ?_ | refine thenQ_e ?_ | refine blockQ_t ?_ | refine blockQ_f (by decide) ?_)) | (refine aw_exit ?_; with_reducible repeat' (first | refine thenQ_n ?_ | refine blockQ_n ?_ | refine thenQ_e ?_ | refine blockQ_t ?_ | refine blockQ_f (by decide) ?_)) | refine aw_ret ?_ | refine aw_block ?_ | refine aw_condT rfl ?_ | refine aw_condF rfl ?_ | ((first | refine aw_hide fun K hK => aw_region ?_ | refine ago_if (by omega) ?_ | skip); simp (config := {maxSteps := 10000000}) (disch := first | exact okYes (by kernel_rfl) | omega) only [List.length, Nat.zero_add, Nat.reduceMul, Nat.reduceAdd, envOf, dI, ARun_none, AOpRun, aexec, FSt.ev, AGo_ok, St.app, putO, eput_c, Nat.reduceBEq, eput_n, cond_false, hups, List.map, ARun_nil, dropE_c, inL_n, dropE_n, St.F, ↓eget_h, eget_c, ints_len, inL_c, beq_self_eq_true, cond_true, Int.reduceNeg]) | (subst hK; with_reducible repeat' (first | refine thenQ_n ?_ | refine blockQ_n ?_ | refine thenQ_e ?_ | refine blockQ_t ?_ | refine blockQ_f (by decide) ?_))))
  refine aw_loop (fun k : Nat => ⟨[(0, .list (ints l)), (1, .fn 151 [] [.ptr 0 0]), (7, dI l.length), (8, dI k)], [(0, [.list (ints t.x), .list (ints t.y), .list (rows t.v), dI lo, dI hi]), (8, [.fn 151 [] [.ptr 0 0]])], 400⟩) (fun k => k ≤ l.length ∧ ∀ j, j < k → wI (l[j]?.getD 0) lo hi = true) (fun k => l.length - k) ⟨0, ⟨by omega, fun j hj => by omega⟩, ?_⟩ ?_
  · unfold dI
    refine wk_to [] [(0, 0), (8, 8)] (by kernel_rfl) (by kernel_rfl) (by kernel_rfl) (by kernel_rfl) (by kernel_rfl) ?_ ?_ <;> repeat' (first | exact trivial | exact vr_val _ | exact vr_list _ | exact vr_ptr _ _ _ rfl | apply vr_fn | refine And.intro ⟨_, rfl, .inl ⟨_, rfl, by decide, ?_⟩⟩ ?_ | apply And.intro)
  rintro k ⟨hk, hin⟩
  by_cases hk2 : k < l.length
  · have g1 := ints_gd l k hk2
    cases he : wI (l[k]?.getD 0) lo hi with
    | false =>
      have q : l.findIdx? (fun x => !wI x lo hi) = some k := by
        rw [List.findIdx?_eq_some_iff_getElem]
        refine ⟨hk2, by have := he; simp [hk2] at this; simp [this], fun j hj => ?_⟩
        have := hin j hj
        simpa [show j < l.length by omega] using this
      rw [q]
      (have hg : (987654321 : Nat) - 987654321 = 0 := rfl; have hr := hg; repeat' (first | refine aw_seq ?_ | (refine aw_skip ?_; with_reducible repeat' (first | refine thenQ_n ?_ | refine blockQ_n ?_ | refine thenQ_e ?_ | refine blockQ_t ?_ | refine blockQ_f (by decide) ?_)) | (refine aw_exit ?_; with_reducible repeat' (first | refine thenQ_n ?_ | refine blockQ_n ?_ | refine thenQ_e ?_ | refine blockQ_t ?_ | refine blockQ_f (by decide) ?_)) | refine aw_ret ?_ | refine aw_block ?_ | refine aw_condT rfl ?_ | refine aw_condF rfl ?_ | (refine aw_cond rfl (fun hg => ?_) (fun hg => ?_) <;> (try (have hq := hg; simp only [Bool.not_eq_true', Bool.not_eq_false', Bool.and_eq_true, Bool.and_eq_false_iff, Bool.or_eq_true, Bool.or_eq_false_iff, decide_eq_true_eq, decide_eq_false_iff_not, bne_iff_ne, beq_iff_eq, beq_eq_false_iff_ne, bne_eq_false_iff_eq, ne_eq, Int.not_lt, Int.not_le, Decidable.not_not] at hq)) <;> (try (have hr := hg; simp only [decide_eq_true_eq, decide_eq_false_iff_not] at hr)) <;> (try (exfalso; omega))) | ((first | refine aw_hide fun K hK => aw_region ?_ | refine acallB (r1 _) (by repeat' (first | exact trivial | exact rfl | refine And.intro ?_ ?_)) (by kernel_rfl) (by kernel_rfl) (by kernel_rfl) ?_ | refine ago_if (by omega) ?_ | skip); simp (config := {maxSteps := 10000000}) (disch := first | exact okYes (by kernel_rfl) | omega) only [List.length, Nat.zero_add, Nat.reduceMul, Nat.reduceAdd, dI, ARun_none, AOpRun, aexec, FSt.ev, St.F, eget_c, Nat.reduceBEq, ↓eget_h, cond_false, isSh, Bool.false_eq_true, ↓reduceIte, Option.map, abin, AGo_ok, St.app, putO, eput_c, eput_n, hups, List.map, ARun_nil, dropE_c, inL_n, dropE_n, hr, decide_true, inL_c, beq_self_eq_true, cond_true, Int.natCast_nonneg, ints_all, and_self, opt1, Int.toNat_natCast, g1, run1, List.getElem?_cons_zero, dB, he, Bool.not_false, hput_c, hput_n, List.append_nil, blockQ, thenQ]) | (subst hK; with_reducible repeat' (first | refine thenQ_n ?_ | refine blockQ_n ?_ | refine thenQ_e ?_ | refine blockQ_t ?_ | refine blockQ_f (by decide) ?_))))
      all_goals (refine end_to [] [(0, 0), (8, 8)] (by first | exact .inl rfl | exact .inr rfl) rfl (by kernel_rfl) (by kernel_rfl) (by kernel_rfl) ?_ ?_ <;> repeat' (first | exact trivial | exact vr_val _ | exact vr_list _ | exact vr_ptr _ _ _ rfl | apply vr_fn | refine And.intro ⟨_, rfl, _, rfl, by decide, ?_⟩ ?_ | apply And.intro))
    | true =>
      (have hg : (987654321 : Nat) - 987654321 = 0 := rfl; have hr := hg; repeat' (first | refine aw_seq ?_ | (refine aw_skip ?_; with_reducible repeat' (first | refine thenQ_n ?_ | refine blockQ_n ?_ | refine thenQ_e ?_ | refine blockQ_t ?_ | refine blockQ_f (by decide) ?_)) | (refine aw_exit ?_; with_reducible repeat' (first | refine thenQ_n ?_ | refine blockQ_n ?_ | refine thenQ_e ?_ | refine blockQ_t ?_ | refine blockQ_f (by decide) ?_)) | refine aw_ret ?_ | refine aw_block ?_ | refine aw_condT rfl ?_ | refine aw_condF rfl ?_ | (refine aw_cond rfl (fun hg => ?_) (fun hg => ?_) <;> (try (have hq := hg; simp only [Bool.not_eq_true', Bool.not_eq_false', Bool.and_eq_true, Bool.and_eq_false_iff, Bool.or_eq_true, Bool.or_eq_false_iff, decide_eq_true_eq, decide_eq_false_iff_not, bne_iff_ne, beq_iff_eq, beq_eq_false_iff_ne, bne_eq_false_iff_eq, ne_eq, Int.not_lt, Int.not_le, Decidable.not_not] at hq)) <;> (try (have hr := hg; simp only [decide_eq_true_eq, decide_eq_false_iff_not] at hr)) <;> (try (exfalso; omega))) | ((first | refine aw_hide fun K hK => aw_region ?_ | refine acallB (r1 _) (by repeat' (first | exact trivial | exact rfl | refine And.intro ?_ ?_)) (by kernel_rfl) (by kernel_rfl) (by kernel_rfl) ?_ | refine ago_if (by omega) ?_ | skip); simp (config := {maxSteps := 10000000}) (disch := first | exact okYes (by kernel_rfl) | omega) only [List.length, Nat.zero_add, Nat.reduceMul, Nat.reduceAdd, dI, ARun_none, AOpRun, aexec, FSt.ev, St.F, eget_c, Nat.reduceBEq, ↓eget_h, cond_false, isSh, Bool.false_eq_true, ↓reduceIte, Option.map, abin, AGo_ok, St.app, putO, eput_c, eput_n, hups, List.map, ARun_nil, dropE_c, inL_n, dropE_n, hr, decide_true, inL_c, beq_self_eq_true, cond_true, Int.natCast_nonneg, ints_all, and_self, opt1, Int.toNat_natCast, g1, run1, List.getElem?_cons_zero, dB, he, Bool.not_true, hput_c, hput_n, List.append_nil, fits]) | (subst hK; with_reducible repeat' (first | refine thenQ_n ?_ | refine blockQ_n ?_ | refine thenQ_e ?_ | refine blockQ_t ?_ | refine blockQ_f (by decide) ?_))))
      refine ⟨k + 1, ⟨by omega, fun j hj => ?_⟩, by omega, ?_⟩
      · rcases (by omega : j < k ∨ j = k) with h | rfl
        · exact hin j h
        · exact he
      · refine wk_to [] [(0, 0), (8, 8)] (by kernel_rfl) (by kernel_rfl) (by kernel_rfl) (by kernel_rfl) (by kernel_rfl) ?_ ?_ <;> repeat' (first | exact trivial | exact vr_val _ | exact vr_list _ | exact vr_ptr _ _ _ rfl | apply vr_fn | refine And.intro ⟨_, rfl, .inl ⟨_, rfl, by decide, ?_⟩⟩ ?_ | apply And.intro)
  · obtain rfl : k = l.length := by omega
    have q : l.findIdx? (fun x => !wI x lo hi) = none := by
      rw [List.findIdx?_eq_none_iff]
      intro y hy
      obtain ⟨j, hj, rfl⟩ := List.getElem_of_mem hy
      have := hin j hj
      simp [hj] at this
      simp [this]
    rw [q]
    (have hg : (987654321 : Nat) - 987654321 = 0 := rfl; have hr := hg; repeat' (first | refine aw_seq ?_ | (refine aw_skip ?_; with_reducible repeat' (first | refine thenQ_n ?_ | refine blockQ_n ?_ | refine thenQ_e ?_ | refine blockQ_t ?_ | refine blockQ_f (by decide) ?_)) | (refine aw_exit ?_; with_reducible repeat' (first | refine thenQ_n ?_ | refine blockQ_n ?_ | refine thenQ_e ?_ | refine blockQ_t ?_ | refine blockQ_f (by decide) ?_)) | refine aw_ret ?_ | refine aw_block ?_ | refine aw_condT rfl ?_ | refine aw_condF rfl ?_ | (refine aw_cond rfl (fun hg => ?_) (fun hg => ?_) <;> (try (have hq := hg; simp only [Bool.not_eq_true', Bool.not_eq_false', Bool.and_eq_true, Bool.and_eq_false_iff, Bool.or_eq_true, Bool.or_eq_false_iff, decide_eq_true_eq, decide_eq_false_iff_not, bne_iff_ne, beq_iff_eq, beq_eq_false_iff_ne, bne_eq_false_iff_eq, ne_eq, Int.not_lt, Int.not_le, Decidable.not_not] at hq)) <;> (try (have hr := hg; simp only [decide_eq_true_eq, decide_eq_false_iff_not] at hr)) <;> (try (exfalso; omega))) | ((first | refine aw_hide fun K hK => aw_region ?_ | refine ago_if (by omega) ?_ | skip); simp (config := {maxSteps := 10000000}) (disch := first | exact okYes (by kernel_rfl) | omega) only [List.length, Nat.zero_add, Nat.reduceMul, Nat.reduceAdd, dI, ARun_none, AOpRun, aexec, FSt.ev, St.F, eget_c, Nat.reduceBEq, ↓eget_h, cond_false, isSh, Bool.false_eq_true, ↓reduceIte, Option.map, abin, AGo_ok, St.app, putO, eput_c, eput_n, hups, List.map, ARun_nil, dropE_c, inL_n, dropE_n, Int.reduceNeg, hr, decide_false]) | (subst hK; with_reducible repeat' (first | refine thenQ_n ?_ | refine blockQ_n ?_ | refine thenQ_e ?_ | refine blockQ_t ?_ | refine blockQ_f (by decide) ?_))))
    all_goals (refine end_to [] [(0, 0), (8, 8)] (by first | exact .inl rfl | exact .inr rfl) rfl (by kernel_rfl) (by kernel_rfl) (by kernel_rfl) ?_ ?_ <;> repeat' (first | exact trivial | exact vr_val _ | exact vr_list _ | exact vr_ptr _ _ _ rfl | apply vr_fn | refine And.intro ⟨_, rfl, _, rfl, by decide, ?_⟩ ?_ | apply And.intro))
theorem fnD_in (S : Nat → Prop) (h : S 0) : In S fnD := .fn _ _ _ (by simp) (by intro d hd; simp at hd; subst hd; exact .ptr _ _ h)
set_option maxRecDepth 100000 in
set_option maxHeartbeats 2000000 in
theorem roCont_ac (l : List Int) (t : Tb) (lo hi : Int) (hl : l.length ≤ 1000000) : AC Try.prog 94 [.list (ints l), fnD] [(0, limC t lo hi), (8, [fnD])] [(0, some (limC t lo hi)), (8, some [fnD])] (dB (!allI l lo hi)) := by
  refine kslices_ContainsFunc_L_L_Jint_Kint_J.ac (n0 := 200) (by simp) ⟨.list _, fnD_in _ (by omega), trivial⟩ ⟨⟨by omega, limC_in _ _ _ _⟩, ⟨by omega, by intro d hd; simp at hd; subst hd; exact fnD_in _ (by omega)⟩, trivial⟩ rfl ?_
  unfold cslices_ContainsFunc_L_L_Jint_Kint_J
  have hf := roIdx_ac l t lo hi hl
  unfold limC fnD at *
  cases h : l.findIdx? (fun x => !wI x lo hi) with
  | none =>
    have ha : allI l lo hi = true := by
      rw [List.findIdx?_eq_none_iff] at h
      refine List.all_eq_true.2 fun x hx => ?_
      have := h x hx
      simpa using this
    rw [h] at hf
    rw [ha]
    (have hg : (987654321 : Nat) - 987654321 = 0 := rfl; have hr := hg; repeat' (first | refine aw_seq ?_ | (refine aw_skip ?_; with_reducible repeat' (first | refine thenQ_n ?_ | refine blockQ_n ?_ | refine thenQ_e ?_ | refine blockQ_t ?_ | refine blockQ_f (by decide) ?_)) | (refine aw_exit ?_; with_reducible repeat' (first | refine thenQ_n ?_ | refine blockQ_n ?_ | refine thenQ_e ?_ | refine blockQ_t ?_ | refine blockQ_f (by decide) ?_)) | refine aw_ret ?_ | refine aw_block ?_ | refine aw_condT rfl ?_ | refine aw_condF rfl ?_ | ((first | refine aw_hide fun K hK => aw_region ?_ | refine acallB (hf) (by repeat' (first | exact trivial | exact rfl | refine And.intro ?_ ?_)) (by kernel_rfl) (by kernel_rfl) (by kernel_rfl) ?_ | refine ago_if (by omega) ?_ | skip); simp (config := {maxSteps := 10000000}) (disch := first | exact okYes (by kernel_rfl) | omega) only [List.length, Nat.zero_add, Nat.reduceMul, Nat.reduceAdd, envOf, dI, ARun_none, AOpRun, aexec, FSt.ev, AGo_ok, St.app, putO, eput_c, Nat.reduceBEq, eput_n, cond_false, hups, List.map, ARun_nil, dropE_c, inL_n, dropE_n, St.F, ↓eget_h, eget_c, Int.reduceNeg, hput_c, beq_self_eq_true, hput_n, cond_true, List.append_nil, isSh, Bool.false_eq_true, ↓reduceIte, Option.map, abin, inL_c, dB, Bool.not_true]) | (subst hK; with_reducible repeat' (first | refine thenQ_n ?_ | refine blockQ_n ?_ | refine thenQ_e ?_ | refine blockQ_t ?_ | refine blockQ_f (by decide) ?_))))
    all_goals (refine end_to [] [(0, 0), (8, 8)] (by first | exact .inl rfl | exact .inr rfl) rfl (by kernel_rfl) (by kernel_rfl) (by kernel_rfl) ?_ ?_ <;> repeat' (first | exact trivial | exact vr_val _ | exact vr_list _ | exact vr_ptr _ _ _ rfl | apply vr_fn | refine And.intro ⟨_, rfl, _, rfl, by decide, ?_⟩ ?_ | apply And.intro))
  | some k =>
    have ha : allI l lo hi = false := by
      rw [List.findIdx?_eq_some_iff_getElem] at h
      obtain ⟨hk, he, _⟩ := h
      refine List.all_eq_false.2 ⟨l[k], List.getElem_mem hk, by simpa using he⟩
    rw [h] at hf
    rw [ha]
    have q : decide ((k : Int) ≥ 0) = true := decide_eq_true (by omega)
    (have hg : (987654321 : Nat) - 987654321 = 0 := rfl; have hr := hg; repeat' (first | refine aw_seq ?_ | (refine aw_skip ?_; with_reducible repeat' (first | refine thenQ_n ?_ | refine blockQ_n ?_ | refine thenQ_e ?_ | refine blockQ_t ?_ | refine blockQ_f (by decide) ?_)) | (refine aw_exit ?_; with_reducible repeat' (first | refine thenQ_n ?_ | refine blockQ_n ?_ | refine thenQ_e ?_ | refine blockQ_t ?_ | refine blockQ_f (by decide) ?_)) | refine aw_ret ?_ | refine aw_block ?_ | refine aw_condT rfl ?_ | refine aw_condF rfl ?_ | ((first | refine aw_hide fun K hK => aw_region ?_ | refine acallB (hf) (by repeat' (first | exact trivial | exact rfl | refine And.intro ?_ ?_)) (by kernel_rfl) (by kernel_rfl) (by kernel_rfl) ?_ | refine ago_if (by omega) ?_ | skip); simp (config := {maxSteps := 10000000}) (disch := first | exact okYes (by kernel_rfl) | omega) only [List.length, Nat.zero_add, Nat.reduceMul, Nat.reduceAdd, envOf, dI, ARun_none, AOpRun, aexec, FSt.ev, AGo_ok, St.app, putO, eput_c, Nat.reduceBEq, eput_n, cond_false, hups, List.map, ARun_nil, dropE_c, inL_n, dropE_n, St.F, ↓eget_h, eget_c, hput_c, beq_self_eq_true, hput_n, cond_true, List.append_nil, isSh, Bool.false_eq_true, ↓reduceIte, Option.map, abin, Int.natCast_nonneg, decide_true, inL_c, dB, Bool.not_false]) | (subst hK; with_reducible repeat' (first | refine thenQ_n ?_ | refine blockQ_n ?_ | refine thenQ_e ?_ | refine blockQ_t ?_ | refine blockQ_f (by decide) ?_))))
    all_goals (refine end_to [] [(0, 0), (8, 8)] (by first | exact .inl rfl | exact .inr rfl) rfl (by kernel_rfl) (by kernel_rfl) (by kernel_rfl) ?_ ?_ <;> repeat' (first | exact trivial | exact vr_val _ | exact vr_list _ | exact vr_ptr _ _ _ rfl | apply vr_fn | refine And.intro ⟨_, rfl, _, rfl, by decide, ?_⟩ ?_ | apply And.intro))
set_option maxRecDepth 100000 in
set_option maxHeartbeats 2000000 in
theorem right2_ac (l : List Int) (t : Tb) (lo hi : Int) (hl : l.length ≤ 1000000) : AC Try.prog 152 [.list (ints l), .ptr 8 0] [(0, limC t lo hi), (8, [fnD])] [(0, some (limC t lo hi)), (8, some [fnD])] (dB (!allI l lo hi)) := by
  refine krotor_limits_right_S2.ac (n0 := 200) (by simp) ⟨.list _, .ptr _ _ (by omega), trivial⟩ ⟨⟨by omega, limC_in _ _ _ _⟩, ⟨by omega, by intro d hd; simp at hd; subst hd; exact fnD_in _ (by omega)⟩, trivial⟩ rfl ?_
  unfold crotor_limits_right_S2
  have hf := roCont_ac l t lo hi hl
  unfold limC fnD at *
  (have hg : (987654321 : Nat) - 987654321 = 0 := rfl; have hr := hg; repeat' (first | refine aw_seq ?_ | (refine aw_skip ?_; with_reducible repeat' (first | refine thenQ_n ?_ | refine blockQ_n ?_ | refine thenQ_e ?_ | refine blockQ_t ?_ | refine blockQ_f (by decide) ?_)) | (refine aw_exit ?_; with_reducible repeat' (first | refine thenQ_n ?_ | refine blockQ_n ?_ | refine thenQ_e ?_ | refine blockQ_t ?_ | refine blockQ_f (by decide) ?_)) | refine aw_ret ?_ | refine aw_block ?_ | refine aw_condT rfl ?_ | refine aw_condF rfl ?_ | ((first | refine aw_hide fun K hK => aw_region ?_ | refine acallB (hf) (by repeat' (first | exact trivial | exact rfl | refine And.intro ?_ ?_)) (by kernel_rfl) (by kernel_rfl) (by kernel_rfl) ?_ | refine ago_if (by omega) ?_ | skip); simp (config := {maxSteps := 10000000}) (disch := first | exact okYes (by kernel_rfl) | omega) only [List.length, Nat.zero_add, Nat.reduceMul, Nat.reduceAdd, envOf, dI, ARun_none, AOpRun, aexec, FSt.ev, AGo_ok, St.app, putO, eput_c, Nat.reduceBEq, eput_n, cond_false, hups, List.map, ARun_nil, dropE_c, inL_n, dropE_n, St.F, ↓eget_h, Option.map, run1, eget_c, hget_c, ↓hget_h, List.getElem?_cons_zero, dB, hput_c, beq_self_eq_true, hput_n, cond_true, List.append_nil, inL_c]) | (subst hK; with_reducible repeat' (first | refine thenQ_n ?_ | refine blockQ_n ?_ | refine thenQ_e ?_ | refine blockQ_t ?_ | refine blockQ_f (by decide) ?_))))
  all_goals (refine end_to [] [(0, 0), (8, 8)] (by first | exact .inl rfl | exact .inr rfl) rfl (by kernel_rfl) (by kernel_rfl) (by kernel_rfl) ?_ ?_ <;> repeat' (first | exact trivial | exact vr_val _ | exact vr_list _ | exact vr_ptr _ _ _ rfl | apply vr_fn | refine And.intro ⟨_, rfl, _, rfl, by decide, ?_⟩ ?_ | apply And.intro))
set_option maxRecDepth 100000 in
set_option maxHeartbeats 4000000 in
theorem roIdx2_ac (vs : List (List Int)) (t : Tb) (lo hi : Int) (hl : vs.length ≤ 1000000) (hr : ∀ k : Nat, (vs[k]?.getD []).length ≤ 1000000) : AC Try.prog 149 [.list (rows vs), .fn 152 [] [.ptr 8 0]] [(0, limC t lo hi), (8, [fnD])] [(0, some (limC t lo hi)), (8, some [fnD])] (dI (match vs.findIdx? (fun r => !allI r lo hi) with
    | some k => (k : Int)
    | none => -1)) := by
  refine kslices_IndexFunc_L_L_J_L_Jint_K_L_Jint_J.ac (n0 := 200) (by simp) ⟨.list _, .fn _ _ _ (by simp) (by intro d hd; simp at hd; subst hd; exact .ptr _ _ (by omega)), trivial⟩ ⟨⟨by omega, limC_in _ _ _ _⟩, ⟨by omega, by intro d hd; simp at hd; subst hd; exact fnD_in _ (by omega)⟩, trivial⟩ rfl ?_
  have r1 := fun k => right2_ac (vs[k]?.getD []) t lo hi (hr k)
  unfold cslices_IndexFunc_L_L_J_L_Jint_K_L_Jint_J
  unfold limC fnD at *
  (have hg : (987654321 : Nat) - 987654321 = 0 := rfl; have hr := hg; repeat' (first | refine aw_seq ?_ | (refine aw_skip ?_; with_reducible repeat' (first | refine thenQ_n ?_ | refine blockQ_n ?_ | refine thenQ_e ?_ | refine blockQ_t ?_ | refine blockQ_f (by decide) ?_)) | (refine aw_exit ?_; with_reducible repeat' (first | refine thenQ_n ?_ | refine blockQ_n ?_ | refine thenQ_e ?_ | refine blockQ_t ?_ | refine blockQ_f (by decide) ?_)) | refine aw_ret ?_ | refine aw_block ?_ | refine aw_condT rfl ?_ | refine aw_condF rfl ?_ | ((first | refine aw_hide fun K hK => aw_region ?_ | refine ago_if (by omega) ?_ | skip); simp (config := {maxSteps := 10000000}) (disch := first | exact okYes (by kernel_rfl) | omega) only [List.length, Nat.zero_add, Nat.reduceMul, Nat.reduceAdd, envOf, dI, ARun_none, AOpRun, aexec, FSt.ev, AGo_ok, St.app, putO, eput_c, Nat.reduceBEq, eput_n, cond_false, hups, List.map, ARun_nil, dropE_c, inL_n, dropE_n, St.F, ↓eget_h, eget_c, rows_len, inL_c, beq_self_eq_true, cond_true, Int.reduceNeg]) | (subst hK; with_reducible repeat' (first | refine thenQ_n ?_ | refine blockQ_n ?_ | refine thenQ_e ?_ | refine blockQ_t ?_ | refine blockQ_f (by decide) ?_))))
  refine aw_loop (fun k : Nat => ⟨[(0, .list (rows vs)), (1, .fn 152 [] [.ptr 8 0]), (7, dI vs.length), (8, dI k)], [(0, [.list (ints t.x), .list (ints t.y), .list (rows t.v), dI lo, dI hi]), (8, [.fn 151 [] [.ptr 0 0]])], 400⟩) (fun k => k ≤ vs.length ∧ ∀ j, j < k → allI (vs[j]?.getD []) lo hi = true) (fun k => vs.length - k) ⟨0, ⟨by omega, fun j hj => by omega⟩, ?_⟩ ?_
  · unfold dI
    refine wk_to [] [(0, 0), (8, 8)] (by kernel_rfl) (by kernel_rfl) (by kernel_rfl) (by kernel_rfl) (by kernel_rfl) ?_ ?_ <;> repeat' (first | exact trivial | exact vr_val _ | exact vr_list _ | exact vr_ptr _ _ _ rfl | apply vr_fn | refine And.intro ⟨_, rfl, .inl ⟨_, rfl, by decide, ?_⟩⟩ ?_ | apply And.intro)
  rintro k ⟨hk, hin⟩
  by_cases hk2 : k < vs.length
  · have g1 := rows_gd vs k hk2
    have rk := r1 k
    cases he : allI (vs[k]?.getD []) lo hi with
    | false =>
      rw [he] at rk
      have q : vs.findIdx? (fun r => !allI r lo hi) = some k := by
        rw [List.findIdx?_eq_some_iff_getElem]
        refine ⟨hk2, by have := he; simp [hk2] at this; simp [this], fun j hj => ?_⟩
        have := hin j hj
        simpa [show j < vs.length by omega] using this
      rw [q]
      generalize vs[k]?.getD [] = row at *
      (have hg : (987654321 : Nat) - 987654321 = 0 := rfl; have hr := hg; repeat' (first | refine aw_seq ?_ | (refine aw_skip ?_; with_reducible repeat' (first | refine thenQ_n ?_ | refine blockQ_n ?_ | refine thenQ_e ?_ | refine blockQ_t ?_ | refine blockQ_f (by decide) ?_)) | (refine aw_exit ?_; with_reducible repeat' (first | refine thenQ_n ?_ | refine blockQ_n ?_ | refine thenQ_e ?_ | refine blockQ_t ?_ | refine blockQ_f (by decide) ?_)) | refine aw_ret ?_ | refine aw_block ?_ | refine aw_condT rfl ?_ | refine aw_condF rfl ?_ | (refine aw_cond rfl (fun hg => ?_) (fun hg => ?_) <;> (try (have hq := hg; simp only [Bool.not_eq_true', Bool.not_eq_false', Bool.and_eq_true, Bool.and_eq_false_iff, Bool.or_eq_true, Bool.or_eq_false_iff, decide_eq_true_eq, decide_eq_false_iff_not, bne_iff_ne, beq_iff_eq, beq_eq_false_iff_ne, bne_eq_false_iff_eq, ne_eq, Int.not_lt, Int.not_le, Decidable.not_not] at hq)) <;> (try (have hr := hg; simp only [decide_eq_true_eq, decide_eq_false_iff_not] at hr)) <;> (try (exfalso; omega))) | ((first | refine aw_hide fun K hK => aw_region ?_ | refine acallB (rk) (by repeat' (first | exact trivial | exact rfl | refine And.intro ?_ ?_)) (by kernel_rfl) (by kernel_rfl) (by kernel_rfl) ?_ | refine ago_if (by omega) ?_ | skip); simp (config := {maxSteps := 10000000}) (disch := first | exact okYes (by kernel_rfl) | omega) only [List.length, Nat.zero_add, Nat.reduceMul, Nat.reduceAdd, dI, ARun_none, AOpRun, aexec, FSt.ev, St.F, eget_c, Nat.reduceBEq, ↓eget_h, cond_false, isSh, Bool.false_eq_true, ↓reduceIte, Option.map, abin, AGo_ok, St.app, putO, eput_c, eput_n, hups, List.map, ARun_nil, dropE_c, inL_n, dropE_n, hr, decide_true, inL_c, beq_self_eq_true, cond_true, Int.natCast_nonneg, rows_all, and_self, opt1, Int.toNat_natCast, g1, run1, List.getElem?_cons_zero, dB, Bool.not_false, hput_c, hput_n, List.append_nil, blockQ, thenQ]) | (subst hK; with_reducible repeat' (first | refine thenQ_n ?_ | refine blockQ_n ?_ | refine thenQ_e ?_ | refine blockQ_t ?_ | refine blockQ_f (by decide) ?_))))
      all_goals (refine end_to [] [(0, 0), (8, 8)] (by first | exact .inl rfl | exact .inr rfl) rfl (by kernel_rfl) (by kernel_rfl) (by kernel_rfl) ?_ ?_ <;> repeat' (first | exact trivial | exact vr_val _ | exact vr_list _ | exact vr_ptr _ _ _ rfl | apply vr_fn | refine And.intro ⟨_, rfl, _, rfl, by decide, ?_⟩ ?_ | apply And.intro))
    | true =>
      rw [he] at rk
      have hstep : ∀ j, j < k + 1 → allI (vs[j]?.getD []) lo hi = true := fun j hj => by
        rcases (by omega : j < k ∨ j = k) with h | rfl
        · exact hin j h
        · exact he
      generalize vs[k]?.getD [] = row at *
      (have hg : (987654321 : Nat) - 987654321 = 0 := rfl; have hr := hg; repeat' (first | refine aw_seq ?_ | (refine aw_skip ?_; with_reducible repeat' (first | refine thenQ_n ?_ | refine blockQ_n ?_ | refine thenQ_e ?_ | refine blockQ_t ?_ | refine blockQ_f (by decide) ?_)) | (refine aw_exit ?_; with_reducible repeat' (first | refine thenQ_n ?_ | refine blockQ_n ?_ | refine thenQ_e ?_ | refine blockQ_t ?_ | refine blockQ_f (by decide) ?_)) | refine aw_ret ?_ | refine aw_block ?_ | refine aw_condT rfl ?_ | refine aw_condF rfl ?_ | (refine aw_cond rfl (fun hg => ?_) (fun hg => ?_) <;> (try (have hq := hg; simp only [Bool.not_eq_true', Bool.not_eq_false', Bool.and_eq_true, Bool.and_eq_false_iff, Bool.or_eq_true, Bool.or_eq_false_iff, decide_eq_true_eq, decide_eq_false_iff_not, bne_iff_ne, beq_iff_eq, beq_eq_false_iff_ne, bne_eq_false_iff_eq, ne_eq, Int.not_lt, Int.not_le, Decidable.not_not] at hq)) <;> (try (have hr := hg; simp only [decide_eq_true_eq, decide_eq_false_iff_not] at hr)) <;> (try (exfalso; omega))) | ((first | refine aw_hide fun K hK => aw_region ?_ | refine acallB (rk) (by repeat' (first | exact trivial | exact rfl | refine And.intro ?_ ?_)) (by kernel_rfl) (by kernel_rfl) (by kernel_rfl) ?_ | refine ago_if (by omega) ?_ | skip); simp (config := {maxSteps := 10000000}) (disch := first | exact okYes (by kernel_rfl) | omega) only [List.length, Nat.zero_add, Nat.reduceMul, Nat.reduceAdd, dI, ARun_none, AOpRun, aexec, FSt.ev, St.F, eget_c, Nat.reduceBEq, ↓eget_h, cond_false, isSh, Bool.false_eq_true, ↓reduceIte, Option.map, abin, AGo_ok, St.app, putO, eput_c, eput_n, hups, List.map, ARun_nil, dropE_c, inL_n, dropE_n, hr, decide_true, inL_c, beq_self_eq_true, cond_true, Int.natCast_nonneg, rows_all, and_self, opt1, Int.toNat_natCast, g1, run1, List.getElem?_cons_zero, dB, Bool.not_true, hput_c, hput_n, List.append_nil, fits]) | (subst hK; with_reducible repeat' (first | refine thenQ_n ?_ | refine blockQ_n ?_ | refine thenQ_e ?_ | refine blockQ_t ?_ | refine blockQ_f (by decide) ?_))))
      refine ⟨k + 1, ⟨by omega, hstep⟩, by omega, ?_⟩
      refine wk_to [] [(0, 0), (8, 8)] (by kernel_rfl) (by kernel_rfl) (by kernel_rfl) (by kernel_rfl) (by kernel_rfl) ?_ ?_ <;> repeat' (first | exact trivial | exact vr_val _ | exact vr_list _ | exact vr_ptr _ _ _ rfl | apply vr_fn | refine And.intro ⟨_, rfl, .inl ⟨_, rfl, by decide, ?_⟩⟩ ?_ | apply And.intro)
  · obtain rfl : k = vs.length := by omega
    have q : vs.findIdx? (fun r => !allI r lo hi) = none := by
      rw [List.findIdx?_eq_none_iff]
      intro y hy
      obtain ⟨j, hj, rfl⟩ := List.getElem_of_mem hy
      have := hin j hj
      simp [hj] at this
      simp [this]
    rw [q]
    (have hg : (987654321 : Nat) - 987654321 = 0 := rfl; have hr := hg; repeat' (first | refine aw_seq ?_ | (refine aw_skip ?_; with_reducible repeat' (first | refine thenQ_n ?_ | refine blockQ_n ?_ | refine thenQ_e ?_ | refine blockQ_t ?_ | refine blockQ_f (by decide) ?_)) | (refine aw_exit ?_; with_reducible repeat' (first | refine thenQ_n ?_ | refine blockQ_n ?_ | refine thenQ_e ?_ | refine blockQ_t ?_ | refine blockQ_f (by decide) ?_)) | refine aw_ret ?_ | refine aw_block ?_ | refine aw_condT rfl ?_ | refine aw_condF rfl ?_ | (refine aw_cond rfl (fun hg => ?_) (fun hg => ?_) <;> (try (have hq := hg; simp only [Bool.not_eq_true', Bool.not_eq_false', Bool.and_eq_true, Bool.and_eq_false_iff, Bool.or_eq_true, Bool.or_eq_false_iff, decide_eq_true_eq, decide_eq_false_iff_not, bne_iff_ne, beq_iff_eq, beq_eq_false_iff_ne, bne_eq_false_iff_eq, ne_eq, Int.not_lt, Int.not_le, Decidable.not_not] at hq)) <;> (try (have hr := hg; simp only [decide_eq_true_eq, decide_eq_false_iff_not] at hr)) <;> (try (exfalso; omega))) | ((first | refine aw_hide fun K hK => aw_region ?_ | refine ago_if (by omega) ?_ | skip); simp (config := {maxSteps := 10000000}) (disch := first | exact okYes (by kernel_rfl) | omega) only [List.length, Nat.zero_add, Nat.reduceMul, Nat.reduceAdd, dI, ARun_none, AOpRun, aexec, FSt.ev, St.F, eget_c, Nat.reduceBEq, ↓eget_h, cond_false, isSh, Bool.false_eq_true, ↓reduceIte, Option.map, abin, AGo_ok, St.app, putO, eput_c, eput_n, hups, List.map, ARun_nil, dropE_c, inL_n, dropE_n, Int.reduceNeg, hr, decide_false]) | (subst hK; with_reducible repeat' (first | refine thenQ_n ?_ | refine blockQ_n ?_ | refine thenQ_e ?_ | refine blockQ_t ?_ | refine blockQ_f (by decide) ?_))))
    all_goals (refine end_to [] [(0, 0), (8, 8)] (by first | exact .inl rfl | exact .inr rfl) rfl (by kernel_rfl) (by kernel_rfl) (by kernel_rfl) ?_ ?_ <;> repeat' (first | exact trivial | exact vr_val _ | exact vr_list _ | exact vr_ptr _ _ _ rfl | apply vr_fn | refine And.intro ⟨_, rfl, _, rfl, by decide, ?_⟩ ?_ | apply And.intro))
set_option maxRecDepth 100000 in
set_option maxHeartbeats 2000000 in
theorem roCont2_ac (vs : List (List Int)) (t : Tb) (lo hi : Int) (hl : vs.length ≤ 1000000) (hr : ∀ k : Nat, (vs[k]?.getD []).length ≤ 1000000) : AC Try.prog 138 [.list (rows vs), .fn 152 [] [.ptr 8 0]] [(0, limC t lo hi), (8, [fnD])] [(0, some (limC t lo hi)), (8, some [fnD])] (dB (!(vs.all fun r => allI r lo hi))) := by
  refine kslices_ContainsFunc_L_L_J_L_Jint_K_L_Jint_J.ac (n0 := 200) (by simp) ⟨.list _, .fn _ _ _ (by simp) (by intro d hd; simp at hd; subst hd; exact .ptr _ _ (by omega)), trivial⟩ ⟨⟨by omega, limC_in _ _ _ _⟩, ⟨by omega, by intro d hd; simp at hd; subst hd; exact fnD_in _ (by omega)⟩, trivial⟩ rfl ?_
  unfold cslices_ContainsFunc_L_L_J_L_Jint_K_L_Jint_J
  have hf := roIdx2_ac vs t lo hi hl hr
  unfold limC fnD at *
  cases h : vs.findIdx? (fun r => !allI r lo hi) with
  | none =>
    have ha : (vs.all fun r => allI r lo hi) = true := by
      rw [List.findIdx?_eq_none_iff] at h
      refine List.all_eq_true.2 fun x hx => ?_
      have := h x hx
      simpa using this
    rw [h] at hf
    rw [ha]
    (have hg : (987654321 : Nat) - 987654321 = 0 := rfl; have hr := hg; repeat' (first | refine aw_seq ?_ | (refine aw_skip ?_; with_reducible repeat' (first | refine thenQ_n ?_ | refine blockQ_n ?_ | refine thenQ_e ?_ | refine blockQ_t ?_ | refine blockQ_f (by decide) ?_)) | (refine aw_exit ?_; with_reducible repeat' (first | refine thenQ_n ?_ | refine blockQ_n ?_ | refine thenQ_e ?_ | refine blockQ_t ?_ | refine blockQ_f (by decide) ?_)) | refine aw_ret ?_ | refine aw_block ?_ | refine aw_condT rfl ?_ | refine aw_condF rfl ?_ | ((first | refine aw_hide fun K hK => aw_region ?_ | refine acallB (hf) (by repeat' (first | exact trivial | exact rfl | refine And.intro ?_ ?_)) (by kernel_rfl) (by kernel_rfl) (by kernel_rfl) ?_ | refine ago_if (by omega) ?_ | skip); simp (config := {maxSteps := 10000000}) (disch := first | exact okYes (by kernel_rfl) | omega) only [List.length, Nat.zero_add, Nat.reduceMul, Nat.reduceAdd, envOf, dI, ARun_none, AOpRun, aexec, FSt.ev, AGo_ok, St.app, putO, eput_c, Nat.reduceBEq, eput_n, cond_false, hups, List.map, ARun_nil, dropE_c, inL_n, dropE_n, St.F, ↓eget_h, eget_c, Int.reduceNeg, hput_c, beq_self_eq_true, hput_n, cond_true, List.append_nil, isSh, Bool.false_eq_true, ↓reduceIte, Option.map, abin, inL_c, dB, Bool.not_true]) | (subst hK; with_reducible repeat' (first | refine thenQ_n ?_ | refine blockQ_n ?_ | refine thenQ_e ?_ | refine blockQ_t ?_ | refine blockQ_f (by decide) ?_))))
    all_goals (refine end_to [] [(0, 0), (8, 8)] (by first | exact .inl rfl | exact .inr rfl) rfl (by kernel_rfl) (by kernel_rfl) (by kernel_rfl) ?_ ?_ <;> repeat' (first | exact trivial | exact vr_val _ | exact vr_list _ | exact vr_ptr _ _ _ rfl | apply vr_fn | refine And.intro ⟨_, rfl, _, rfl, by decide, ?_⟩ ?_ | apply And.intro))
  | some k =>
    have ha : (vs.all fun r => allI r lo hi) = false := by
      rw [List.findIdx?_eq_some_iff_getElem] at h
      obtain ⟨hk, he, _⟩ := h
      refine List.all_eq_false.2 ⟨vs[k], List.getElem_mem hk, by simpa using he⟩
    rw [h] at hf
    rw [ha]
    have q : decide ((k : Int) ≥ 0) = true := decide_eq_true (by omega)
    (have hg : (987654321 : Nat) - 987654321 = 0 := rfl; have hr := hg; repeat' (first | refine aw_seq ?_ | (refine aw_skip ?_; with_reducible repeat' (first | refine thenQ_n ?_ | refine blockQ_n ?_ | refine thenQ_e ?_ | refine blockQ_t ?_ | refine blockQ_f (by decide) ?_)) | (refine aw_exit ?_; with_reducible repeat' (first | refine thenQ_n ?_ | refine blockQ_n ?_ | refine thenQ_e ?_ | refine blockQ_t ?_ | refine blockQ_f (by decide) ?_)) | refine aw_ret ?_ | refine aw_block ?_ | refine aw_condT rfl ?_ | refine aw_condF rfl ?_ | ((first | refine aw_hide fun K hK => aw_region ?_ | refine acallB (hf) (by repeat' (first | exact trivial | exact rfl | refine And.intro ?_ ?_)) (by kernel_rfl) (by kernel_rfl) (by kernel_rfl) ?_ | refine ago_if (by omega) ?_ | skip); simp (config := {maxSteps := 10000000}) (disch := first | exact okYes (by kernel_rfl) | omega) only [List.length, Nat.zero_add, Nat.reduceMul, Nat.reduceAdd, envOf, dI, ARun_none, AOpRun, aexec, FSt.ev, AGo_ok, St.app, putO, eput_c, Nat.reduceBEq, eput_n, cond_false, hups, List.map, ARun_nil, dropE_c, inL_n, dropE_n, St.F, ↓eget_h, eget_c, hput_c, beq_self_eq_true, hput_n, cond_true, List.append_nil, isSh, Bool.false_eq_true, ↓reduceIte, Option.map, abin, Int.natCast_nonneg, decide_true, inL_c, dB, Bool.not_false]) | (subst hK; with_reducible repeat' (first | refine thenQ_n ?_ | refine blockQ_n ?_ | refine thenQ_e ?_ | refine blockQ_t ?_ | refine blockQ_f (by decide) ?_))))
    all_goals (refine end_to [] [(0, 0), (8, 8)] (by first | exact .inl rfl | exact .inr rfl) rfl (by kernel_rfl) (by kernel_rfl) (by kernel_rfl) ?_ ?_ <;> repeat' (first | exact trivial | exact vr_val _ | exact vr_list _ | exact vr_ptr _ _ _ rfl | apply vr_fn | refine And.intro ⟨_, rfl, _, rfl, by decide, ?_⟩ ?_ | apply And.intro))
set_option maxRecDepth 100000 in
set_option maxHeartbeats 4000000 in
theorem right_ac (t : Tb) (lo hi : Int) (hs : TbSm t) : AC Try.prog 143 [.agg (limC t lo hi)] [] [] (dB (limB t lo hi)) := by
  refine krotor_limits_right.ac (n0 := 0) (by simp) ⟨.agg _ (limC_in _ _ _ _), trivial⟩ trivial rfl ?_
  have ct := checkT_ac hs.sz
  have cc := roCont2_ac t.v t lo hi (by have := hs.2.2.1; omega) (fun k => by have := hs.row k; omega)
  unfold crotor_limits_right limB
  unfold tabD at ct
  unfold limC fnD at *
  refine aw_seq (aw_region ?_)
  simp (config := {maxSteps := 10000000}) (disch := first | exact okYes (by kernel_rfl) | omega) only [thenQ, List.map, dB, List.length, Nat.zero_add, Nat.reduceAdd, Nat.reduceMul, envOf, dI, ARun_none, AOpRun, aexec, D.isBot, FSt.ev, St.F, ↓eget_h, Bool.false_eq_true, Option.isSome, hget_n, or_self, ↓reduceIte, D.cells, AGo_ok, St.app, putO, eput_c, Nat.reduceBEq, eput_n, cond_false, hups, hput_n, ARun_nil, dropE_c, inL_n, dropE_n]
  refine aw_seq (aw_region ?_)
  simp (config := {maxSteps := 10000000}) (disch := first | exact okYes (by kernel_rfl) | omega) only [thenQ, List.length, Nat.zero_add, Nat.reduceAdd, Nat.reduceMul, ARun_none, AOpRun, aexec, List.map, FSt.ev, St.F, eget_c, Nat.reduceBEq, ↓eget_h, cond_false, AGo_ok, St.app, putO, eput_c, eput_n, hups, Option.isSome, hget_c, hget_n, Bool.false_eq_true, ↓reduceIte, hput_c, hput_n, ↓hget_h, D.isBot, D.cells, Nat.reduceLeDiff, List.all, D.leaf, Bool.and_true, and_self, splice, List.take, List.nil_append, List.drop, List.append_nil, beq_self_eq_true, cond_true, ARun_nil, dropE_c, inL_c, inL_n, dropE_n]
  refine aw_wk (s' := ⟨[(1, .ptr 0 0), (3, .ptr 8 0)], [(0, [.list (ints t.x), .list (ints t.y), .list (rows t.v), dI lo, dI hi]), (8, [.fn 151 [] [.ptr 0 0]])], 400⟩) ?_ ?_
  · unfold dI
    refine wk_to [] [(0, 0), (8, 24)] (by kernel_rfl) (by kernel_rfl) (by kernel_rfl) (by kernel_rfl) (by kernel_rfl) ?_ ?_ <;> repeat' (first | exact trivial | exact vr_val _ | exact vr_list _ | exact vr_ptr _ _ _ rfl | apply vr_fn | refine And.intro ⟨_, rfl, .inl ⟨_, rfl, by decide, ?_⟩⟩ ?_ | apply And.intro)
  by_cases he : tabErr t.x t.y t.v = 0
  · rw [he] at ct
    rw [decide_eq_true he, Bool.true_and]
    cases hv : (t.v.all fun r => allI r lo hi)
    all_goals
      rw [hv] at cc
      (have hg : (987654321 : Nat) - 987654321 = 0 := rfl; have hr := hg; repeat' (first | refine aw_seq ?_ | (refine aw_skip ?_; with_reducible repeat' (first | refine thenQ_n ?_ | refine blockQ_n ?_ | refine thenQ_e ?_ | refine blockQ_t ?_ | refine blockQ_f (by decide) ?_)) | (refine aw_exit ?_; with_reducible repeat' (first | refine thenQ_n ?_ | refine blockQ_n ?_ | refine thenQ_e ?_ | refine blockQ_t ?_ | refine blockQ_f (by decide) ?_)) | refine aw_ret ?_ | refine aw_block ?_ | refine aw_condT rfl ?_ | refine aw_condF rfl ?_ | ((first | refine aw_hide fun K hK => aw_region ?_ | refine acall0 (ct) ?_ | refine acallB (cc) (by repeat' (first | exact trivial | exact rfl | refine And.intro ?_ ?_)) (by kernel_rfl) (by kernel_rfl) (by kernel_rfl) ?_ | refine ago_if (by omega) ?_ | skip); simp (config := {maxSteps := 10000000}) (disch := first | exact okYes (by kernel_rfl) | omega) only [List.length, Nat.zero_add, Nat.reduceAdd, Nat.reduceMul, dI, ARun_none, AOpRun, aexec, FSt.ev, St.F, ↓eget_h, AGo_ok, St.app, putO, eput_c, Nat.reduceBEq, eput_n, cond_false, hups, List.map, eget_c, hget_c, beq_self_eq_true, hget_n, cond_true, Nat.reduceLeDiff, ↓reduceIte, List.drop, List.take, isSh, Bool.false_eq_true, Option.map, abin, ARun_some, AG_tt, run1, List.getElem?_cons_succ, List.getElem?_cons_zero, dB, Bool.not_false, hput_c, hput_n, List.append_nil, Bool.not_true, ARun_nil, dropE_c, inL_c, inL_n, dropE_n]) | (subst hK; with_reducible repeat' (first | refine thenQ_n ?_ | refine blockQ_n ?_ | refine thenQ_e ?_ | refine blockQ_t ?_ | refine blockQ_f (by decide) ?_))))
      all_goals (refine end_to [] [] (by first | exact .inl rfl | exact .inr rfl) rfl (by kernel_rfl) (by kernel_rfl) (by kernel_rfl) ?_ ?_ <;> repeat' (first | exact trivial | exact vr_val _))
  · rw [decide_eq_false he, Bool.false_and]
    have q : (tabErr t.x t.y t.v == 0) = false := by simpa using he
    generalize tabErr t.x t.y t.v = E at *
    (have hg : (987654321 : Nat) - 987654321 = 0 := rfl; have hr := hg; repeat' (first | refine aw_seq ?_ | (refine aw_skip ?_; with_reducible repeat' (first | refine thenQ_n ?_ | refine blockQ_n ?_ | refine thenQ_e ?_ | refine blockQ_t ?_ | refine blockQ_f (by decide) ?_)) | (refine aw_exit ?_; with_reducible repeat' (first | refine thenQ_n ?_ | refine blockQ_n ?_ | refine thenQ_e ?_ | refine blockQ_t ?_ | refine blockQ_f (by decide) ?_)) | refine aw_ret ?_ | refine aw_block ?_ | refine aw_condT rfl ?_ | refine aw_condF rfl ?_ | ((first | refine aw_hide fun K hK => aw_region ?_ | refine acall0 (ct) ?_ | refine ago_if (by omega) ?_ | skip); simp (config := {maxSteps := 10000000}) (disch := first | exact okYes (by kernel_rfl) | omega) only [List.length, Nat.zero_add, Nat.reduceAdd, Nat.reduceMul, dI, ARun_none, AOpRun, aexec, FSt.ev, St.F, ↓eget_h, AGo_ok, St.app, putO, eput_c, Nat.reduceBEq, eput_n, cond_false, hups, List.map, eget_c, hget_c, beq_self_eq_true, hget_n, cond_true, Nat.reduceLeDiff, ↓reduceIte, List.drop, List.take, isSh, Bool.false_eq_true, Option.map, abin, q, ARun_some, AG_ft, ARun_nil, dropE_c, inL_c, inL_n, dropE_n]) | (subst hK; with_reducible repeat' (first | refine thenQ_n ?_ | refine blockQ_n ?_ | refine thenQ_e ?_ | refine blockQ_t ?_ | refine blockQ_f (by decide) ?_))))
    all_goals (refine end_to [] [] (by first | exact .inl rfl | exact .inr rfl) rfl (by kernel_rfl) (by kernel_rfl) (by kernel_rfl) ?_ ?_ <;> repeat' (first | exact trivial | exact vr_val _))
end Go.Proofs.Ytgibbaadjbohdaa
