/- Texts of the law TopSlung, part 8. No conditions. -/
import Derived.Test.YtgibbaadjbohdaaPTopSlung07
import Derived.Test.YtgibbaadjbohdaaRows
/- The functions' bodies, translated. Written by a program; no conditions. -/
namespace Go.Proofs.Ytgibbaadjbohdaa
open Go.RowKit Lift

/-- rotor_Margin -/
def crotor_Margin : ACode :=
  (.seq
   (.region false [⟨some 3, .box (.tmp 0), none, []⟩,
     ⟨some 4, .box (.tmp 1), none, []⟩,
     ⟨some 5, .box (.tmp 2), none, []⟩,
     ⟨some 6, .mv (.const (.int .i64 0)), none, []⟩,
     ⟨some 7, .mv (.const (.int .i64 0)), none, []⟩] [])
  (.seq
   (.region false [⟨some 10, .loadN 26 (.tmp 3), none, []⟩,
     ⟨some 11, .loadN 8 (.tmp 4), none, []⟩,
     ⟨some 12, .build [(.val (.slice none 0 0)), (.val (.slice none 0 0)), (.val (.slice none 0 0)), (.val (.slice none 0 0)), (.val (.slice none 0 0)), (.val (.slice none 0 0)), (.val (.slice none 0 0)), (.val (.slice none 0 0)), (.val (.slice none 0 0)), (.val (.slice none 0 0)), (.val (.slice none 0 0)), (.val (.slice none 0 0)), (.val (.slice none 0 0)), (.val (.slice none 0 0)), (.val (.slice none 0 0)), (.val (.slice none 0 0)), (.val (.slice none 0 0)), (.val (.slice none 0 0)), (.val (.slice none 0 0)), (.val (.slice none 0 0)), (.val (.slice none 0 0)), (.val (.slice none 0 0)), (.val (.slice none 0 0)), (.val (.slice none 0 0)), (.val (.int .i64 0)), (.val (.int .i64 0)), (.val (.int .i64 0)), (.val (.int .i64 0)), (.val (.int .i64 0)), (.val (.int .i64 0)), (.val (.int .i64 0)), (.val (.int .i64 0)), (.val (.int .i64 0)), (.val (.int .i64 0))] [(0, 26, (.tmp 10)), (26, 8, (.tmp 11))], none, []⟩,
     ⟨some 8, .mem [(.val (.slice none 0 0)), (.val (.slice none 0 0)), (.val (.slice none 0 0)), (.val (.slice none 0 0)), (.val (.slice none 0 0)), (.val (.slice none 0 0)), (.val (.slice none 0 0)), (.val (.slice none 0 0)), (.val (.slice none 0 0)), (.val (.slice none 0 0)), (.val (.slice none 0 0)), (.val (.slice none 0 0)), (.val (.slice none 0 0)), (.val (.slice none 0 0)), (.val (.slice none 0 0)), (.val (.slice none 0 0)), (.val (.slice none 0 0)), (.val (.slice none 0 0)), (.val (.slice none 0 0)), (.val (.slice none 0 0)), (.val (.slice none 0 0)), (.val (.slice none 0 0)), (.val (.slice none 0 0)), (.val (.slice none 0 0)), (.val (.int .i64 0)), (.val (.int .i64 0)), (.val (.int .i64 0)), (.val (.int .i64 0)), (.val (.int .i64 0)), (.val (.int .i64 0)), (.val (.int .i64 0)), (.val (.int .i64 0)), (.val (.int .i64 0)), (.val (.int .i64 0))], none, []⟩,
     ⟨none, .store 34 (.tmp 8) (.tmp 12), none, []⟩] [10, 11, 12])
  (.seq
   (.seq
    (.region false [⟨some 13, .loadN 34 (.tmp 8), none, []⟩,
      ⟨some 14, .loadN 2 (.tmp 5), none, []⟩,
      ⟨some 15, .call (.func 46) [(.tmp 13), (.tmp 14)], none, []⟩,
      ⟨some 9, .mv (.tmp 15), none, []⟩] [13, 14, 15])
   (.seq
    (.region false [⟨some 16, .mv (.tmp 9), none, []⟩,
      ⟨some 17, .bin .neq (.tmp 16) (.const (.int .i64 0)), none, []⟩] [16])
   (.cond (.tmp 17)
     (.seq
      (.region false [⟨some 18, .mv (.tmp 9), none, []⟩,
        ⟨some 6, .mv (.const (.int .i64 0)), none, []⟩,
        ⟨some 7, .mv (.tmp 18), none, []⟩] [18])
     .ret)
     .skip)))
  (.seq
   (.region false [⟨some 19, .loadN 34 (.tmp 8), none, []⟩,
     ⟨some 20, .loadN 2 (.tmp 5), none, []⟩,
     ⟨some 21, .call (.func 47) [(.tmp 19), (.tmp 20)], none, []⟩,
     ⟨some 6, .mv (.tmp 21), none, []⟩,
     ⟨some 7, .mv (.const (.int .i64 0)), none, []⟩] [19, 20, 21])
  .ret))))
set_option maxRecDepth 100000 in
theorem krotor_Margin : IsCode Try.prog 19 22 crotor_Margin [.tmp 6, .tmp 7] :=
  ⟨Try.f19, _, [17, 0, 1, 2, 3, 4, 8, 5, 9, 6, 7], Try.func19, rfl, by decide, rfl, by kernel_rfl, by kernel_rfl⟩
/-- rotor_checkMargin -/
def crotor_checkMargin : ACode :=
  (.seq
   (.region false [⟨some 2, .box (.tmp 0), none, []⟩,
     ⟨some 3, .box (.tmp 1), none, []⟩,
     ⟨some 4, .mv (.const (.int .i64 0)), none, []⟩] [])
  (.seq
   (.region false [⟨some 5, .fad 0 (.tmp 2), none, []⟩,
     ⟨some 6, .loadN 26 (.tmp 5), none, []⟩,
     ⟨some 7, .fad 26 (.tmp 2), none, []⟩,
     ⟨some 8, .loadN 8 (.tmp 7), none, []⟩,
     ⟨some 9, .loadN 2 (.tmp 3), none, []⟩,
     ⟨some 10, .buildSl 2 1 [(.val (.int .i64 0)), (.val (.int .i64 0))] [(0, 2, (.tmp 9))], none, []⟩,
     ⟨some 11, .mkfn 84 [] [(.tmp 2), (.tmp 3)], none, []⟩,
     ⟨some 12, .call (.func 83) [(.tmp 6), (.tmp 8), (.tmp 10), (.tmp 11)], none, []⟩,
     ⟨some 4, .mv (.tmp 12), none, []⟩] [5, 6, 7, 8, 9, 10, 11, 12])
  .ret))
set_option maxRecDepth 100000 in
theorem krotor_checkMargin : IsCode Try.prog 46 13 crotor_checkMargin [.tmp 4] :=
  ⟨Try.f46, _, [0, 1, 2, 3, 4], Try.func46, rfl, by decide, rfl, by kernel_rfl, by kernel_rfl⟩
/-- rotor_checkMargin_S1 -/
def crotor_checkMargin_S1 : ACode :=
  (.seq
   (.region false [⟨some 2, .mv (.const (.slice none 0 0)), none, []⟩] [])
  (.seq
   (.region true [⟨some 3, .loadN 34 (.tmp 0), none, []⟩,
     ⟨some 4, .call (.func 85) [(.tmp 3)], none, [0]⟩,
     ⟨some 5, .loadN 34 (.tmp 0), none, []⟩,
     ⟨some 6, .loadN 2 (.tmp 1), none, []⟩,
     ⟨some 7, .call (.func 86) [(.tmp 5), (.tmp 6)], none, [2, 3, 1, 0]⟩,
     ⟨some 8, .loadN 34 (.tmp 0), none, []⟩,
     ⟨some 9, .call (.func 87) [(.tmp 8)], none, [5, 4, 2, 3, 1, 0]⟩,
     ⟨some 10, .buildSl 7 3 [(.val (.slice none 0 0)), (.val (.slice none 0 0)), (.val (.slice none 0 0)), (.val (.int .i64 0)), (.val (.int .i64 0)), (.val (.int .i64 0)), (.val (.int .i64 0)), (.val (.slice none 0 0)), (.val (.slice none 0 0)), (.val (.slice none 0 0)), (.val (.int .i64 0)), (.val (.int .i64 0)), (.val (.int .i64 0)), (.val (.int .i64 0)), (.val (.slice none 0 0)), (.val (.slice none 0 0)), (.val (.slice none 0 0)), (.val (.int .i64 0)), (.val (.int .i64 0)), (.val (.int .i64 0)), (.val (.int .i64 0))] [(0, 7, (.tmp 4)), (7, 7, (.tmp 7)), (14, 7, (.tmp 9))], none, [1, 0, 4, 2, 3, 6, 5]⟩,
     ⟨some 2, .mv (.tmp 10), none, [7, 1, 0, 4, 2, 3, 6, 5]⟩] [3, 4, 5, 6, 7, 8, 9, 10])
  .ret))
set_option maxRecDepth 100000 in
theorem krotor_checkMargin_S1 : IsCode Try.prog 84 11 crotor_checkMargin_S1 [.tmp 2] :=
  ⟨Try.f84, _, [0, 1, 2], Try.func84, rfl, by decide, rfl, by kernel_rfl, by kernel_rfl⟩
/-- rotor_machine_hover -/
def crotor_machine_hover : ACode :=
  (.seq
   (.region false [⟨some 1, .box (.tmp 0), none, []⟩,
     ⟨some 2, .mem [(.val (.slice none 0 0)), (.val (.slice none 0 0)), (.val (.slice none 0 0)), (.val (.int .i64 0)), (.val (.int .i64 0)), (.val (.int .i64 0)), (.val (.int .i64 0))], none, []⟩] [])
  (.seq
   (.region false [⟨some 3, .fad 0 (.tmp 1), none, []⟩,
     ⟨some 4, .fad 0 (.tmp 3), none, []⟩,
     ⟨some 5, .loadN 3 (.tmp 4), none, []⟩,
     ⟨some 6, .fad 26 (.tmp 1), none, []⟩,
     ⟨some 7, .fad 0 (.tmp 6), none, []⟩,
     ⟨some 8, .loadN 2 (.tmp 7), none, []⟩,
     ⟨some 9, .fad 26 (.tmp 1), none, []⟩,
     ⟨some 10, .fad 2 (.tmp 9), none, []⟩,
     ⟨some 11, .loadN 2 (.tmp 10), none, []⟩,
     ⟨some 12, .build [(.val (.slice none 0 0)), (.val (.slice none 0 0)), (.val (.slice none 0 0)), (.val (.int .i64 0)), (.val (.int .i64 0)), (.val (.int .i64 0)), (.val (.int .i64 0))] [(0, 3, (.tmp 5)), (3, 2, (.tmp 8)), (5, 2, (.tmp 11))], none, []⟩,
     ⟨none, .store 7 (.tmp 2) (.tmp 12), none, []⟩] [3, 4, 5, 6, 7, 8, 9, 10, 11, 12])
  .ret))
set_option maxRecDepth 100000 in
theorem krotor_machine_hover : IsCode Try.prog 85 13 crotor_machine_hover [.cellN 2 7] :=
  ⟨Try.f85, _, [0, 1, 2], Try.func85, rfl, by decide, rfl, by kernel_rfl, by kernel_rfl⟩
/-- rotor_machine_ground -/
def crotor_machine_ground : ACode :=
  (.seq
   (.region false [⟨some 2, .box (.tmp 0), none, []⟩,
     ⟨some 3, .box (.tmp 1), none, []⟩,
     ⟨some 4, .mem [(.val (.slice none 0 0)), (.val (.slice none 0 0)), (.val (.slice none 0 0)), (.val (.int .i64 0)), (.val (.int .i64 0)), (.val (.int .i64 0)), (.val (.int .i64 0))], none, []⟩] [])
  (.seq
   (.region false [⟨some 5, .fad 0 (.tmp 2), none, []⟩,
     ⟨some 6, .fad 3 (.tmp 5), none, []⟩,
     ⟨some 7, .loadN 3 (.tmp 6), none, []⟩,
     ⟨some 8, .loadN 2 (.tmp 3), none, []⟩,
     ⟨some 9, .fad 26 (.tmp 2), none, []⟩,
     ⟨some 10, .fad 6 (.tmp 9), none, []⟩,
     ⟨some 11, .loadN 2 (.tmp 10), none, []⟩,
     ⟨some 12, .build [(.val (.slice none 0 0)), (.val (.slice none 0 0)), (.val (.slice none 0 0)), (.val (.int .i64 0)), (.val (.int .i64 0)), (.val (.int .i64 0)), (.val (.int .i64 0))] [(0, 3, (.tmp 7)), (3, 2, (.tmp 8)), (5, 2, (.tmp 11))], none, []⟩,
     ⟨none, .store 7 (.tmp 4) (.tmp 12), none, []⟩] [5, 6, 7, 8, 9, 10, 11, 12])
  .ret))
set_option maxRecDepth 100000 in
theorem krotor_machine_ground : IsCode Try.prog 86 13 crotor_machine_ground [.cellN 4 7] :=
  ⟨Try.f86, _, [0, 1, 2, 3, 4], Try.func86, rfl, by decide, rfl, by kernel_rfl, by kernel_rfl⟩
/-- rotor_machine_power -/
def crotor_machine_power : ACode :=
  (.seq
   (.region false [⟨some 1, .box (.tmp 0), none, []⟩,
     ⟨some 2, .mem [(.val (.slice none 0 0)), (.val (.slice none 0 0)), (.val (.slice none 0 0)), (.val (.int .i64 0)), (.val (.int .i64 0)), (.val (.int .i64 0)), (.val (.int .i64 0))], none, []⟩] [])
  (.seq
   (.region false [⟨some 3, .fad 0 (.tmp 1), none, []⟩,
     ⟨some 4, .fad 9 (.tmp 3), none, []⟩,
     ⟨some 5, .loadN 3 (.tmp 4), none, []⟩,
     ⟨some 6, .fad 26 (.tmp 1), none, []⟩,
     ⟨some 7, .fad 2 (.tmp 6), none, []⟩,
     ⟨some 8, .loadN 2 (.tmp 7), none, []⟩,
     ⟨some 9, .fad 26 (.tmp 1), none, []⟩,
     ⟨some 10, .fad 4 (.tmp 9), none, []⟩,
     ⟨some 11, .loadN 2 (.tmp 10), none, []⟩,
     ⟨some 12, .build [(.val (.slice none 0 0)), (.val (.slice none 0 0)), (.val (.slice none 0 0)), (.val (.int .i64 0)), (.val (.int .i64 0)), (.val (.int .i64 0)), (.val (.int .i64 0))] [(0, 3, (.tmp 5)), (3, 2, (.tmp 8)), (5, 2, (.tmp 11))], none, []⟩,
     ⟨none, .store 7 (.tmp 2) (.tmp 12), none, []⟩] [3, 4, 5, 6, 7, 8, 9, 10, 11, 12])
  .ret))
set_option maxRecDepth 100000 in
theorem krotor_machine_power : IsCode Try.prog 87 13 crotor_machine_power [.cellN 2 7] :=
  ⟨Try.f87, _, [0, 1, 2], Try.func87, rfl, by decide, rfl, by kernel_rfl, by kernel_rfl⟩
/-- rotor_machine_needs -/
def crotor_machine_needs : ACode :=
  (.seq
   (.region false [⟨some 2, .box (.tmp 0), none, []⟩,
     ⟨some 3, .box (.tmp 1), none, []⟩,
     ⟨some 4, .mem [(.val (.int .i64 0)), (.val (.int .i64 0))], none, []⟩] [])
  (.seq
   (.region true [⟨some 7, .loadN 34 (.tmp 2), none, []⟩,
     ⟨some 8, .call (.func 85) [(.tmp 7)], none, [0]⟩,
     ⟨some 9, .call (.func 73) [(.tmp 8)], none, [1, 0]⟩,
     ⟨some 10, .loadN 34 (.tmp 2), none, []⟩,
     ⟨some 11, .loadN 2 (.tmp 3), none, []⟩,
     ⟨some 12, .call (.func 86) [(.tmp 10), (.tmp 11)], none, [3, 4, 2, 1, 0]⟩,
     ⟨some 13, .call (.func 73) [(.tmp 12)], none, [5, 3, 4, 2, 1, 0]⟩,
     ⟨some 5, .mem [(.val (.int .i64 0)), (.val (.int .i64 0))], none, []⟩,
     ⟨some 6, .mem [(.val (.int .i64 0)), (.val (.int .i64 0))], none, []⟩,
     ⟨none, .store 2 (.tmp 5) (.tmp 9), none, [7, 2, 1, 0, 6, 5, 3, 4, 8]⟩,
     ⟨none, .store 2 (.tmp 6) (.tmp 13), none, [8, 6, 5, 3, 4, 2, 1, 0, 9, 7]⟩] [7, 8, 9, 10, 11, 12, 13])
  (.seq
   (.region false [⟨some 14, .fad 0 (.tmp 5), none, []⟩,
     ⟨some 15, .load1 (.tmp 14), none, []⟩,
     ⟨some 16, .fad 0 (.tmp 6), none, []⟩,
     ⟨some 17, .load1 (.tmp 16), none, []⟩,
     ⟨some 18, .bin .mul (.tmp 15) (.tmp 17), none, []⟩,
     ⟨some 19, .bin .quo (.tmp 18) (.const (.int .i64 100)), none, []⟩,
     ⟨some 20, .fad 1 (.tmp 5), none, []⟩,
     ⟨some 21, .load1 (.tmp 20), none, []⟩,
     ⟨some 22, .fad 1 (.tmp 6), none, []⟩,
     ⟨some 23, .load1 (.tmp 22), none, []⟩,
     ⟨some 24, .bin .mul (.tmp 21) (.tmp 23), none, []⟩,
     ⟨some 25, .bin .add (.tmp 24) (.const (.int .i64 99)), none, []⟩,
     ⟨some 26, .bin .quo (.tmp 25) (.const (.int .i64 100)), none, []⟩,
     ⟨some 27, .build [(.val (.int .i64 0)), (.val (.int .i64 0))] [(0, 1, (.tmp 19)), (1, 1, (.tmp 26))], none, []⟩,
     ⟨none, .store 2 (.tmp 4) (.tmp 27), none, []⟩] [14, 15, 16, 17, 18, 19, 20, 21, 22, 23, 24, 25, 26, 27])
  .ret)))
set_option maxRecDepth 100000 in
theorem krotor_machine_needs : IsCode Try.prog 88 28 crotor_machine_needs [.cellN 4 2] :=
  ⟨Try.f88, _, [0, 1, 2, 3, 5, 6, 4], Try.func88, rfl, by decide, rfl, by kernel_rfl, by kernel_rfl⟩
/-- rotor_machine_margin -/
def crotor_machine_margin : ACode :=
  (.seq
   (.region false [⟨some 2, .box (.tmp 0), none, []⟩,
     ⟨some 3, .box (.tmp 1), none, []⟩,
     ⟨some 4, .mv (.const (.int .i64 0)), none, []⟩] [])
  (.seq
   (.region true [⟨some 5, .loadN 34 (.tmp 2), none, []⟩,
     ⟨some 6, .call (.func 87) [(.tmp 5)], none, [0]⟩,
     ⟨some 7, .call (.func 73) [(.tmp 6)], none, [1, 0]⟩,
     ⟨some 8, .fld1 0 (.tmp 7), none, [2, 1, 0]⟩,
     ⟨some 9, .loadN 34 (.tmp 2), none, []⟩,
     ⟨some 10, .loadN 2 (.tmp 3), none, []⟩,
     ⟨some 11, .call (.func 88) [(.tmp 9), (.tmp 10)], none, [4, 5, 2, 1, 0]⟩,
     ⟨some 12, .fld1 1 (.tmp 11), none, [6, 4, 5, 2, 1, 0]⟩,
     ⟨some 13, .bin .sub (.tmp 8) (.tmp 12), none, [3, 2, 1, 0, 7, 6, 4, 5]⟩,
     ⟨some 4, .mv (.tmp 13), none, [8, 3, 2, 1, 0, 7, 6, 4, 5]⟩] [5, 6, 7, 8, 9, 10, 11, 12, 13])
  .ret))
set_option maxRecDepth 100000 in
theorem krotor_machine_margin : IsCode Try.prog 47 14 crotor_machine_margin [.tmp 4] :=
  ⟨Try.f47, _, [0, 1, 2, 3, 4], Try.func47, rfl, by decide, rfl, by kernel_rfl, by kernel_rfl⟩
/-- top_TopSlung -/
def ctop_TopSlung : ACode :=
  (.seq
   (.region false [⟨some 3, .box (.tmp 0), none, []⟩,
     ⟨some 4, .box (.tmp 1), none, []⟩,
     ⟨some 6, .mv (.const (.bool false)), none, []⟩] [])
  (.seq
   (.seq
    (.region false [⟨some 23, .fad 0 (.tmp 3), none, []⟩,
      ⟨some 24, .loadN 26 (.tmp 23), none, []⟩,
      ⟨some 25, .call (.func 7) [(.tmp 24)], none, []⟩,
      ⟨some 26, .mv (.tmp 25), none, []⟩,
      ⟨some 27, .fad 0 (.tmp 4), (some (some 26, false)), []⟩,
      ⟨some 28, .fad 1 (.tmp 27), (some (some 26, false)), []⟩,
      ⟨some 29, .loadN 3 (.tmp 28), (some (some 26, false)), []⟩,
      ⟨some 30, .build [(.val (.slice none 0 0)), (.val (.slice none 0 0)), (.val (.slice none 0 0)), (.val (.slice none 0 0)), (.val (.slice none 0 0)), (.val (.slice none 0 0)), (.val (.slice none 0 0)), (.val (.slice none 0 0)), (.val (.slice none 0 0)), (.val (.slice none 0 0)), (.val (.slice none 0 0)), (.val (.slice none 0 0)), (.val (.slice none 0 0)), (.val (.slice none 0 0)), (.val (.slice none 0 0)), (.val (.slice none 0 0)), (.val (.slice none 0 0)), (.val (.slice none 0 0)), (.val (.slice none 0 0)), (.val (.slice none 0 0)), (.val (.slice none 0 0)), (.val (.slice none 0 0)), (.val (.slice none 0 0)), (.val (.slice none 0 0)), (.val (.int .i64 0)), (.val (.int .i64 0))] [(0, 3, (.tmp 29))], (some (some 26, false)), []⟩,
      ⟨some 31, .call (.func 7) [(.tmp 30)], (some (some 26, false)), []⟩,
      ⟨some 32, .pick (.tmp 26) (.const (.bool true)) (.tmp 31), none, []⟩,
      ⟨some 33, .mv (.tmp 32), none, []⟩,
      ⟨some 34, .fad 7 (.tmp 4), (some (some 33, false)), []⟩,
      ⟨some 35, .load1 (.tmp 34), (some (some 33, false)), []⟩,
      ⟨some 36, .len_ (.tmp 35), (some (some 33, false)), []⟩,
      ⟨some 37, .bin .gtr (.tmp 36) (.const (.int .i64 30)), (some (some 33, false)), []⟩,
      ⟨some 38, .pick (.tmp 33) (.const (.bool true)) (.tmp 37), none, []⟩,
      ⟨some 39, .mv (.tmp 38), none, []⟩,
      ⟨some 40, .fad 0 (.tmp 3), (some (some 39, false)), []⟩,
      ⟨some 41, .loadN 26 (.tmp 40), (some (some 39, false)), []⟩,
      ⟨some 42, .fad 26 (.tmp 3), (some (some 39, false)), []⟩,
      ⟨some 43, .loadN 8 (.tmp 42), (some (some 39, false)), []⟩,
      ⟨some 44, .call (.func 8) [(.tmp 41), (.tmp 43)], (some (some 39, false)), []⟩,
      ⟨some 45, .bin .neq (.tmp 44) (.const (.int .i64 0)), (some (some 39, false)), []⟩,
      ⟨some 46, .pick (.tmp 39) (.const (.bool true)) (.tmp 45), none, []⟩,
      ⟨some 47, .mv (.tmp 46), none, []⟩,
      ⟨some 48, .fad 34 (.tmp 3), (some (some 47, false)), []⟩,
      ⟨some 49, .loadN 2 (.tmp 48), (some (some 47, false)), []⟩,
      ⟨some 50, .call (.func 17) [(.tmp 49)], (some (some 47, false)), []⟩,
      ⟨some 51, .un .not (.tmp 50), (some (some 47, false)), []⟩,
      ⟨some 52, .pick (.tmp 47) (.const (.bool true)) (.tmp 51), none, []⟩] [23, 24, 25, 26, 27, 28, 29, 30, 31, 32, 33, 34, 35, 36, 37, 38, 39, 40, 41, 42, 43, 44, 45, 46, 47, 48, 49, 50, 51])
   (.cond (.tmp 52)
     (.seq
      (.region false [⟨some 53, .call (.func 9) [], none, []⟩,
        ⟨some 6, .mv (.tmp 53), none, []⟩] [53])
     .ret)
     .skip))
  (.seq
   (.region false [⟨some 7, .mv (.const (.int .i64 0)), none, []⟩] [])
  (.seq
   (.seq
    (.region false [⟨some 8, .mv (.const (.int .i64 0)), none, []⟩] [])
   (.block 0
     (.loop
       (.seq
        (.seq
         (.region false [⟨some 54, .mv (.tmp 8), none, []⟩,
           ⟨some 55, .fad 7 (.tmp 4), none, []⟩,
           ⟨some 56, .load1 (.tmp 55), none, []⟩,
           ⟨some 57, .len_ (.tmp 56), none, []⟩,
           ⟨some 58, .bin .lss (.tmp 54) (.tmp 57), none, []⟩] [54, 55, 56, 57])
        (.cond (.tmp 58)
          .skip
          (.exit 0)))
       (.seq
        (.block 1
          (.seq
           (.region false [⟨some 61, .fad 7 (.tmp 4), none, []⟩,
             ⟨some 62, .load1 (.tmp 61), none, []⟩,
             ⟨some 63, .mv (.tmp 8), none, []⟩,
             ⟨some 64, .iadS 2 (.tmp 62) (.tmp 63), none, []⟩,
             ⟨some 65, .fad 0 (.tmp 64), none, []⟩,
             ⟨some 66, .load1 (.tmp 65), none, []⟩,
             ⟨some 67, .bin .eql (.tmp 66) (.const (.int .i64 4)), none, []⟩,
             ⟨some 68, .mv (.tmp 67), none, []⟩,
             ⟨some 69, .fad 7 (.tmp 4), (some (some 68, true)), []⟩,
             ⟨some 70, .load1 (.tmp 69), (some (some 68, true)), []⟩,
             ⟨some 71, .mv (.tmp 8), (some (some 68, true)), []⟩,
             ⟨some 72, .iadS 2 (.tmp 70) (.tmp 71), (some (some 68, true)), []⟩,
             ⟨some 73, .fad 1 (.tmp 72), (some (some 68, true)), []⟩,
             ⟨some 74, .load1 (.tmp 73), (some (some 68, true)), []⟩,
             ⟨some 75, .bin .leq (.tmp 74) (.const (.int .i64 100000)), (some (some 68, true)), []⟩,
             ⟨some 76, .pick (.tmp 68) (.tmp 75) (.const (.bool false)), none, []⟩] [61, 62, 63, 64, 65, 66, 67, 68, 69, 70, 71, 72, 73, 74, 75])
          (.cond (.tmp 76)
            (.region false [⟨some 77, .mv (.tmp 7), none, []⟩,
              ⟨some 78, .fad 7 (.tmp 4), none, []⟩,
              ⟨some 79, .load1 (.tmp 78), none, []⟩,
              ⟨some 80, .mv (.tmp 8), none, []⟩,
              ⟨some 81, .iadS 2 (.tmp 79) (.tmp 80), none, []⟩,
              ⟨some 82, .fad 1 (.tmp 81), none, []⟩,
              ⟨some 83, .load1 (.tmp 82), none, []⟩,
              ⟨some 84, .mnx true [(.tmp 77), (.tmp 83)], none, []⟩,
              ⟨some 7, .mv (.tmp 84), none, []⟩] [77, 78, 79, 80, 81, 82, 83, 84])
            .skip)))
       (.region false [⟨some 59, .mv (.tmp 8), none, []⟩,
         ⟨some 60, .bin .add (.tmp 59) (.const (.int .i64 1)), none, []⟩,
         ⟨some 8, .mv (.tmp 60), none, []⟩] [59, 60]))))))
  (.seq
   (.region false [⟨some 86, .fad 26 (.tmp 3), none, []⟩,
     ⟨some 87, .fad 0 (.tmp 86), none, []⟩,
     ⟨some 88, .loadN 2 (.tmp 87), none, []⟩,
     ⟨some 89, .mv (.tmp 7), none, []⟩,
     ⟨some 90, .build [(.val (.int .i64 0)), (.val (.int .i64 0))] [(1, 1, (.tmp 89))], none, []⟩,
     ⟨some 91, .call (.func 18) [(.tmp 88), (.tmp 90)], none, []⟩,
     ⟨some 85, .mv (.tmp 91), none, []⟩,
     ⟨some 92, .ext (.tmp 85) 0, none, []⟩,
     ⟨some 93, .ext (.tmp 85) 1, none, []⟩,
     ⟨some 9, .mem [(.val (.int .i64 0)), (.val (.int .i64 0))], none, []⟩,
     ⟨none, .store 2 (.tmp 9) (.tmp 92), none, []⟩,
     ⟨some 10, .mv (.tmp 93), none, []⟩] [86, 87, 88, 89, 90, 91, 85, 92, 93])
  (.seq
   (.seq
    (.region false [⟨some 94, .mv (.tmp 10), none, []⟩,
      ⟨some 95, .bin .neq (.tmp 94) (.const (.int .i64 0)), none, []⟩] [94])
   (.cond (.tmp 95)
     (.seq
      (.region false [⟨some 96, .call (.func 9) [], none, []⟩,
        ⟨some 6, .mv (.tmp 96), none, []⟩] [96])
     .ret)
     .skip))
  (.seq
   (.region false [⟨some 97, .fad 26 (.tmp 3), none, []⟩,
     ⟨some 98, .loadN 8 (.tmp 97), none, []⟩,
     ⟨some 11, .mem [(.val (.int .i64 0)), (.val (.int .i64 0)), (.val (.int .i64 0)), (.val (.int .i64 0)), (.val (.int .i64 0)), (.val (.int .i64 0)), (.val (.int .i64 0)), (.val (.int .i64 0))], none, []⟩,
     ⟨none, .store 8 (.tmp 11) (.tmp 98), none, []⟩] [97, 98])
  (.seq
   (.region false [⟨some 99, .loadN 2 (.tmp 9), none, []⟩,
     ⟨some 100, .fad 0 (.tmp 11), none, []⟩,
     ⟨none, .store 2 (.tmp 100) (.tmp 99), none, []⟩] [99, 100])
  (.seq
   (.region false [⟨some 102, .fad 0 (.tmp 3), none, []⟩,
     ⟨some 103, .loadN 26 (.tmp 102), none, []⟩,
     ⟨some 104, .loadN 8 (.tmp 11), none, []⟩,
     ⟨some 105, .fad 34 (.tmp 3), none, []⟩,
     ⟨some 106, .loadN 2 (.tmp 105), none, []⟩,
     ⟨some 107, .call (.func 19) [(.tmp 103), (.tmp 104), (.tmp 106)], none, []⟩,
     ⟨some 101, .mv (.tmp 107), none, []⟩,
     ⟨some 108, .ext (.tmp 101) 0, none, []⟩,
     ⟨some 109, .ext (.tmp 101) 1, none, []⟩,
     ⟨some 12, .mv (.tmp 108), none, []⟩,
     ⟨some 13, .mv (.tmp 109), none, []⟩] [102, 103, 104, 105, 106, 107, 101, 108, 109])
  (.seq
   (.seq
    (.region false [⟨some 110, .mv (.tmp 13), none, []⟩,
      ⟨some 111, .bin .neq (.tmp 110) (.const (.int .i64 0)), none, []⟩,
      ⟨some 112, .mv (.tmp 111), none, []⟩,
      ⟨some 113, .mv (.tmp 12), (some (some 112, false)), []⟩,
      ⟨some 114, .mv (.tmp 2), (some (some 112, false)), []⟩,
      ⟨some 115, .bin .lss (.tmp 113) (.tmp 114), (some (some 112, false)), []⟩,
      ⟨some 116, .pick (.tmp 112) (.const (.bool true)) (.tmp 115), none, []⟩] [110, 111, 112, 113, 114, 115])
   (.cond (.tmp 116)
     (.seq
      (.region false [⟨some 117, .call (.func 9) [], none, []⟩,
        ⟨some 6, .mv (.tmp 117), none, []⟩] [117])
     .ret)
     .skip))
  (.seq
   (.seq
    (.region false [⟨some 14, .mv (.const (.int .i64 0)), none, []⟩] [])
   (.block 2
     (.loop
       (.seq
        (.seq
         (.region false [⟨some 118, .mv (.tmp 14), none, []⟩,
           ⟨some 119, .fad 7 (.tmp 4), none, []⟩,
           ⟨some 120, .load1 (.tmp 119), none, []⟩,
           ⟨some 121, .len_ (.tmp 120), none, []⟩,
           ⟨some 122, .bin .leq (.tmp 118) (.tmp 121), none, []⟩] [118, 119, 120, 121])
        (.cond (.tmp 122)
          .skip
          (.exit 2)))
       (.seq
        (.block 3
          (.seq
           (.region true [⟨some 126, .fad 0 (.tmp 4), none, []⟩,
             ⟨some 127, .loadN 5 (.tmp 126), none, [0]⟩,
             ⟨some 128, .fad 5 (.tmp 4), none, []⟩,
             ⟨some 129, .loadN 2 (.tmp 128), none, [2]⟩,
             ⟨some 130, .buildSl 2 0 [] [], none, []⟩,
             ⟨some 131, .fad 7 (.tmp 4), none, []⟩,
             ⟨some 132, .load1 (.tmp 131), none, [5]⟩,
             ⟨some 133, .mv (.tmp 14), none, []⟩,
             ⟨some 134, .slS 2 (.tmp 132) none (some (.tmp 133)), none, [6, 5, 7]⟩,
             ⟨some 135, .app 2 16 (.tmp 130) (.tmp 134), none, [4, 8, 6, 5, 7]⟩,
             ⟨some 136, .call (.func 20) [(.tmp 127), (.tmp 129), (.tmp 135)], none, [1, 0, 3, 2, 9, 4, 8, 6, 5, 7]⟩,
             ⟨some 125, .mv (.tmp 136), none, [10, 1, 0, 3, 2, 9, 4, 8, 6, 5, 7]⟩,
             ⟨some 137, .ext (.tmp 125) 0, none, [11, 10, 1, 0, 3, 2, 9, 4, 8, 6, 5, 7]⟩,
             ⟨some 138, .ext (.tmp 125) 1, none, [11, 10, 1, 0, 3, 2, 9, 4, 8, 6, 5, 7]⟩,
             ⟨some 139, .ext (.tmp 125) 2, none, [11, 10, 1, 0, 3, 2, 9, 4, 8, 6, 5, 7]⟩,
             ⟨some 15, .mem [(.val (.int .i64 0)), (.val (.int .i64 0)), (.val (.int .i64 0)), (.val (.int .i64 0)), (.val (.bool false))], none, []⟩,
             ⟨none, .store 5 (.tmp 15) (.tmp 137), none, [15, 12, 11, 10, 1, 0, 3, 2, 9, 4, 8, 6, 5, 7]⟩,
             ⟨some 16, .mv (.tmp 138), none, [13, 11, 10, 1, 0, 3, 2, 9, 4, 8, 6, 5, 7, 16, 15, 12]⟩,
             ⟨some 17, .mv (.tmp 139), none, [14, 11, 10, 1, 0, 3, 2, 9, 4, 8, 6, 5, 7, 17, 13, 16, 15, 12]⟩] [126, 127, 128, 129, 130, 131, 132, 133, 134, 135, 136, 125, 137, 138, 139, 16])
          (.seq
           (.seq
            (.region false [⟨some 140, .mv (.tmp 17), none, []⟩,
              ⟨some 141, .bin .neq (.tmp 140) (.const (.int .i64 0)), none, []⟩] [140])
           (.cond (.tmp 141)
             (.seq
              (.region false [⟨some 142, .call (.func 9) [], none, []⟩,
                ⟨some 6, .mv (.tmp 142), none, []⟩] [142])
             .ret)
             .skip))
          (.seq
           (.seq
            (.region false [⟨some 143, .fad 1 (.tmp 15), none, []⟩,
              ⟨some 144, .load1 (.tmp 143), none, []⟩,
              ⟨some 145, .bin .lss (.tmp 144) (.const (.int .i64 0)), none, []⟩,
              ⟨some 146, .mv (.tmp 145), none, []⟩,
              ⟨some 147, .fad 1 (.tmp 15), (some (some 146, false)), []⟩,
              ⟨some 148, .load1 (.tmp 147), (some (some 146, false)), []⟩,
              ⟨some 149, .mv (.tmp 7), (some (some 146, false)), []⟩,
              ⟨some 150, .bin .gtr (.tmp 148) (.tmp 149), (some (some 146, false)), []⟩,
              ⟨some 151, .pick (.tmp 146) (.const (.bool true)) (.tmp 150), none, []⟩] [143, 144, 145, 146, 147, 148, 149, 150])
           (.cond (.tmp 151)
             (.seq
              (.region false [⟨some 6, .mv (.const (.bool false)), none, []⟩] [])
             .ret)
             .skip))
          (.seq
           (.region false [⟨some 152, .fad 26 (.tmp 3), none, []⟩,
             ⟨some 153, .loadN 8 (.tmp 152), none, []⟩,
             ⟨some 18, .mem [(.val (.int .i64 0)), (.val (.int .i64 0)), (.val (.int .i64 0)), (.val (.int .i64 0)), (.val (.int .i64 0)), (.val (.int .i64 0)), (.val (.int .i64 0)), (.val (.int .i64 0))], none, []⟩,
             ⟨none, .store 8 (.tmp 18) (.tmp 153), none, []⟩] [152, 153])
          (.seq
           (.region false [⟨some 154, .fad 26 (.tmp 3), none, []⟩,
             ⟨some 155, .fad 0 (.tmp 154), none, []⟩,
             ⟨some 156, .fad 0 (.tmp 155), none, []⟩,
             ⟨some 157, .load1 (.tmp 156), none, []⟩,
             ⟨some 158, .fad 1 (.tmp 15), none, []⟩,
             ⟨some 159, .load1 (.tmp 158), none, []⟩,
             ⟨some 160, .bin .add (.tmp 157) (.tmp 159), none, []⟩,
             ⟨some 161, .fad 26 (.tmp 3), none, []⟩,
             ⟨some 162, .fad 0 (.tmp 161), none, []⟩,
             ⟨some 163, .fad 1 (.tmp 162), none, []⟩,
             ⟨some 164, .load1 (.tmp 163), none, []⟩,
             ⟨some 165, .fad 1 (.tmp 15), none, []⟩,
             ⟨some 166, .load1 (.tmp 165), none, []⟩,
             ⟨some 167, .bin .add (.tmp 164) (.tmp 166), none, []⟩,
             ⟨some 168, .build [(.val (.int .i64 0)), (.val (.int .i64 0))] [(0, 1, (.tmp 160)), (1, 1, (.tmp 167))], none, []⟩,
             ⟨some 169, .fad 0 (.tmp 18), none, []⟩,
             ⟨none, .store 2 (.tmp 169) (.tmp 168), none, []⟩] [154, 155, 156, 157, 158, 159, 160, 161, 162, 163, 164, 165, 166, 167, 168, 169])
          (.seq
           (.region false [⟨some 171, .fad 0 (.tmp 3), none, []⟩,
             ⟨some 172, .loadN 26 (.tmp 171), none, []⟩,
             ⟨some 173, .loadN 8 (.tmp 18), none, []⟩,
             ⟨some 174, .fad 34 (.tmp 3), none, []⟩,
             ⟨some 175, .loadN 2 (.tmp 174), none, []⟩,
             ⟨some 176, .call (.func 19) [(.tmp 172), (.tmp 173), (.tmp 175)], none, []⟩,
             ⟨some 170, .mv (.tmp 176), none, []⟩,
             ⟨some 177, .ext (.tmp 170) 0, none, []⟩,
             ⟨some 178, .ext (.tmp 170) 1, none, []⟩,
             ⟨some 19, .mv (.tmp 177), none, []⟩,
             ⟨some 20, .mv (.tmp 178), none, []⟩] [171, 172, 173, 174, 175, 176, 170, 177, 178])
          (.seq
           (.seq
            (.region false [⟨some 179, .mv (.tmp 20), none, []⟩,
              ⟨some 180, .bin .neq (.tmp 179) (.const (.int .i64 0)), none, []⟩,
              ⟨some 181, .mv (.tmp 180), none, []⟩,
              ⟨some 182, .mv (.tmp 19), (some (some 181, false)), []⟩,
              ⟨some 183, .mv (.tmp 2), (some (some 181, false)), []⟩,
              ⟨some 184, .bin .lss (.tmp 182) (.tmp 183), (some (some 181, false)), []⟩,
              ⟨some 185, .pick (.tmp 181) (.const (.bool true)) (.tmp 184), none, []⟩] [179, 180, 181, 182, 183, 184])
           (.cond (.tmp 185)
             (.seq
              (.region false [⟨some 6, .mv (.const (.bool false)), none, []⟩] [])
             .ret)
             .skip))
          (.seq
           (.seq
            (.region false [⟨some 186, .fad 1 (.tmp 15), none, []⟩,
              ⟨some 187, .load1 (.tmp 186), none, []⟩,
              ⟨some 188, .bin .eql (.tmp 187) (.const (.int .i64 0)), none, []⟩] [186, 187])
           (.cond (.tmp 188)
             (.exit 3)
             .skip))
          (.seq
           (.region false [⟨some 190, .fad 0 (.tmp 4), none, []⟩,
             ⟨some 191, .loadN 5 (.tmp 190), none, []⟩,
             ⟨some 192, .fad 5 (.tmp 4), none, []⟩,
             ⟨some 193, .loadN 2 (.tmp 192), none, []⟩,
             ⟨some 194, .fad 0 (.tmp 15), none, []⟩,
             ⟨some 195, .load1 (.tmp 194), none, []⟩,
             ⟨some 196, .fad 1 (.tmp 15), none, []⟩,
             ⟨some 197, .load1 (.tmp 196), none, []⟩,
             ⟨some 198, .call (.func 21) [(.tmp 191), (.tmp 193), (.tmp 195), (.tmp 197)], none, []⟩,
             ⟨some 189, .mv (.tmp 198), none, []⟩,
             ⟨some 199, .ext (.tmp 189) 0, none, []⟩,
             ⟨some 200, .ext (.tmp 189) 1, none, []⟩,
             ⟨some 21, .mv (.tmp 199), none, []⟩,
             ⟨some 22, .mv (.tmp 200), none, []⟩] [190, 191, 192, 193, 194, 195, 196, 197, 198, 189, 199, 200])
          (.seq
           (.region false [⟨some 201, .mv (.tmp 22), none, []⟩,
             ⟨some 202, .bin .neq (.tmp 201) (.const (.int .i64 0)), none, []⟩,
             ⟨some 203, .mv (.tmp 202), none, []⟩,
             ⟨some 204, .mv (.tmp 21), (some (some 203, false)), []⟩,
             ⟨some 205, .un .not (.tmp 204), (some (some 203, false)), []⟩,
             ⟨some 206, .pick (.tmp 203) (.const (.bool true)) (.tmp 205), none, []⟩] [201, 202, 203, 204, 205])
          (.cond (.tmp 206)
            (.seq
             (.region false [⟨some 6, .mv (.const (.bool false)), none, []⟩] [])
            .ret)
            .skip))))))))))))
       (.region false [⟨some 123, .mv (.tmp 14), none, []⟩,
         ⟨some 124, .bin .add (.tmp 123) (.const (.int .i64 1)), none, []⟩,
         ⟨some 14, .mv (.tmp 124), none, []⟩] [123, 124]))))))
  (.seq
   (.region false [⟨some 207, .call (.func 9) [], none, []⟩,
     ⟨some 6, .mv (.tmp 207), none, []⟩] [207])
  .ret))))))))))))
set_option maxRecDepth 100000 in
theorem ktop_TopSlung : IsCode Try.prog 5 208 ctop_TopSlung [.tmp 6] :=
  ⟨Try.f5, _, [206, 188, 185, 151, 141, 122, 116, 95, 76, 58, 52, 0, 1, 3, 4, 8, 7, 10, 9, 11, 13, 12, 2, 14, 17, 15, 18, 20, 19, 22, 21, 6], Try.func5, rfl, by decide, rfl, by kernel_rfl, by kernel_rfl⟩
end Go.Proofs.Ytgibbaadjbohdaa
/- rotor: Margin (views last). No conditions. -/
set_option linter.unusedSimpArgs false
set_option linter.unusedVariables false
namespace Go.Proofs.Ytgibbaadjbohdaa
open Go.RowKit Lift

set_option maxRecDepth 100000 in
set_option maxHeartbeats 2000000 in
theorem roHoverM_ac (r : Rot) (a : Air) : AC Try.prog 85 [.agg (macC r a)] [] [] (.agg (lkC r.a a.w a.t)) := by
  refine krotor_machine_hover.ac (n0 := 0) (by simp) ⟨.agg _ (wals_in rfl), trivial⟩ trivial rfl ?_
  unfold crotor_machine_hover macC lkC
  (have hg : (987654321 : Nat) - 987654321 = 0 := rfl; have hr := hg; repeat' (first | refine aw_seq ?_ | (refine aw_skip ?_; with_reducible repeat' (first | refine thenQ_n ?_ | refine blockQ_n ?_ | refine thenQ_e ?_ | refine blockQ_t ?_ | refine blockQ_f (by decide) ?_)) | (refine aw_exit ?_; with_reducible repeat' (first | refine thenQ_n ?_ | refine blockQ_n ?_ | refine thenQ_e ?_ | refine blockQ_t ?_ | refine blockQ_f (by decide) ?_)) | refine aw_ret ?_ | refine aw_block ?_ | refine aw_condT rfl ?_ | refine aw_condF rfl ?_ | ((first | refine aw_hide fun K hK => aw_region ?_ | refine ago_if (by omega) ?_ | skip); simp (config := {maxSteps := 10000000}) (disch := first | exact okYes (by kernel_rfl) | omega) only [List.length, Nat.zero_add, Nat.reduceAdd, Nat.reduceMul, envOf, dI, ARun_none, AOpRun, aexec, D.isBot, FSt.ev, St.F, ↓eget_h, Bool.false_eq_true, Option.isSome, hget_n, or_self, ↓reduceIte, D.cells, AGo_ok, St.app, putO, eput_c, Nat.reduceBEq, eput_n, cond_false, hups, hput_n, List.map, hget_c, hput_c, ARun_nil, dropE_c, inL_n, dropE_n, eget_c, beq_self_eq_true, cond_true, Nat.reduceLeDiff, List.drop, List.take, Option.map, fillD, ne_eq, not_true_eq_false, Nat.reduceGT, splice, List.nil_append, List.cons_append, List.append_nil, ↓hget_h, List.all, D.leaf, Bool.and_true, and_self, inL_c]) | (subst hK; with_reducible repeat' (first | refine thenQ_n ?_ | refine blockQ_n ?_ | refine thenQ_e ?_ | refine blockQ_t ?_ | refine blockQ_f (by decide) ?_))))
  all_goals (refine end_to [] [] (by first | exact .inl rfl | exact .inr rfl) rfl (by kernel_rfl) (by kernel_rfl) (by kernel_rfl) ?_ ?_ <;> repeat' (first | exact trivial | exact vr_val _ | exact vr_list _ | apply vr_agg | apply And.intro))
set_option maxRecDepth 100000 in
set_option maxHeartbeats 2000000 in
theorem roGroundM_ac (r : Rot) (a : Air) (s : Int × Int) : AC Try.prog 86 [.agg (macC r a), .agg [dI s.1, dI s.2]] [] [] (.agg (lkC r.b s a.d)) := by
  refine krotor_machine_ground.ac (n0 := 0) (by simp) ⟨.agg _ (wals_in rfl), in_sp _ s.1 s.2, trivial⟩ trivial rfl ?_
  unfold crotor_machine_ground macC lkC
  (have hg : (987654321 : Nat) - 987654321 = 0 := rfl; have hr := hg; repeat' (first | refine aw_seq ?_ | (refine aw_skip ?_; with_reducible repeat' (first | refine thenQ_n ?_ | refine blockQ_n ?_ | refine thenQ_e ?_ | refine blockQ_t ?_ | refine blockQ_f (by decide) ?_)) | (refine aw_exit ?_; with_reducible repeat' (first | refine thenQ_n ?_ | refine blockQ_n ?_ | refine thenQ_e ?_ | refine blockQ_t ?_ | refine blockQ_f (by decide) ?_)) | refine aw_ret ?_ | refine aw_block ?_ | refine aw_condT rfl ?_ | refine aw_condF rfl ?_ | ((first | refine aw_hide fun K hK => aw_region ?_ | refine ago_if (by omega) ?_ | skip); simp (config := {maxSteps := 10000000}) (disch := first | exact okYes (by kernel_rfl) | omega) only [List.length, Nat.zero_add, Nat.reduceAdd, Nat.reduceMul, envOf, dI, ARun_none, AOpRun, aexec, D.isBot, FSt.ev, St.F, ↓eget_h, Bool.false_eq_true, Option.isSome, hget_n, or_self, ↓reduceIte, D.cells, AGo_ok, St.app, putO, eput_c, Nat.reduceBEq, eput_n, cond_false, hups, hput_n, List.map, eget_c, hget_c, hput_c, ARun_nil, dropE_c, inL_n, dropE_n, beq_self_eq_true, cond_true, Nat.reduceLeDiff, List.drop, List.take, ↓hget_h, Option.map, fillD, ne_eq, not_true_eq_false, Nat.reduceGT, splice, List.nil_append, List.cons_append, List.append_nil, List.all, D.leaf, Bool.and_true, and_self, inL_c]) | (subst hK; with_reducible repeat' (first | refine thenQ_n ?_ | refine blockQ_n ?_ | refine thenQ_e ?_ | refine blockQ_t ?_ | refine blockQ_f (by decide) ?_))))
  all_goals (refine end_to [] [] (by first | exact .inl rfl | exact .inr rfl) rfl (by kernel_rfl) (by kernel_rfl) (by kernel_rfl) ?_ ?_ <;> repeat' (first | exact trivial | exact vr_val _ | exact vr_list _ | apply vr_agg | apply And.intro))
set_option maxRecDepth 100000 in
set_option maxHeartbeats 2000000 in
theorem roPowerM_ac (r : Rot) (a : Air) : AC Try.prog 87 [.agg (macC r a)] [] [] (.agg (lkC r.d a.t a.h)) := by
  refine krotor_machine_power.ac (n0 := 0) (by simp) ⟨.agg _ (wals_in rfl), trivial⟩ trivial rfl ?_
  unfold crotor_machine_power macC lkC
  (have hg : (987654321 : Nat) - 987654321 = 0 := rfl; have hr := hg; repeat' (first | refine aw_seq ?_ | (refine aw_skip ?_; with_reducible repeat' (first | refine thenQ_n ?_ | refine blockQ_n ?_ | refine thenQ_e ?_ | refine blockQ_t ?_ | refine blockQ_f (by decide) ?_)) | (refine aw_exit ?_; with_reducible repeat' (first | refine thenQ_n ?_ | refine blockQ_n ?_ | refine thenQ_e ?_ | refine blockQ_t ?_ | refine blockQ_f (by decide) ?_)) | refine aw_ret ?_ | refine aw_block ?_ | refine aw_condT rfl ?_ | refine aw_condF rfl ?_ | ((first | refine aw_hide fun K hK => aw_region ?_ | refine ago_if (by omega) ?_ | skip); simp (config := {maxSteps := 10000000}) (disch := first | exact okYes (by kernel_rfl) | omega) only [List.length, Nat.zero_add, Nat.reduceAdd, Nat.reduceMul, envOf, dI, ARun_none, AOpRun, aexec, D.isBot, FSt.ev, St.F, ↓eget_h, Bool.false_eq_true, Option.isSome, hget_n, or_self, ↓reduceIte, D.cells, AGo_ok, St.app, putO, eput_c, Nat.reduceBEq, eput_n, cond_false, hups, hput_n, List.map, hget_c, hput_c, ARun_nil, dropE_c, inL_n, dropE_n, eget_c, beq_self_eq_true, cond_true, Nat.reduceLeDiff, List.drop, List.take, Option.map, fillD, ne_eq, not_true_eq_false, Nat.reduceGT, splice, List.nil_append, List.cons_append, List.append_nil, ↓hget_h, List.all, D.leaf, Bool.and_true, and_self, inL_c]) | (subst hK; with_reducible repeat' (first | refine thenQ_n ?_ | refine blockQ_n ?_ | refine thenQ_e ?_ | refine blockQ_t ?_ | refine blockQ_f (by decide) ?_))))
  all_goals (refine end_to [] [] (by first | exact .inl rfl | exact .inr rfl) rfl (by kernel_rfl) (by kernel_rfl) (by kernel_rfl) ?_ ?_ <;> repeat' (first | exact trivial | exact vr_val _ | exact vr_list _ | apply vr_agg | apply And.intro))
/-- a table, and two spans -/
structure Lk where
  t : Tb
  x : Int × Int
  y : Int × Int
instance : Inhabited Lk := ⟨⟨⟨[], [], []⟩, (0, 0), (0, 0)⟩⟩
def lkLs (T : List Lk) : List (List D) := T.map fun q => lkC q.t q.x q.y
def lkB (q : Lk) : Bool := lyB q.t q.x q.y
def lkAt (T : List Lk) (k : Nat) : Lk := T[k]?.getD default
theorem lkLs_gd (T : List Lk) (k : Nat) (h : k < T.length) : (lkLs T)[k]? = some (lkC (lkAt T k).t (lkAt T k).x (lkAt T k).y) := by simp [lkLs, lkAt, h]
theorem lkLs_len (T : List Lk) : (lkLs T).length = T.length := by simp [lkLs]
theorem lkLs_all (T : List Lk) : (lkLs T).all (fun x => x.length == 7) = true := by
  refine List.all_eq_true.2 fun x hx => ?_
  obtain ⟨q, _, rfl⟩ := List.mem_map.1 hx
  rfl
set_option maxRecDepth 100000 in
set_option maxHeartbeats 4000000 in
theorem roIdxM_ac (T : List Lk) (hT : ∀ k, k < T.length → Tbl (lkAt T k).t.x (lkAt T k).t.y (lkAt T k).t.v ∧ TbSm (lkAt T k).t) (hl : T.length ≤ 1000) (K : Nat) (hK : K ≤ T.length) (h1 : ∀ i, i < K → lkB (lkAt T i) = true) (h2 : K < T.length → lkB (lkAt T K) = false) :
    AC Try.prog 146 [.list (lkLs T), .fn 123 [] []] [] [] (dI (if K < T.length then K else -1)) := by
  refine kslices_IndexFunc_L_L_Jrotor_looked_Krotor_looked_J.ac (n0 := 0) (by simp) ⟨.list _, .fn _ _ _ (by simp) (by simp), trivial⟩ trivial rfl ?_
  unfold cslices_IndexFunc_L_L_Jrotor_looked_Krotor_looked_J
  have ll := lkLs_len T
  have la := lkLs_all T
  have lg := lkLs_gd T
  have c2 := fun k hk => roCheck2_ac (lkAt T k).t (lkAt T k).x (lkAt T k).y (hT k hk).1 (hT k hk).2
  generalize lkLs T = L at *
  (have hg : (987654321 : Nat) - 987654321 = 0 := rfl; have hr := hg; repeat' (first | refine aw_seq ?_ | (refine aw_skip ?_; with_reducible repeat' (first | refine thenQ_n ?_ | refine blockQ_n ?_ | refine thenQ_e ?_ | refine blockQ_t ?_ | refine blockQ_f (by decide) ?_)) | (refine aw_exit ?_; with_reducible repeat' (first | refine thenQ_n ?_ | refine blockQ_n ?_ | refine thenQ_e ?_ | refine blockQ_t ?_ | refine blockQ_f (by decide) ?_)) | refine aw_ret ?_ | refine aw_block ?_ | refine aw_condT rfl ?_ | refine aw_condF rfl ?_ | ((first | refine aw_hide fun K hK => aw_region ?_ | refine ago_if (by omega) ?_ | skip); simp (config := {maxSteps := 10000000}) (disch := first | exact okYes (by kernel_rfl) | omega) only [List.length, Nat.zero_add, Nat.reduceMul, envOf, ARun_none, AOpRun, aexec, FSt.ev, AGo_ok, St.app, putO, eput_c, Nat.reduceBEq, eput_n, cond_false, hups, List.map, ARun_nil, dropE_c, inL_n, dropE_n, Nat.reduceAdd, St.F, ↓eget_h, eget_c, ll, inL_c, beq_self_eq_true, cond_true, Int.reduceNeg, dI]) | (subst hK; with_reducible repeat' (first | refine thenQ_n ?_ | refine blockQ_n ?_ | refine thenQ_e ?_ | refine blockQ_t ?_ | refine blockQ_f (by decide) ?_))))
  refine aw_loop (fun k : Nat => ⟨[(0, .list L), (1, .fn 123 [] []), (7, dI T.length), (8, dI k)], [], 400⟩) (fun k => k ≤ K) (fun k => K - k) ⟨0, by omega, ?_⟩ ?_
  · unfold dI
    refine wk_to [] [] (by kernel_rfl) (by kernel_rfl) (by kernel_rfl) (by kernel_rfl) (by kernel_rfl) ?_ ?_ <;> repeat' (first | exact trivial | exact vr_val _ | exact vr_list _ | apply vr_fn | apply And.intro)
  intro k hk
  by_cases hk2 : k < T.length
  case neg =>
    obtain rfl : K = T.length := by omega
    obtain rfl : k = T.length := by omega
    rw [if_neg (by omega)]
    (have hg : (987654321 : Nat) - 987654321 = 0 := rfl; have hr := hg; repeat' (first | refine aw_seq ?_ | (refine aw_skip ?_; with_reducible repeat' (first | refine thenQ_n ?_ | refine blockQ_n ?_ | refine thenQ_e ?_ | refine blockQ_t ?_ | refine blockQ_f (by decide) ?_)) | (refine aw_exit ?_; with_reducible repeat' (first | refine thenQ_n ?_ | refine blockQ_n ?_ | refine thenQ_e ?_ | refine blockQ_t ?_ | refine blockQ_f (by decide) ?_)) | refine aw_ret ?_ | refine aw_block ?_ | refine aw_condT rfl ?_ | refine aw_condF rfl ?_ | (refine aw_cond rfl (fun hg => ?_) (fun hg => ?_) <;> (try (have hq := hg; simp only [Bool.not_eq_true', Bool.not_eq_false', Bool.and_eq_true, Bool.and_eq_false_iff, Bool.or_eq_true, Bool.or_eq_false_iff, decide_eq_true_eq, decide_eq_false_iff_not, bne_iff_ne, beq_iff_eq, beq_eq_false_iff_ne, bne_eq_false_iff_eq, ne_eq, Int.not_lt, Int.not_le, Decidable.not_not] at hq)) <;> (try (have hr := hg; simp only [decide_eq_true_eq, decide_eq_false_iff_not] at hr)) <;> (try (exfalso; omega))) | ((first | refine aw_hide fun K hK => aw_region ?_ | refine ago_if (by omega) ?_ | skip); simp (config := {maxSteps := 10000000}) (disch := first | exact okYes (by kernel_rfl) | omega) only [List.length, Nat.zero_add, Nat.reduceMul, Nat.reduceAdd, dI, ARun_none, AOpRun, aexec, FSt.ev, St.F, eget_c, Nat.reduceBEq, ↓eget_h, cond_false, isSh, Bool.false_eq_true, ↓reduceIte, Option.map, abin, AGo_ok, St.app, putO, eput_c, eput_n, hups, List.map, ARun_nil, dropE_c, inL_n, dropE_n, Int.reduceNeg, hr, decide_false]) | (subst hK; with_reducible repeat' (first | refine thenQ_n ?_ | refine blockQ_n ?_ | refine thenQ_e ?_ | refine blockQ_t ?_ | refine blockQ_f (by decide) ?_))))
    all_goals (refine end_to [] [] (by first | exact .inl rfl | exact .inr rfl) rfl (by kernel_rfl) (by kernel_rfl) (by kernel_rfl) ?_ ?_ <;> repeat' (first | exact trivial | exact vr_val _))
  have g := lg k hk2
  have c := c2 k hk2
  have ki : (k : Int) < (T.length : Int) := by omega
  clear lg c2
  by_cases hkK : k < K
  case pos =>
    have hb := h1 k hkK
    unfold lkB at hb
    rw [hb] at c
    unfold lkC at *
    generalize lkAt T k = q at *
    (have hg : (987654321 : Nat) - 987654321 = 0 := rfl; have hr := hg; repeat' (first | refine aw_seq ?_ | (refine aw_skip ?_; with_reducible repeat' (first | refine thenQ_n ?_ | refine blockQ_n ?_ | refine thenQ_e ?_ | refine blockQ_t ?_ | refine blockQ_f (by decide) ?_)) | (refine aw_exit ?_; with_reducible repeat' (first | refine thenQ_n ?_ | refine blockQ_n ?_ | refine thenQ_e ?_ | refine blockQ_t ?_ | refine blockQ_f (by decide) ?_)) | refine aw_ret ?_ | refine aw_block ?_ | refine aw_condT rfl ?_ | refine aw_condF rfl ?_ | ((first | refine aw_hide fun K hK => aw_region ?_ | refine acall0 (c) ?_ | refine ago_if (by omega) ?_ | skip); simp (config := {maxSteps := 10000000}) (disch := first | exact okYes (by kernel_rfl) | omega) only [List.length, Nat.zero_add, Nat.reduceMul, Nat.reduceAdd, dI, ARun_none, AOpRun, aexec, FSt.ev, St.F, eget_c, Nat.reduceBEq, ↓eget_h, cond_false, isSh, Bool.false_eq_true, ↓reduceIte, Option.map, abin, ki, decide_true, AGo_ok, St.app, putO, eput_c, eput_n, hups, List.map, ARun_nil, dropE_c, inL_n, dropE_n, inL_c, beq_self_eq_true, cond_true, Int.natCast_nonneg, la, and_self, opt1, Int.toNat_natCast, g, Nat.reduceLeDiff, List.take, dB, Bool.not_true, fits]) | (subst hK; with_reducible repeat' (first | refine thenQ_n ?_ | refine blockQ_n ?_ | refine thenQ_e ?_ | refine blockQ_t ?_ | refine blockQ_f (by decide) ?_))))
    refine ⟨k + 1, by omega, by omega, ?_⟩
    refine wk_to [] [] (by kernel_rfl) (by kernel_rfl) (by kernel_rfl) (by kernel_rfl) (by kernel_rfl) ?_ ?_ <;> repeat' (first | exact trivial | exact vr_val _ | exact vr_list _ | apply vr_fn | apply And.intro)
  obtain rfl : k = K := by omega
  have hb := h2 hk2
  unfold lkB at hb
  rw [hb] at c
  rw [if_pos hk2]
  unfold lkC at *
  generalize lkAt T k = q at *
  (have hg : (987654321 : Nat) - 987654321 = 0 := rfl; have hr := hg; repeat' (first | refine aw_seq ?_ | (refine aw_skip ?_; with_reducible repeat' (first | refine thenQ_n ?_ | refine blockQ_n ?_ | refine thenQ_e ?_ | refine blockQ_t ?_ | refine blockQ_f (by decide) ?_)) | (refine aw_exit ?_; with_reducible repeat' (first | refine thenQ_n ?_ | refine blockQ_n ?_ | refine thenQ_e ?_ | refine blockQ_t ?_ | refine blockQ_f (by decide) ?_)) | refine aw_ret ?_ | refine aw_block ?_ | refine aw_condT rfl ?_ | refine aw_condF rfl ?_ | ((first | refine aw_hide fun K hK => aw_region ?_ | refine acall0 (c) ?_ | refine ago_if (by omega) ?_ | skip); simp (config := {maxSteps := 10000000}) (disch := first | exact okYes (by kernel_rfl) | omega) only [List.length, Nat.zero_add, Nat.reduceMul, Nat.reduceAdd, dI, ARun_none, AOpRun, aexec, FSt.ev, St.F, eget_c, Nat.reduceBEq, ↓eget_h, cond_false, isSh, Bool.false_eq_true, ↓reduceIte, Option.map, abin, ki, decide_true, AGo_ok, St.app, putO, eput_c, eput_n, hups, List.map, ARun_nil, dropE_c, inL_n, dropE_n, inL_c, beq_self_eq_true, cond_true, Int.natCast_nonneg, la, and_self, opt1, Int.toNat_natCast, g, Nat.reduceLeDiff, List.take, dB, Bool.not_false, blockQ, thenQ]) | (subst hK; with_reducible repeat' (first | refine thenQ_n ?_ | refine blockQ_n ?_ | refine thenQ_e ?_ | refine blockQ_t ?_ | refine blockQ_f (by decide) ?_))))
  all_goals (refine end_to [] [] (by first | exact .inl rfl | exact .inr rfl) rfl (by kernel_rfl) (by kernel_rfl) (by kernel_rfl) ?_ ?_ <;> repeat' (first | exact trivial | exact vr_val _))
theorem all_first {f : Nat → Bool} : ∀ n : Nat, (∀ i, i < n → f i = true) ∨ ∃ K, K < n ∧ (∀ i, i < K → f i = true) ∧ f K = false
  | 0 => .inl fun i hi => by omega
  | n + 1 => by
    rcases all_first (f := f) n with h | ⟨K, h1, h2, h3⟩
    · by_cases hf : f n = true
      · refine .inl fun i hi => ?_
        by_cases hi2 : i < n
        · exact h i hi2
        · obtain rfl : i = n := by omega
          exact hf
      · exact .inr ⟨n, by omega, h, by simpa using hf⟩
    · exact .inr ⟨K, by omega, h2, h3⟩
set_option maxRecDepth 100000 in
set_option maxHeartbeats 2000000 in
theorem roContM_ac (T : List Lk) (hT : ∀ k, k < T.length → Tbl (lkAt T k).t.x (lkAt T k).t.y (lkAt T k).t.v ∧ TbSm (lkAt T k).t) (hl : T.length ≤ 1000) : AC Try.prog 122 [.list (lkLs T), .fn 123 [] []] [] [] (dB (!T.all lkB)) := by
  refine kslices_ContainsFunc_L_L_Jrotor_looked_Krotor_looked_J.ac (n0 := 0) (by simp) ⟨.list _, .fn _ _ _ (by simp) (by simp), trivial⟩ trivial rfl ?_
  unfold cslices_ContainsFunc_L_L_Jrotor_looked_Krotor_looked_J
  rcases all_first (f := fun k => lkB (lkAt T k)) T.length with h | ⟨K, k1, k2, k3⟩
  · have c := roIdxM_ac T hT hl T.length (Nat.le_refl _) h (fun h => by omega)
    rw [if_neg (by omega)] at c
    have e : T.all lkB = true := List.all_eq_true.2 fun q hq => by
      obtain ⟨k, hk, rfl⟩ := List.getElem_of_mem hq
      have := h k hk
      simpa [lkAt, hk] using this
    rw [e]
    (have hg : (987654321 : Nat) - 987654321 = 0 := rfl; have hr := hg; repeat' (first | refine aw_seq ?_ | (refine aw_skip ?_; with_reducible repeat' (first | refine thenQ_n ?_ | refine blockQ_n ?_ | refine thenQ_e ?_ | refine blockQ_t ?_ | refine blockQ_f (by decide) ?_)) | (refine aw_exit ?_; with_reducible repeat' (first | refine thenQ_n ?_ | refine blockQ_n ?_ | refine thenQ_e ?_ | refine blockQ_t ?_ | refine blockQ_f (by decide) ?_)) | refine aw_ret ?_ | refine aw_block ?_ | refine aw_condT rfl ?_ | refine aw_condF rfl ?_ | ((first | refine aw_hide fun K hK => aw_region ?_ | refine acall0 (c) ?_ | refine ago_if (by omega) ?_ | skip); simp (config := {maxSteps := 10000000}) (disch := first | exact okYes (by kernel_rfl) | omega) only [List.length, Nat.zero_add, Nat.reduceMul, envOf, ARun_none, AOpRun, aexec, FSt.ev, AGo_ok, St.app, putO, eput_c, Nat.reduceBEq, eput_n, cond_false, hups, List.map, ARun_nil, dropE_c, inL_n, dropE_n, Nat.reduceAdd, St.F, ↓eget_h, eget_c, dI, Int.reduceNeg, isSh, Bool.false_eq_true, ↓reduceIte, Option.map, abin, beq_self_eq_true, cond_true, inL_c, dB, Bool.not_true]) | (subst hK; with_reducible repeat' (first | refine thenQ_n ?_ | refine blockQ_n ?_ | refine thenQ_e ?_ | refine blockQ_t ?_ | refine blockQ_f (by decide) ?_))))
    all_goals (refine end_to [] [] (by first | exact .inl rfl | exact .inr rfl) rfl (by kernel_rfl) (by kernel_rfl) (by kernel_rfl) ?_ ?_ <;> repeat' (first | exact trivial | exact vr_val _))
  · have c := roIdxM_ac T hT hl K (by omega) k2 (fun _ => k3)
    rw [if_pos k1] at c
    have e : T.all lkB = false := List.all_eq_false.2 ⟨T[K], List.getElem_mem k1, by simpa [lkAt, k1] using k3⟩
    have q : decide ((K : Int) ≥ 0) = true := decide_eq_true (by omega)
    rw [e]
    (have hg : (987654321 : Nat) - 987654321 = 0 := rfl; have hr := hg; repeat' (first | refine aw_seq ?_ | (refine aw_skip ?_; with_reducible repeat' (first | refine thenQ_n ?_ | refine blockQ_n ?_ | refine thenQ_e ?_ | refine blockQ_t ?_ | refine blockQ_f (by decide) ?_)) | (refine aw_exit ?_; with_reducible repeat' (first | refine thenQ_n ?_ | refine blockQ_n ?_ | refine thenQ_e ?_ | refine blockQ_t ?_ | refine blockQ_f (by decide) ?_)) | refine aw_ret ?_ | refine aw_block ?_ | refine aw_condT rfl ?_ | refine aw_condF rfl ?_ | ((first | refine aw_hide fun K hK => aw_region ?_ | refine acall0 (c) ?_ | refine ago_if (by omega) ?_ | skip); simp (config := {maxSteps := 10000000}) (disch := first | exact okYes (by kernel_rfl) | omega) only [List.length, Nat.zero_add, Nat.reduceMul, envOf, ARun_none, AOpRun, aexec, FSt.ev, AGo_ok, St.app, putO, eput_c, Nat.reduceBEq, eput_n, cond_false, hups, List.map, ARun_nil, dropE_c, inL_n, dropE_n, Nat.reduceAdd, St.F, ↓eget_h, eget_c, dI, isSh, Bool.false_eq_true, ↓reduceIte, Option.map, abin, Int.natCast_nonneg, decide_true, beq_self_eq_true, cond_true, inL_c, dB, Bool.not_false]) | (subst hK; with_reducible repeat' (first | refine thenQ_n ?_ | refine blockQ_n ?_ | refine thenQ_e ?_ | refine blockQ_t ?_ | refine blockQ_f (by decide) ?_))))
    all_goals (refine end_to [] [] (by first | exact .inl rfl | exact .inr rfl) rfl (by kernel_rfl) (by kernel_rfl) (by kernel_rfl) ?_ ?_ <;> repeat' (first | exact trivial | exact vr_val _))
/-- the tables of Margin -/
def mgT (r : Rot) (a : Air) (s : Int × Int) : List Lk := [⟨r.a, a.w, a.t⟩, ⟨r.b, s, a.d⟩, ⟨r.d, a.t, a.h⟩]
theorem mgT_all (r : Rot) (a : Air) (s : Int × Int) : (spVB s && (mgT r a s).all lkB) = mgB r a s := by
  simp only [mgT, List.all_cons, List.all_nil, Bool.and_true]
  rfl
def mgE (r : Rot) (a : Air) (s : Int × Int) : Int := if mgB r a s = true then 0 else 1
set_option maxRecDepth 100000 in
set_option maxHeartbeats 2000000 in
theorem roCm1_ac (r : Rot) (a : Air) (s : Int × Int) : AC Try.prog 84 [.ptr 0 0, .ptr 8 0] [(0, macC r a), (8, [dI s.1, dI s.2])] [(0, some (macC r a)), (8, some [dI s.1, dI s.2])] (.list (lkLs (mgT r a s))) := by
  refine krotor_checkMargin_S1.ac (n0 := 200) (by simp) ⟨.ptr _ _ (by omega), .ptr _ _ (by omega), trivial⟩ ⟨⟨by omega, wals_in (c := macC r a) rfl⟩, ⟨by omega, wals_in (c := [dI s.1, dI s.2]) rfl⟩, trivial⟩ rfl ?_
  unfold crotor_checkMargin_S1
  have c1 := roHoverM_ac r a
  have c2 := roGroundM_ac r a s
  have c3 := roPowerM_ac r a
  have e : lkLs (mgT r a s) = [lkC r.a a.w a.t, lkC r.b s a.d, lkC r.d a.t a.h] := rfl
  rw [e]
  unfold macC lkC at *
  (have hg : (987654321 : Nat) - 987654321 = 0 := rfl; have hr := hg; repeat' (first | refine aw_seq ?_ | (refine aw_skip ?_; with_reducible repeat' (first | refine thenQ_n ?_ | refine blockQ_n ?_ | refine thenQ_e ?_ | refine blockQ_t ?_ | refine blockQ_f (by decide) ?_)) | (refine aw_exit ?_; with_reducible repeat' (first | refine thenQ_n ?_ | refine blockQ_n ?_ | refine thenQ_e ?_ | refine blockQ_t ?_ | refine blockQ_f (by decide) ?_)) | refine aw_ret ?_ | refine aw_block ?_ | refine aw_condT rfl ?_ | refine aw_condF rfl ?_ | ((first | refine aw_hide fun K hK => aw_region ?_ | refine acall0 (c1) ?_ | refine acall0 (c2) ?_ | refine acall0 (c3) ?_ | refine ago_if (by omega) ?_ | skip); simp (config := {maxSteps := 10000000}) (disch := first | exact okYes (by kernel_rfl) | omega) only [List.length, Nat.zero_add, Nat.reduceMul, Nat.reduceAdd, envOf, dI, ARun_none, AOpRun, aexec, FSt.ev, AGo_ok, St.app, putO, eput_c, Nat.reduceBEq, eput_n, cond_false, hups, List.map, ARun_nil, dropE_c, inL_n, dropE_n, St.F, ↓eget_h, hget_c, beq_self_eq_true, hget_n, cond_true, Nat.reduceLeDiff, ↓reduceIte, List.drop, List.take, eget_c, ↓hget_h, Option.isSome, Bool.false_eq_true, Option.map, fillD, D.isBot, D.cells, ne_eq, not_true_eq_false, Nat.reduceGT, or_self, splice, List.nil_append, List.cons_append, List.append_nil, hput_c, hput_n, inL_c]) | (subst hK; with_reducible repeat' (first | refine thenQ_n ?_ | refine blockQ_n ?_ | refine thenQ_e ?_ | refine blockQ_t ?_ | refine blockQ_f (by decide) ?_))))
  refine end_to [264] [(0, 0), (8, 8)] (by first | exact .inl rfl | exact .inr rfl) rfl (by kernel_rfl) (by kernel_rfl) (by kernel_rfl) ?_ ?_ <;> repeat' (first | exact trivial | exact vr_val _ | exact vr_list _ | refine vr_fl _ _ _ _ _ (by decide) rfl ?_ ?_ ?_ ?_ | refine And.intro ⟨_, rfl, _, rfl, by decide, ?_⟩ ?_ | apply And.intro)
  all_goals first | rfl | (refine wals_in ?_; rfl) | (intro e he; simp at he; rcases he with rfl | rfl | rfl <;> rfl)
set_option maxRecDepth 100000 in
set_option maxHeartbeats 4000000 in
theorem roChkM_ac (r : Rot) (a : Air) (s : Int × Int) (hs : RotSm r) (h0 : rotE r = 0) (hb : airB a = true) : AC Try.prog 83 [rotD r, airD a, .list (sps [s]), .fn 84 [] [.ptr 0 0, .ptr 8 0]] [(0, macC r a), (8, [dI s.1, dI s.2])] [(0, some (macC r a)), (8, some [dI s.1, dI s.2])] (dI (mgE r a s)) := by
  refine krotor_check.ac (n0 := 200) (by simp) ⟨in_rotD _ _, in_airD _ _, .list _, .fn _ _ _ (by simp) (by intro d hd; simp at hd; rcases hd with rfl | rfl <;> exact .ptr _ _ (by omega)), trivial⟩ ⟨⟨by omega, wals_in (c := macC r a) rfl⟩, ⟨by omega, wals_in (c := [dI s.1, dI s.2]) rfl⟩, trivial⟩ rfl ?_
  have c1 := roCheck_ac r hs
  rw [h0] at c1
  have c2 := fun k hk => airL_gd a hb k hk
  have c3 := cfsp_ac 121 (fun x => !spVB x) roCheck1_ac [s] (by simp)
  have c4 := roCm1_ac r a s
  have c5 := roContM_ac (mgT r a s) (fun k hk => by
      have hr := rotE_is h0
      rcases (by simp [mgT] at hk; omega : k = 0 ∨ k = 1 ∨ k = 2) with rfl | rfl | rfl
      · exact ⟨limB_tbl (hr.lim 0 (by omega)), hs 0 (by omega)⟩
      · exact ⟨limB_tbl (hr.lim 1 (by omega)), hs 1 (by omega)⟩
      · exact ⟨limB_tbl (hr.lim 3 (by omega)), hs 3 (by omega)⟩) (by simp [mgT])
  have hma := mgT_all r a s
  have al : (sps (airL a)).length = 4 := rfl
  have aa := sps_all (airL a)
  have ag := fun k hk => sps_gd2 (airL a) k hk
  have ha2 : (airL a).length = 4 := rfl
  unfold mgE
  rw [← hma]
  generalize lkLs (mgT r a s) = LL at *
  unfold crotor_check
  unfold rotD rotC airD airC macC at *
  refine aw_seq (aw_region ?_)
  simp (config := {maxSteps := 10000000}) (disch := first | exact okYes (by kernel_rfl) | omega) only [thenQ, List.map, dI, List.length, Nat.zero_add, Nat.reduceAdd, Nat.reduceMul, envOf, ARun_none, AOpRun, aexec, D.isBot, FSt.ev, St.F, ↓eget_h, Bool.false_eq_true, Option.isSome, hget_c, Nat.reduceBEq, hget_n, cond_false, or_self, ↓reduceIte, D.cells, AGo_ok, St.app, putO, eput_c, eput_n, hups, hput_c, hput_n, eget_c, ARun_nil, dropE_c, inL_n, dropE_n]
  (have hg : (987654321 : Nat) - 987654321 = 0 := rfl; have hr := hg; repeat' (first | refine aw_seq ?_ | (refine aw_skip ?_; with_reducible repeat' (first | refine thenQ_n ?_ | refine blockQ_n ?_ | refine thenQ_e ?_ | refine blockQ_t ?_ | refine blockQ_f (by decide) ?_)) | (refine aw_exit ?_; with_reducible repeat' (first | refine thenQ_n ?_ | refine blockQ_n ?_ | refine thenQ_e ?_ | refine blockQ_t ?_ | refine blockQ_f (by decide) ?_)) | refine aw_ret ?_ | refine aw_block ?_ | refine aw_condT rfl ?_ | refine aw_condF rfl ?_ | ((first | refine aw_hide fun K hK => aw_region ?_ | refine acall0 (c1) ?_ | refine ago_if (by omega) ?_ | skip); simp (config := {maxSteps := 10000000}) (disch := first | exact okYes (by kernel_rfl) | omega) only [List.length, Nat.zero_add, Nat.reduceAdd, Nat.reduceMul, ARun_none, AOpRun, aexec, FSt.ev, St.F, eget_c, Nat.reduceBEq, ↓eget_h, cond_false, hget_c, ↓hget_h, Nat.reduceLeDiff, ↓reduceIte, List.drop, List.take, AGo_ok, St.app, putO, eput_c, eput_n, hups, List.map, dI, ARun_nil, dropE_c, inL_c, inL_n, beq_self_eq_true, cond_true, dropE_n, isSh, Bool.false_eq_true, Option.map, abin, bne_self_eq_false, Option.isSome, hget_n, fillD, D.isBot, D.cells, ne_eq, not_true_eq_false, Nat.reduceGT, or_self, splice, List.nil_append, List.cons_append, List.append_nil, hput_c, hput_n, cast_lit]) | (subst hK; with_reducible repeat' (first | refine thenQ_n ?_ | refine blockQ_n ?_ | refine thenQ_e ?_ | refine blockQ_t ?_ | refine blockQ_f (by decide) ?_))))
  clear c1
  refine aw_wk (s' := ⟨[(2, .list (sps [s])), (3, .fn 84 [] [.ptr 0 0, .ptr 8 0]), (25, .list (sps (airL a))), (26, dI (4 : Nat)), (27, dI (0 : Nat))], [(0, macC r a), (8, [dI s.1, dI s.2])], 600⟩) ?_ ?_
  · unfold dI macC
    refine wk_to [328] [(0, 0), (8, 8)] (by kernel_rfl) (by kernel_rfl) (by kernel_rfl) (by kernel_rfl) (by kernel_rfl) ?_ ?_ <;> repeat' (first | exact trivial | exact vr_val _ | exact vr_list _ | exact vr_ptr _ _ _ rfl | apply vr_fn | refine vr_fl _ _ _ _ _ (by decide) rfl ?_ ?_ ?_ ?_ | refine And.intro ⟨_, rfl, .inl ⟨_, rfl, by decide, ?_⟩⟩ ?_ | apply And.intro)
    all_goals first | exact sps_two _ | rfl | (refine wals_in ?_; rfl)
  refine aw_loop (fun k : Nat => ⟨[(2, .list (sps [s])), (3, .fn 84 [] [.ptr 0 0, .ptr 8 0]), (25, .list (sps (airL a))), (26, dI (4 : Nat)), (27, dI k)], [(0, macC r a), (8, [dI s.1, dI s.2])], 600⟩) (fun k => k ≤ 4) (fun k => 4 - k) ⟨0, by omega, ?_⟩ ?_
  · unfold dI macC
    refine wk_to [] [(0, 0), (8, 8)] (by kernel_rfl) (by kernel_rfl) (by kernel_rfl) (by kernel_rfl) (by kernel_rfl) ?_ ?_ <;> repeat' (first | exact trivial | exact vr_val _ | exact vr_list _ | exact vr_ptr _ _ _ rfl | apply vr_fn | refine And.intro ⟨_, rfl, .inl ⟨_, rfl, by decide, ?_⟩⟩ ?_ | apply And.intro)
  intro k hk
  unfold macC
  by_cases hk2 : k < 4
  case pos =>
    have g1 := ag k (by omega)
    have v1 := roValid_ac ((airL a)[k]?.getD (0, 0))
    rw [c2 k hk2] at v1
    have ki : (k : Int) < ((4 : Nat) : Int) := by omega
    have ki4 : (k : Int) < 4 := by omega
    clear c2 c3 c4 c5 ag
    generalize (airL a)[k]?.getD (0, 0) = z at *
    generalize airL a = L at *
    (have hg : (987654321 : Nat) - 987654321 = 0 := rfl; have hr := hg; repeat' (first | refine aw_seq ?_ | (refine aw_skip ?_; with_reducible repeat' (first | refine thenQ_n ?_ | refine blockQ_n ?_ | refine thenQ_e ?_ | refine blockQ_t ?_ | refine blockQ_f (by decide) ?_)) | (refine aw_exit ?_; with_reducible repeat' (first | refine thenQ_n ?_ | refine blockQ_n ?_ | refine thenQ_e ?_ | refine blockQ_t ?_ | refine blockQ_f (by decide) ?_)) | refine aw_ret ?_ | refine aw_block ?_ | refine aw_condT rfl ?_ | refine aw_condF rfl ?_ | ((first | refine aw_hide fun K hK => aw_region ?_ | refine acall0 (v1) ?_ | refine ago_if (by omega) ?_ | skip); simp (config := {maxSteps := 10000000}) (disch := first | exact okYes (by kernel_rfl) | omega) only [List.length, Nat.zero_add, Nat.reduceMul, Nat.reduceAdd, dI, cast_lit, ARun_none, AOpRun, aexec, FSt.ev, St.F, eget_c, Nat.reduceBEq, ↓eget_h, cond_false, isSh, Bool.false_eq_true, ↓reduceIte, Option.map, abin, ki4, decide_true, AGo_ok, St.app, putO, eput_c, eput_n, hups, List.map, ARun_nil, dropE_c, inL_n, dropE_n, Int.natCast_nonneg, aa, and_self, opt1, Int.toNat_natCast, g1, Nat.reduceLeDiff, List.take, Option.isSome, hget_c, hget_n, hput_c, hput_n, ↓hget_h, D.isBot, D.cells, List.all, D.leaf, Bool.and_true, splice, List.nil_append, List.drop, List.append_nil, beq_self_eq_true, cond_true, inL_c, dB, Bool.not_true, fits]) | (subst hK; with_reducible repeat' (first | refine thenQ_n ?_ | refine blockQ_n ?_ | refine thenQ_e ?_ | refine blockQ_t ?_ | refine blockQ_f (by decide) ?_))))
    refine ⟨k + 1, by omega, by omega, ?_⟩
    try unfold macC
    refine wk_to [] [(0, 0), (8, 8)] (by kernel_rfl) (by kernel_rfl) (by kernel_rfl) (by kernel_rfl) (by kernel_rfl) ?_ ?_ <;> repeat' (first | exact trivial | exact vr_val _ | exact vr_list _ | exact vr_ptr _ _ _ rfl | apply vr_fn | refine And.intro ⟨_, rfl, .inl ⟨_, rfl, by decide, ?_⟩⟩ ?_ | apply And.intro)
  obtain rfl : k = 4 := by omega
  clear c2 ag al aa ha2
  have q3 : ([s].any fun x => !spVB x) = !spVB s := by simp
  rw [q3] at c3
  cases h1 : spVB s with
  | false =>
    rw [h1] at c3
    (have hg : (987654321 : Nat) - 987654321 = 0 := rfl; have hr := hg; repeat' (first | refine aw_seq ?_ | (refine aw_skip ?_; with_reducible repeat' (first | refine thenQ_n ?_ | refine blockQ_n ?_ | refine thenQ_e ?_ | refine blockQ_t ?_ | refine blockQ_f (by decide) ?_)) | (refine aw_exit ?_; with_reducible repeat' (first | refine thenQ_n ?_ | refine blockQ_n ?_ | refine thenQ_e ?_ | refine blockQ_t ?_ | refine blockQ_f (by decide) ?_)) | refine aw_ret ?_ | refine aw_block ?_ | refine aw_condT rfl ?_ | refine aw_condF rfl ?_ | ((first | refine aw_hide fun K hK => aw_region ?_ | refine acall0 (c3) ?_ | refine ago_if (by omega) ?_ | skip); simp (config := {maxSteps := 10000000}) (disch := first | exact okYes (by kernel_rfl) | omega) only [List.length, Nat.zero_add, Nat.reduceMul, Nat.reduceAdd, dI, cast_lit, ARun_none, AOpRun, aexec, FSt.ev, St.F, eget_c, Nat.reduceBEq, ↓eget_h, cond_false, isSh, Bool.false_eq_true, ↓reduceIte, Option.map, abin, Int.reduceLT, decide_false, AGo_ok, St.app, putO, eput_c, eput_n, hups, List.map, ARun_nil, dropE_c, inL_n, dropE_n, dB, Bool.not_false, ARun_some, AG_tf, inL_c, beq_self_eq_true, cond_true, thenQ, Bool.false_and]) | (subst hK; with_reducible repeat' (first | refine thenQ_n ?_ | refine blockQ_n ?_ | refine thenQ_e ?_ | refine blockQ_t ?_ | refine blockQ_f (by decide) ?_))))
    all_goals (refine end_to [] [(0, 0), (8, 8)] (by first | exact .inl rfl | exact .inr rfl) rfl (by kernel_rfl) (by kernel_rfl) (by kernel_rfl) ?_ ?_ <;> repeat' (first | exact trivial | exact vr_val _ | exact vr_list _ | refine And.intro ⟨_, rfl, _, rfl, by decide, ?_⟩ ?_ | apply And.intro))
  | true =>
    rw [h1] at c3
    cases h2 : (mgT r a s).all lkB
    all_goals
      rw [h2] at c5
      (have hg : (987654321 : Nat) - 987654321 = 0 := rfl; have hr := hg; repeat' (first | refine aw_seq ?_ | (refine aw_skip ?_; with_reducible repeat' (first | refine thenQ_n ?_ | refine blockQ_n ?_ | refine thenQ_e ?_ | refine blockQ_t ?_ | refine blockQ_f (by decide) ?_)) | (refine aw_exit ?_; with_reducible repeat' (first | refine thenQ_n ?_ | refine blockQ_n ?_ | refine thenQ_e ?_ | refine blockQ_t ?_ | refine blockQ_f (by decide) ?_)) | refine aw_ret ?_ | refine aw_block ?_ | refine aw_condT rfl ?_ | refine aw_condF rfl ?_ | ((first | refine aw_hide fun K hK => aw_region ?_ | refine acall0 (c3) ?_ | refine acallB (c4) (by repeat' (first | exact trivial | exact rfl | refine And.intro ?_ ?_)) (by kernel_rfl) (by kernel_rfl) (by kernel_rfl) ?_ | refine acall0 (c5) ?_ | refine ago_if (by omega) ?_ | skip); simp (config := {maxSteps := 10000000}) (disch := first | exact okYes (by kernel_rfl) | omega) only [List.length, Nat.zero_add, Nat.reduceMul, Nat.reduceAdd, dI, cast_lit, ARun_none, AOpRun, aexec, FSt.ev, St.F, eget_c, Nat.reduceBEq, ↓eget_h, cond_false, isSh, Bool.false_eq_true, ↓reduceIte, Option.map, abin, Int.reduceLT, decide_false, AGo_ok, St.app, putO, eput_c, eput_n, hups, List.map, ARun_nil, dropE_c, inL_n, dropE_n, dB, Bool.not_true, ARun_some, AG_ff, hput_c, beq_self_eq_true, hput_n, cond_true, List.append_nil, Bool.not_false, inL_c, thenQ, Bool.and_false, Bool.and_true]) | (subst hK; with_reducible repeat' (first | refine thenQ_n ?_ | refine blockQ_n ?_ | refine thenQ_e ?_ | refine blockQ_t ?_ | refine blockQ_f (by decide) ?_))))
      all_goals (refine end_to [] [(0, 0), (8, 8)] (by first | exact .inl rfl | exact .inr rfl) rfl (by kernel_rfl) (by kernel_rfl) (by kernel_rfl) ?_ ?_ <;> repeat' (first | exact trivial | exact vr_val _ | exact vr_list _ | refine And.intro ⟨_, rfl, _, rfl, by decide, ?_⟩ ?_ | apply And.intro))
set_option maxRecDepth 100000 in
set_option maxHeartbeats 4000000 in
theorem roCkM_ac (r : Rot) (a : Air) (s : Int × Int) (hs : RotSm r) (h0 : rotE r = 0) (hb : airB a = true) : AC Try.prog 46 [.agg (macC r a), .agg [dI s.1, dI s.2]] [] [] (dI (mgE r a s)) := by
  refine krotor_checkMargin.ac (n0 := 0) (by simp) ⟨.agg _ (wals_in (c := macC r a) rfl), in_sp _ _ _, trivial⟩ trivial rfl ?_
  have c := roChkM_ac r a s hs h0 hb
  unfold crotor_checkMargin
  unfold rotD rotC airD airC macC at *
  generalize mgE r a s = E at *
  refine aw_seq (aw_region ?_)
  simp (config := {maxSteps := 10000000}) (disch := first | exact okYes (by kernel_rfl) | omega) only [thenQ, List.map, dI, List.length, Nat.zero_add, Nat.reduceAdd, Nat.reduceMul, envOf, ARun_none, AOpRun, aexec, D.isBot, FSt.ev, St.F, ↓eget_h, Bool.false_eq_true, Option.isSome, hget_n, or_self, ↓reduceIte, D.cells, AGo_ok, St.app, putO, eput_c, Nat.reduceBEq, eput_n, cond_false, hups, hput_n, eget_c, hget_c, hput_c, ARun_nil, dropE_c, inL_n, dropE_n]
  refine aw_seq (aw_region_cut [⟨some 5, .fad 0 (.tmp 2), none, []⟩,
     ⟨some 6, .loadN 26 (.tmp 5), none, []⟩,
     ⟨some 7, .fad 26 (.tmp 2), none, []⟩,
     ⟨some 8, .loadN 8 (.tmp 7), none, []⟩,
     ⟨some 9, .loadN 2 (.tmp 3), none, []⟩,
     ⟨some 10, .buildSl 2 1 [(.val (.int .i64 0)), (.val (.int .i64 0))] [(0, 2, (.tmp 9))], none, []⟩]
     [⟨some 11, .mkfn 84 [] [(.tmp 2), (.tmp 3)], none, []⟩,
     ⟨some 12, .call (.func 83) [(.tmp 6), (.tmp 8), (.tmp 10), (.tmp 11)], none, []⟩,
     ⟨some 4, .mv (.tmp 12), none, []⟩] ?_)
  simp (config := {maxSteps := 10000000}) (disch := first | exact okYes (by kernel_rfl) | omega) only [List.length, Nat.zero_add, Nat.reduceAdd, Nat.reduceMul, thenQ, ARun_none, AOpRun, aexec, List.map, FSt.ev, St.F, AGo_ok, St.app, putO, hups, eget_c, Nat.reduceBEq, ↓eget_h, cond_false, eput_c, eput_n, hget_c, beq_self_eq_true, hget_n, cond_true, Nat.reduceLeDiff, ↓reduceIte, List.drop, List.take, ↓hget_h, Option.isSome, Bool.false_eq_true, Option.map, fillD, D.isBot, D.cells, ne_eq, not_true_eq_false, Nat.reduceGT, or_self, splice, List.nil_append, List.append_nil, hput_c, hput_n, ARun_nil]
  refine ⟨⟨[(2, .ptr 0 0), (3, .ptr 8 0), (6, rotD r), (8, airD a), (10, .list (sps [s]))], [(0, macC r a), (8, [dI s.1, dI s.2])], 600⟩, ?_, of_decide_eq_true (by kernel_rfl), ?_⟩
  · unfold rotD rotC airD airC macC dI
    refine wk_to [64] [(0, 0), (8, 8)] (by kernel_rfl) (by kernel_rfl) (by kernel_rfl) (by kernel_rfl) (by kernel_rfl) ?_ ?_ <;> repeat' (first | exact trivial | exact vr_val _ | exact vr_list _ | exact vr_ptr _ _ _ rfl | apply vr_agg | refine vr_fl _ _ _ _ _ (by decide) rfl ?_ ?_ ?_ ?_ | refine And.intro ⟨_, rfl, .inl ⟨_, rfl, by decide, ?_⟩⟩ ?_ | apply And.intro)
    all_goals first | exact sps_two _ | rfl | (refine wals_in ?_; rfl)
  unfold rotD rotC airD airC macC
  simp (config := {maxSteps := 10000000}) (disch := first | exact okYes (by kernel_rfl) | omega) only [Nat.reduceSub, Nat.reduceAdd, dI, eget_c, beq_self_eq_true, Nat.reduceBEq, eget_n, cond_false, cond_true, ↓eget_h, eput_c, eput_n]
  (have hg : (987654321 : Nat) - 987654321 = 0 := rfl; have hr := hg; repeat' (first | refine aw_seq ?_ | (refine aw_skip ?_; with_reducible repeat' (first | refine thenQ_n ?_ | refine blockQ_n ?_ | refine thenQ_e ?_ | refine blockQ_t ?_ | refine blockQ_f (by decide) ?_)) | (refine aw_exit ?_; with_reducible repeat' (first | refine thenQ_n ?_ | refine blockQ_n ?_ | refine thenQ_e ?_ | refine blockQ_t ?_ | refine blockQ_f (by decide) ?_)) | refine aw_ret ?_ | refine aw_block ?_ | refine aw_condT rfl ?_ | refine aw_condF rfl ?_ | ((first | refine aw_hide fun K hK => aw_region ?_ | refine acallB (c) (by repeat' (first | exact trivial | exact rfl | refine And.intro ?_ ?_)) (by kernel_rfl) (by kernel_rfl) (by kernel_rfl) ?_ | refine ago_if (by omega) ?_ | skip); simp (config := {maxSteps := 10000000}) (disch := first | exact okYes (by kernel_rfl) | omega) only [Nat.reduceAdd, St.app, putO, dI, eput_c, Nat.reduceBEq, eput_n, cond_false, hups, hput_c, beq_self_eq_true, hput_n, cond_true, List.map, List.append_nil, ARun_none, AOpRun, aexec, FSt.ev, St.F, eget_c, ↓eget_h, AGo_ok, ARun_nil, dropE_c, inL_c, inL_n, dropE_n]) | (subst hK; with_reducible repeat' (first | refine thenQ_n ?_ | refine blockQ_n ?_ | refine thenQ_e ?_ | refine blockQ_t ?_ | refine blockQ_f (by decide) ?_))))
  all_goals (refine end_to [] [] (by first | exact .inl rfl | exact .inr rfl) rfl (by kernel_rfl) (by kernel_rfl) (by kernel_rfl) ?_ ?_ <;> repeat' (first | exact trivial | exact vr_val _))
set_option maxRecDepth 100000 in
set_option maxHeartbeats 4000000 in
theorem roNeeds_ac (r : Rot) (a : Air) (s : Int × Int) (hs : RotSm r) (M : MgOk r a s) : AC Try.prog 88 [.agg (macC r a), .agg [dI s.1, dI s.2]] [] [] (.agg [dI (ndL r a s), dI (ndH r a s)]) := by
  refine krotor_machine_needs.ac (n0 := 0) (by simp) ⟨.agg _ (wals_in (c := macC r a) rfl), in_sp _ _ _, trivial⟩ trivial rfl ?_
  have c1 := roHoverM_ac r a
  have c2 := roGroundM_ac r a s
  have c3 := roBound_ac r.a a.w a.t (hs 0 (by omega))
  have c4 := roBound_ac r.b s a.d (hs 1 (by omega))
  rw [M.ah] at c3
  rw [M.ag] at c4
  have b1 := M.bh
  have b2 := M.bg
  unfold ndL ndH
  unfold crotor_machine_needs
  generalize bnd r.a.x r.a.y r.a.v a.w a.t = P at *
  generalize bnd r.b.x r.b.y r.b.v s a.d = Q at *
  obtain ⟨P1, P2⟩ := P
  obtain ⟨Q1, Q2⟩ := Q
  simp only at b1 b2 c3 c4 ⊢
  have m1 : 0 ≤ P1 * Q1 ∧ P1 * Q1 ≤ 10000000 := ⟨Int.mul_nonneg (by omega) (by omega), Int.le_trans (Int.mul_le_mul (show P1 ≤ 100000 by omega) (show Q1 ≤ 100 by omega) (by omega) (by omega)) (by decide)⟩
  have m2 : 0 ≤ P2 * Q2 ∧ P2 * Q2 ≤ 10000000 := ⟨Int.mul_nonneg (by omega) (by omega), Int.le_trans (Int.mul_le_mul (show P2 ≤ 100000 by omega) (show Q2 ≤ 100 by omega) (by omega) (by omega)) (by decide)⟩
  have t1 : 0 ≤ (P1 * Q1).tdiv 100 ∧ (P1 * Q1).tdiv 100 ≤ 10000000 := by rw [Int.tdiv_eq_ediv_of_nonneg m1.1]; omega
  have t2 : 0 ≤ (P2 * Q2 + 99).tdiv 100 ∧ (P2 * Q2 + 99).tdiv 100 ≤ 10000000 := by rw [Int.tdiv_eq_ediv_of_nonneg (by omega)]; omega
  unfold macC lkC at *
  (have hg : (987654321 : Nat) - 987654321 = 0 := rfl; have hr := hg; repeat' (first | refine aw_seq ?_ | (refine aw_skip ?_; with_reducible repeat' (first | refine thenQ_n ?_ | refine blockQ_n ?_ | refine thenQ_e ?_ | refine blockQ_t ?_ | refine blockQ_f (by decide) ?_)) | (refine aw_exit ?_; with_reducible repeat' (first | refine thenQ_n ?_ | refine blockQ_n ?_ | refine thenQ_e ?_ | refine blockQ_t ?_ | refine blockQ_f (by decide) ?_)) | refine aw_ret ?_ | refine aw_block ?_ | refine aw_condT rfl ?_ | refine aw_condF rfl ?_ | ((first | refine aw_hide fun K hK => aw_region ?_ | refine acall0 (c1) ?_ | refine acall0 (c2) ?_ | refine acall0 (c3) ?_ | refine acall0 (c4) ?_ | refine ago_if (by omega) ?_ | skip); simp (config := {maxSteps := 10000000}) (disch := first | exact okYes (by kernel_rfl) | omega) only [List.length, Nat.zero_add, Nat.reduceAdd, Nat.reduceMul, envOf, dI, ARun_none, AOpRun, aexec, D.isBot, FSt.ev, St.F, ↓eget_h, Bool.false_eq_true, Option.isSome, hget_n, or_self, ↓reduceIte, D.cells, AGo_ok, St.app, putO, eput_c, Nat.reduceBEq, eput_n, cond_false, hups, hput_n, List.map, eget_c, hget_c, hput_c, ARun_nil, dropE_c, inL_n, dropE_n, beq_self_eq_true, cond_true, Nat.reduceLeDiff, List.drop, List.take, ↓hget_h, List.all, D.leaf, Bool.and_true, and_self, splice, List.nil_append, List.append_nil, inL_c, Option.map, run1, List.getElem?_cons_zero, isSh, abin, fits, Int.reduceEq, List.getElem?_cons_succ, fillD, ne_eq, not_true_eq_false, Nat.reduceGT, List.cons_append]) | (subst hK; with_reducible repeat' (first | refine thenQ_n ?_ | refine blockQ_n ?_ | refine thenQ_e ?_ | refine blockQ_t ?_ | refine blockQ_f (by decide) ?_))))
  all_goals (refine end_to [] [] (by first | exact .inl rfl | exact .inr rfl) rfl (by kernel_rfl) (by kernel_rfl) (by kernel_rfl) ?_ ?_ <;> repeat' (first | exact trivial | exact vr_val _ | apply vr_agg | apply And.intro))
set_option maxRecDepth 100000 in
set_option maxHeartbeats 4000000 in
theorem roMarginM_ac (r : Rot) (a : Air) (s : Int × Int) (hs : RotSm r) (M : MgOk r a s) : AC Try.prog 47 [.agg (macC r a), .agg [dI s.1, dI s.2]] [] [] (dI (mgN r a s)) := by
  refine krotor_machine_margin.ac (n0 := 0) (by simp) ⟨.agg _ (wals_in (c := macC r a) rfl), in_sp _ _ _, trivial⟩ trivial rfl ?_
  have c1 := roPowerM_ac r a
  have c2 := roNeeds_ac r a s hs M
  have c3 := roBound_ac r.d a.t a.h (hs 3 (by omega))
  rw [M.ap] at c3
  have b1 := M.bh
  have b2 := M.bg
  have b3 := M.bp
  have hn : 0 ≤ ndH r a s ∧ ndH r a s ≤ 10000000 := by
    unfold ndH
    have m2 : 0 ≤ (bnd r.a.x r.a.y r.a.v a.w a.t).2 * (bnd r.b.x r.b.y r.b.v s a.d).2 ∧ (bnd r.a.x r.a.y r.a.v a.w a.t).2 * (bnd r.b.x r.b.y r.b.v s a.d).2 ≤ 10000000 :=
      ⟨Int.mul_nonneg (by omega) (by omega), Int.le_trans (Int.mul_le_mul (show _ ≤ (100000 : Int) by omega) (show _ ≤ (100 : Int) by omega) (by omega) (by omega)) (by decide)⟩
    rw [Int.tdiv_eq_ediv_of_nonneg (by omega)]; omega
  unfold mgN
  unfold crotor_machine_margin
  generalize bnd r.d.x r.d.y r.d.v a.t a.h = P at *
  generalize ndH r a s = N at *
  generalize ndL r a s = N1 at *
  unfold macC lkC at *
  (have hg : (987654321 : Nat) - 987654321 = 0 := rfl; have hr := hg; repeat' (first | refine aw_seq ?_ | (refine aw_skip ?_; with_reducible repeat' (first | refine thenQ_n ?_ | refine blockQ_n ?_ | refine thenQ_e ?_ | refine blockQ_t ?_ | refine blockQ_f (by decide) ?_)) | (refine aw_exit ?_; with_reducible repeat' (first | refine thenQ_n ?_ | refine blockQ_n ?_ | refine thenQ_e ?_ | refine blockQ_t ?_ | refine blockQ_f (by decide) ?_)) | refine aw_ret ?_ | refine aw_block ?_ | refine aw_condT rfl ?_ | refine aw_condF rfl ?_ | ((first | refine aw_hide fun K hK => aw_region ?_ | refine acall0 (c1) ?_ | refine acall0 (c2) ?_ | refine acall0 (c3) ?_ | refine ago_if (by omega) ?_ | skip); simp (config := {maxSteps := 10000000}) (disch := first | exact okYes (by kernel_rfl) | omega) only [List.length, Nat.zero_add, Nat.reduceAdd, Nat.reduceMul, envOf, dI, ARun_none, AOpRun, aexec, D.isBot, FSt.ev, St.F, ↓eget_h, Bool.false_eq_true, Option.isSome, hget_n, or_self, ↓reduceIte, D.cells, AGo_ok, St.app, putO, eput_c, Nat.reduceBEq, eput_n, cond_false, hups, hput_n, List.map, eget_c, hget_c, hput_c, ARun_nil, dropE_c, inL_n, dropE_n, beq_self_eq_true, cond_true, Nat.reduceLeDiff, List.drop, List.take, D.isAgg, opt1, Option.map, List.getElem?_cons_zero, ↓hget_h, List.getElem?_cons_succ, isSh, abin, fits, inL_c]) | (subst hK; with_reducible repeat' (first | refine thenQ_n ?_ | refine blockQ_n ?_ | refine thenQ_e ?_ | refine blockQ_t ?_ | refine blockQ_f (by decide) ?_))))
  all_goals (refine end_to [] [] (by first | exact .inl rfl | exact .inr rfl) rfl (by kernel_rfl) (by kernel_rfl) (by kernel_rfl) ?_ ?_ <;> repeat' (first | exact trivial | exact vr_val _))
def mgR (r : Rot) (a : Air) (s : Int × Int) : Int := if mgB r a s = true then mgN r a s else 0
set_option maxRecDepth 100000 in
set_option maxHeartbeats 4000000 in
theorem roMargin_ac (r : Rot) (a : Air) (s : Int × Int) (hs : RotSm r) (h0 : rotE r = 0) (hb : airB a = true) : AC Try.prog 19 [rotD r, airD a, .agg [dI s.1, dI s.2]] [] [] (.tup [dI (mgR r a s), dI (mgE r a s)]) := by
  refine krotor_Margin.ac (n0 := 0) (by simp) ⟨in_rotD _ _, in_airD _ _, in_sp _ _ _, trivial⟩ trivial rfl ?_
  have c1 := roCkM_ac r a s hs h0 hb
  unfold crotor_Margin
  unfold mgR
  cases h : mgB r a s with
  | true =>
    have c2 := roMarginM_ac r a s hs (mg_ok (rotE_is h0) hb h)
    have e : mgE r a s = 0 := if_pos h
    rw [e] at c1 ⊢
    rw [if_pos rfl]
    generalize mgN r a s = N at *
    unfold rotD rotC airD airC macC at *
    (have hg : (987654321 : Nat) - 987654321 = 0 := rfl; have hr := hg; repeat' (first | refine aw_seq ?_ | (refine aw_skip ?_; with_reducible repeat' (first | refine thenQ_n ?_ | refine blockQ_n ?_ | refine thenQ_e ?_ | refine blockQ_t ?_ | refine blockQ_f (by decide) ?_)) | (refine aw_exit ?_; with_reducible repeat' (first | refine thenQ_n ?_ | refine blockQ_n ?_ | refine thenQ_e ?_ | refine blockQ_t ?_ | refine blockQ_f (by decide) ?_)) | refine aw_ret ?_ | refine aw_block ?_ | refine aw_condT rfl ?_ | refine aw_condF rfl ?_ | ((first | refine aw_hide fun K hK => aw_region ?_ | refine acall0 (c1) ?_ | refine acall0 (c2) ?_ | refine ago_if (by omega) ?_ | skip); simp (config := {maxSteps := 10000000}) (disch := first | exact okYes (by kernel_rfl) | omega) only [List.length, Nat.zero_add, Nat.reduceAdd, Nat.reduceMul, envOf, dI, ARun_none, AOpRun, aexec, D.isBot, FSt.ev, St.F, ↓eget_h, Bool.false_eq_true, Option.isSome, hget_n, or_self, ↓reduceIte, D.cells, AGo_ok, St.app, putO, eput_c, Nat.reduceBEq, eput_n, cond_false, hups, hput_n, List.map, eget_c, hget_c, hput_c, ARun_nil, dropE_c, inL_n, dropE_n, beq_self_eq_true, cond_true, Nat.reduceLeDiff, List.drop, List.take, ↓hget_h, Option.map, fillD, ne_eq, not_true_eq_false, Nat.reduceGT, splice, List.nil_append, List.cons_append, List.append_nil, List.all, D.leaf, Bool.and_true, and_self, inL_c, isSh, abin, bne_self_eq_false]) | (subst hK; with_reducible repeat' (first | refine thenQ_n ?_ | refine blockQ_n ?_ | refine thenQ_e ?_ | refine blockQ_t ?_ | refine blockQ_f (by decide) ?_))))
    all_goals (refine end_to [] [] (by first | exact .inl rfl | exact .inr rfl) rfl (by kernel_rfl) (by kernel_rfl) (by kernel_rfl) ?_ ?_ <;> repeat' (first | exact trivial | exact vr_val _ | apply vr_tup | apply And.intro))
  | false =>
    have e : mgE r a s = 1 := if_neg (by rw [h]; simp)
    rw [e] at c1 ⊢
    rw [if_neg (by simp)]
    unfold rotD rotC airD airC macC at *
    (have hg : (987654321 : Nat) - 987654321 = 0 := rfl; have hr := hg; repeat' (first | refine aw_seq ?_ | (refine aw_skip ?_; with_reducible repeat' (first | refine thenQ_n ?_ | refine blockQ_n ?_ | refine thenQ_e ?_ | refine blockQ_t ?_ | refine blockQ_f (by decide) ?_)) | (refine aw_exit ?_; with_reducible repeat' (first | refine thenQ_n ?_ | refine blockQ_n ?_ | refine thenQ_e ?_ | refine blockQ_t ?_ | refine blockQ_f (by decide) ?_)) | refine aw_ret ?_ | refine aw_block ?_ | refine aw_condT rfl ?_ | refine aw_condF rfl ?_ | ((first | refine aw_hide fun K hK => aw_region ?_ | refine acall0 (c1) ?_ | refine ago_if (by omega) ?_ | skip); simp (config := {maxSteps := 10000000}) (disch := first | exact okYes (by kernel_rfl) | omega) only [List.length, Nat.zero_add, Nat.reduceAdd, Nat.reduceMul, envOf, dI, ARun_none, AOpRun, aexec, D.isBot, FSt.ev, St.F, ↓eget_h, Bool.false_eq_true, Option.isSome, hget_n, or_self, ↓reduceIte, D.cells, AGo_ok, St.app, putO, eput_c, Nat.reduceBEq, eput_n, cond_false, hups, hput_n, List.map, eget_c, hget_c, hput_c, ARun_nil, dropE_c, inL_n, dropE_n, beq_self_eq_true, cond_true, Nat.reduceLeDiff, List.drop, List.take, ↓hget_h, Option.map, fillD, ne_eq, not_true_eq_false, Nat.reduceGT, splice, List.nil_append, List.cons_append, List.append_nil, List.all, D.leaf, Bool.and_true, and_self, inL_c, isSh, abin, Int.reduceBNe, thenQ]) | (subst hK; with_reducible repeat' (first | refine thenQ_n ?_ | refine blockQ_n ?_ | refine thenQ_e ?_ | refine blockQ_t ?_ | refine blockQ_f (by decide) ?_))))
    all_goals (refine end_to [] [] (by first | exact .inl rfl | exact .inr rfl) rfl (by kernel_rfl) (by kernel_rfl) (by kernel_rfl) ?_ ?_ <;> repeat' (first | exact trivial | exact vr_val _ | apply vr_tup | apply And.intro))
end Go.Proofs.Ytgibbaadjbohdaa
