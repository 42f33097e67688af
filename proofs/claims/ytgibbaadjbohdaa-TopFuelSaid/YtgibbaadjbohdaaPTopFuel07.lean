/- Texts of the law TopFuel, part 7. No conditions. -/
import Derived.Test.YtgibbaadjbohdaaPTopFuel06
import Derived.Test.YtgibbaadjbohdaaRows
/- The functions' bodies, translated. Written by a program; no conditions. -/
namespace Go.Proofs.Ytgibbaadjbohdaa
open Go.RowKit Lift

/-- rotor_check -/
def crotor_check : ACode :=
  (.seq
   (.region false [⟨some 4, .box (.tmp 0), none, []⟩,
     ⟨some 5, .box (.tmp 1), none, []⟩,
     ⟨some 8, .mv (.const (.int .i64 0)), none, []⟩] [])
  (.seq
   (.seq
    (.region false [⟨some 12, .loadN 26 (.tmp 4), none, []⟩,
      ⟨some 13, .call (.func 119) [(.tmp 12)], none, []⟩,
      ⟨some 9, .mv (.tmp 13), none, []⟩] [12, 13])
   (.seq
    (.region false [⟨some 14, .mv (.tmp 9), none, []⟩,
      ⟨some 15, .bin .neq (.tmp 14) (.const (.int .i64 0)), none, []⟩] [14])
   (.cond (.tmp 15)
     (.seq
      (.region false [⟨some 16, .mv (.tmp 9), none, []⟩,
        ⟨some 8, .mv (.tmp 16), none, []⟩] [16])
     .ret)
     .skip)))
  (.seq
   (.seq
    (.region false [⟨some 17, .fad 0 (.tmp 5), none, []⟩,
      ⟨some 18, .loadN 2 (.tmp 17), none, []⟩,
      ⟨some 19, .fad 2 (.tmp 5), none, []⟩,
      ⟨some 20, .loadN 2 (.tmp 19), none, []⟩,
      ⟨some 21, .fad 4 (.tmp 5), none, []⟩,
      ⟨some 22, .loadN 2 (.tmp 21), none, []⟩,
      ⟨some 23, .fad 6 (.tmp 5), none, []⟩,
      ⟨some 24, .loadN 2 (.tmp 23), none, []⟩,
      ⟨some 25, .buildSl 2 4 [(.val (.int .i64 0)), (.val (.int .i64 0)), (.val (.int .i64 0)), (.val (.int .i64 0)), (.val (.int .i64 0)), (.val (.int .i64 0)), (.val (.int .i64 0)), (.val (.int .i64 0))] [(0, 2, (.tmp 18)), (2, 2, (.tmp 20)), (4, 2, (.tmp 22)), (6, 2, (.tmp 24))], none, []⟩,
      ⟨some 26, .len_ (.tmp 25), none, []⟩,
      ⟨some 27, .mv (.const (.int .i64 0)), none, []⟩] [17, 18, 19, 20, 21, 22, 23, 24])
   (.block 0
     (.loop
       (.seq
        (.region false [⟨some 28, .bin .lss (.tmp 27) (.tmp 26), none, []⟩] [])
       (.seq
        (.cond (.tmp 28)
          .skip
          (.exit 0))
       (.seq
        (.block 1
          (.seq
           (.region false [⟨some 29, .iadS 2 (.tmp 25) (.tmp 27), none, []⟩,
             ⟨some 30, .loadN 2 (.tmp 29), none, []⟩,
             ⟨some 11, .mem [(.val (.int .i64 0)), (.val (.int .i64 0))], none, []⟩,
             ⟨none, .store 2 (.tmp 11) (.tmp 30), none, []⟩] [29, 30])
          (.seq
           (.region false [⟨some 31, .loadN 2 (.tmp 11), none, []⟩,
             ⟨some 32, .call (.func 120) [(.tmp 31)], none, []⟩,
             ⟨some 33, .un .not (.tmp 32), none, []⟩] [31, 32])
          (.cond (.tmp 33)
            (.seq
             (.region false [⟨some 8, .mv (.const (.int .i64 21)), none, []⟩] [])
            .ret)
            .skip))))
       (.region false [⟨some 34, .bin .add (.tmp 27) (.const (.int .i64 1)), none, []⟩,
         ⟨some 27, .mv (.tmp 34), none, []⟩] [34])))))))
  (.seq
   (.seq
    (.region false [⟨some 35, .mv (.tmp 2), none, []⟩,
      ⟨some 36, .call (.func 80) [(.tmp 35), (.func 121)], none, []⟩,
      ⟨some 37, .mv (.tmp 36), none, []⟩,
      ⟨some 38, .mv (.tmp 3), (some (some 37, false)), []⟩,
      ⟨some 39, .call (.tmp 38) [], (some (some 37, false)), []⟩,
      ⟨some 40, .call (.func 122) [(.tmp 39), (.func 123)], (some (some 37, false)), []⟩,
      ⟨some 41, .pick (.tmp 37) (.const (.bool true)) (.tmp 40), none, []⟩] [35, 36, 37, 38, 39, 40])
   (.cond (.tmp 41)
     (.seq
      (.region false [⟨some 8, .mv (.const (.int .i64 1)), none, []⟩] [])
     .ret)
     .skip))
  (.seq
   (.region false [⟨some 8, .mv (.const (.int .i64 0)), none, []⟩] [])
  .ret)))))
set_option maxRecDepth 100000 in
theorem krotor_check : IsCode Try.prog 83 42 crotor_check [.tmp 8] :=
  ⟨Try.f83, _, [41, 33, 28, 15, 0, 1, 4, 9, 5, 27, 26, 25, 11, 2, 3, 8], Try.func83, rfl, by decide, rfl, by kernel_rfl, by kernel_rfl⟩
/-- rotor_checkLevel_S1 -/
def crotor_checkLevel_S1 : ACode :=
  (.seq
   (.region false [⟨some 2, .mv (.const (.slice none 0 0)), none, []⟩] [])
  (.seq
   (.region false [⟨some 3, .loadN 34 (.tmp 0), none, []⟩,
     ⟨some 4, .loadN 2 (.tmp 1), none, []⟩,
     ⟨some 5, .call (.func 72) [(.tmp 3), (.tmp 4)], none, []⟩,
     ⟨some 6, .buildSl 7 1 [(.val (.slice none 0 0)), (.val (.slice none 0 0)), (.val (.slice none 0 0)), (.val (.int .i64 0)), (.val (.int .i64 0)), (.val (.int .i64 0)), (.val (.int .i64 0))] [(0, 7, (.tmp 5))], none, []⟩,
     ⟨some 2, .mv (.tmp 6), none, []⟩] [3, 4, 5, 6])
  .ret))
set_option maxRecDepth 100000 in
theorem krotor_checkLevel_S1 : IsCode Try.prog 114 7 crotor_checkLevel_S1 [.tmp 2] :=
  ⟨Try.f114, _, [0, 1, 2], Try.func114, rfl, by decide, rfl, by kernel_rfl, by kernel_rfl⟩
/-- rotor_checkLevel -/
def crotor_checkLevel : ACode :=
  (.seq
   (.region false [⟨some 2, .box (.tmp 0), none, []⟩,
     ⟨some 3, .box (.tmp 1), none, []⟩,
     ⟨some 4, .mv (.const (.int .i64 0)), none, []⟩] [])
  (.seq
   (.region false [⟨some 5, .fad 0 (.tmp 2), none, []⟩,
     ⟨some 6, .loadN 26 (.tmp 5), none, []⟩,
     ⟨some 7, .fad 26 (.tmp 2), none, []⟩,
     ⟨some 8, .loadN 8 (.tmp 7), none, []⟩,
     ⟨some 9, .loadN 2 (.tmp 3), none, []⟩,
     ⟨some 10, .buildSl 2 1 [(.val (.int .i64 0)), (.val (.int .i64 0))] [(0, 2, (.tmp 9))], none, []⟩,
     ⟨some 11, .mkfn 114 [] [(.tmp 2), (.tmp 3)], none, []⟩,
     ⟨some 12, .call (.func 83) [(.tmp 6), (.tmp 8), (.tmp 10), (.tmp 11)], none, []⟩,
     ⟨some 4, .mv (.tmp 12), none, []⟩] [5, 6, 7, 8, 9, 10, 11, 12])
  .ret))
set_option maxRecDepth 100000 in
theorem krotor_checkLevel : IsCode Try.prog 71 13 crotor_checkLevel [.tmp 4] :=
  ⟨Try.f71, _, [0, 1, 2, 3, 4], Try.func71, rfl, by decide, rfl, by kernel_rfl, by kernel_rfl⟩
/-- rotor_Level -/
def crotor_Level : ACode :=
  (.seq
   (.region false [⟨some 3, .box (.tmp 0), none, []⟩,
     ⟨some 4, .box (.tmp 1), none, []⟩,
     ⟨some 5, .box (.tmp 2), none, []⟩,
     ⟨some 6, .mem [(.val (.int .i64 0)), (.val (.int .i64 0))], none, []⟩,
     ⟨some 7, .mv (.const (.int .i64 0)), none, []⟩] [])
  (.seq
   (.region false [⟨some 10, .loadN 26 (.tmp 3), none, []⟩,
     ⟨some 11, .loadN 8 (.tmp 4), none, []⟩,
     ⟨some 12, .build [(.val (.slice none 0 0)), (.val (.slice none 0 0)), (.val (.slice none 0 0)), (.val (.slice none 0 0)), (.val (.slice none 0 0)), (.val (.slice none 0 0)), (.val (.slice none 0 0)), (.val (.slice none 0 0)), (.val (.slice none 0 0)), (.val (.slice none 0 0)), (.val (.slice none 0 0)), (.val (.slice none 0 0)), (.val (.slice none 0 0)), (.val (.slice none 0 0)), (.val (.slice none 0 0)), (.val (.slice none 0 0)), (.val (.slice none 0 0)), (.val (.slice none 0 0)), (.val (.slice none 0 0)), (.val (.slice none 0 0)), (.val (.slice none 0 0)), (.val (.slice none 0 0)), (.val (.slice none 0 0)), (.val (.slice none 0 0)), (.val (.int .i64 0)), (.val (.int .i64 0)), (.val (.int .i64 0)), (.val (.int .i64 0)), (.val (.int .i64 0)), (.val (.int .i64 0)), (.val (.int .i64 0)), (.val (.int .i64 0)), (.val (.int .i64 0)), (.val (.int .i64 0))] [(0, 26, (.tmp 10)), (26, 8, (.tmp 11))], none, []⟩,
     ⟨some 8, .mem [(.val (.slice none 0 0)), (.val (.slice none 0 0)), (.val (.slice none 0 0)), (.val (.slice none 0 0)), (.val (.slice none 0 0)), (.val (.slice none 0 0)), (.val (.slice none 0 0)), (.val (.slice none 0 0)), (.val (.slice none 0 0)), (.val (.slice none 0 0)), (.val (.slice none 0 0)), (.val (.slice none 0 0)), (.val (.slice none 0 0)), (.val (.slice none 0 0)), (.val (.slice none 0 0)), (.val (.slice none 0 0)), (.val (.slice none 0 0)), (.val (.slice none 0 0)), (.val (.slice none 0 0)), (.val (.slice none 0 0)), (.val (.slice none 0 0)), (.val (.slice none 0 0)), (.val (.slice none 0 0)), (.val (.slice none 0 0)), (.val (.int .i64 0)), (.val (.int .i64 0)), (.val (.int .i64 0)), (.val (.int .i64 0)), (.val (.int .i64 0)), (.val (.int .i64 0)), (.val (.int .i64 0)), (.val (.int .i64 0)), (.val (.int .i64 0)), (.val (.int .i64 0))], none, []⟩,
     ⟨none, .store 34 (.tmp 8) (.tmp 12), none, []⟩] [10, 11, 12])
  (.seq
   (.seq
    (.region false [⟨some 13, .loadN 34 (.tmp 8), none, []⟩,
      ⟨some 14, .loadN 2 (.tmp 5), none, []⟩,
      ⟨some 15, .call (.func 71) [(.tmp 13), (.tmp 14)], none, []⟩,
      ⟨some 9, .mv (.tmp 15), none, []⟩] [13, 14, 15])
   (.seq
    (.region false [⟨some 16, .mv (.tmp 9), none, []⟩,
      ⟨some 17, .bin .neq (.tmp 16) (.const (.int .i64 0)), none, []⟩] [16])
   (.cond (.tmp 17)
     (.seq
      (.region false [⟨some 18, .build [(.val (.int .i64 0)), (.val (.int .i64 0))] [], none, []⟩,
        ⟨some 19, .mv (.tmp 9), none, []⟩,
        ⟨none, .store 2 (.tmp 6) (.tmp 18), none, []⟩,
        ⟨some 7, .mv (.tmp 19), none, []⟩] [18, 19])
     .ret)
     .skip)))
  (.seq
   (.region false [⟨some 20, .loadN 34 (.tmp 8), none, []⟩,
     ⟨some 21, .loadN 2 (.tmp 5), none, []⟩,
     ⟨some 22, .call (.func 72) [(.tmp 20), (.tmp 21)], none, []⟩,
     ⟨some 23, .call (.func 73) [(.tmp 22)], none, []⟩,
     ⟨none, .store 2 (.tmp 6) (.tmp 23), none, []⟩,
     ⟨some 7, .mv (.const (.int .i64 0)), none, []⟩] [20, 21, 22, 23])
  .ret))))
set_option maxRecDepth 100000 in
theorem krotor_Level : IsCode Try.prog 35 24 crotor_Level [.cellN 6 2, .tmp 7] :=
  ⟨Try.f35, _, [17, 0, 1, 2, 3, 4, 8, 5, 9, 6, 7], Try.func35, rfl, by decide, rfl, by kernel_rfl, by kernel_rfl⟩
/-- rotor_Flow -/
def crotor_Flow : ACode :=
  (.seq
   (.region false [⟨some 3, .box (.tmp 0), none, []⟩,
     ⟨some 4, .box (.tmp 1), none, []⟩,
     ⟨some 5, .box (.tmp 2), none, []⟩,
     ⟨some 6, .mem [(.val (.int .i64 0)), (.val (.int .i64 0))], none, []⟩,
     ⟨some 7, .mv (.const (.int .i64 0)), none, []⟩] [])
  (.seq
   (.region false [⟨some 11, .loadN 26 (.tmp 3), none, []⟩,
     ⟨some 12, .loadN 8 (.tmp 4), none, []⟩,
     ⟨some 13, .loadN 2 (.tmp 5), none, []⟩,
     ⟨some 14, .call (.func 35) [(.tmp 11), (.tmp 12), (.tmp 13)], none, []⟩,
     ⟨some 10, .mv (.tmp 14), none, []⟩,
     ⟨some 15, .ext (.tmp 10) 0, none, []⟩,
     ⟨some 16, .ext (.tmp 10) 1, none, []⟩,
     ⟨some 8, .mem [(.val (.int .i64 0)), (.val (.int .i64 0))], none, []⟩,
     ⟨none, .store 2 (.tmp 8) (.tmp 15), none, []⟩,
     ⟨some 9, .mv (.tmp 16), none, []⟩] [11, 12, 13, 14, 10, 15, 16])
  (.seq
   (.seq
    (.region false [⟨some 17, .mv (.tmp 9), none, []⟩,
      ⟨some 18, .bin .neq (.tmp 17) (.const (.int .i64 0)), none, []⟩] [17])
   (.cond (.tmp 18)
     (.seq
      (.region false [⟨some 19, .build [(.val (.int .i64 0)), (.val (.int .i64 0))] [], none, []⟩,
        ⟨some 20, .mv (.tmp 9), none, []⟩,
        ⟨none, .store 2 (.tmp 6) (.tmp 19), none, []⟩,
        ⟨some 7, .mv (.tmp 20), none, []⟩] [19, 20])
     .ret)
     .skip))
  (.seq
   (.region false [⟨some 21, .loadN 2 (.tmp 8), none, []⟩,
     ⟨some 22, .fad 25 (.tmp 3), none, []⟩,
     ⟨some 23, .load1 (.tmp 22), none, []⟩,
     ⟨some 24, .call (.func 36) [(.tmp 21), (.tmp 23), (.const (.int .i64 1000))], none, []⟩,
     ⟨some 25, .ext (.tmp 24) 0, none, []⟩,
     ⟨some 26, .ext (.tmp 24) 1, none, []⟩,
     ⟨none, .store 2 (.tmp 6) (.tmp 25), none, []⟩,
     ⟨some 7, .mv (.tmp 26), none, []⟩] [21, 22, 23, 24, 25, 26])
  .ret))))
set_option maxRecDepth 100000 in
theorem krotor_Flow : IsCode Try.prog 12 27 crotor_Flow [.cellN 6 2, .tmp 7] :=
  ⟨Try.f12, _, [18, 0, 1, 2, 3, 4, 5, 9, 6, 8, 7], Try.func12, rfl, by decide, rfl, by kernel_rfl, by kernel_rfl⟩
/-- route_Burn -/
def croute_Burn : ACode :=
  (.seq
   (.region false [⟨some 2, .box (.tmp 0), none, []⟩,
     ⟨some 4, .mv (.const (.int .i64 0)), none, []⟩,
     ⟨some 5, .mv (.const (.int .i64 0)), none, []⟩] [])
  (.seq
   (.region false [⟨some 9, .fad 0 (.tmp 2), none, []⟩,
     ⟨some 10, .fad 0 (.tmp 9), none, []⟩,
     ⟨some 11, .loadN 26 (.tmp 10), none, []⟩,
     ⟨some 12, .fad 33 (.tmp 2), none, []⟩,
     ⟨some 13, .loadN 8 (.tmp 12), none, []⟩,
     ⟨some 14, .mv (.tmp 1), none, []⟩,
     ⟨some 15, .mv (.tmp 1), none, []⟩,
     ⟨some 16, .build [(.val (.int .i64 0)), (.val (.int .i64 0))] [(0, 1, (.tmp 14)), (1, 1, (.tmp 15))], none, []⟩,
     ⟨some 17, .call (.func 12) [(.tmp 11), (.tmp 13), (.tmp 16)], none, []⟩,
     ⟨some 8, .mv (.tmp 17), none, []⟩,
     ⟨some 18, .ext (.tmp 8) 0, none, []⟩,
     ⟨some 19, .ext (.tmp 8) 1, none, []⟩,
     ⟨some 6, .mem [(.val (.int .i64 0)), (.val (.int .i64 0))], none, []⟩,
     ⟨none, .store 2 (.tmp 6) (.tmp 18), none, []⟩,
     ⟨some 7, .mv (.tmp 19), none, []⟩] [9, 10, 11, 12, 13, 14, 15, 16, 17, 8, 18, 19])
  (.seq
   (.region false [⟨some 20, .fad 1 (.tmp 6), none, []⟩,
     ⟨some 21, .load1 (.tmp 20), none, []⟩,
     ⟨some 22, .mv (.tmp 7), none, []⟩,
     ⟨some 4, .mv (.tmp 21), none, []⟩,
     ⟨some 5, .mv (.tmp 22), none, []⟩] [20, 21, 22])
  .ret)))
set_option maxRecDepth 100000 in
theorem kroute_Burn : IsCode Try.prog 10 23 croute_Burn [.tmp 4, .tmp 5] :=
  ⟨Try.f10, _, [0, 2, 1, 6, 7, 4, 5], Try.func10, rfl, by decide, rfl, by kernel_rfl, by kernel_rfl⟩
/-- law02_Far -/
def claw02_Far : ACode :=
  (.seq
   (.region false [⟨some 1, .box (.tmp 0), none, []⟩,
     ⟨some 2, .mv (.const (.bool false)), none, []⟩] [])
  (.seq
   (.region false [⟨some 3, .fad 0 (.tmp 1), none, []⟩,
     ⟨some 4, .loadN 3 (.tmp 3), none, []⟩,
     ⟨some 5, .call (.func 31) [(.tmp 4)], none, []⟩,
     ⟨some 6, .mv (.tmp 5), none, []⟩,
     ⟨some 7, .fad 3 (.tmp 1), (some (some 6, false)), []⟩,
     ⟨some 8, .loadN 3 (.tmp 7), (some (some 6, false)), []⟩,
     ⟨some 9, .call (.func 31) [(.tmp 8)], (some (some 6, false)), []⟩,
     ⟨some 10, .pick (.tmp 6) (.const (.bool true)) (.tmp 9), none, []⟩,
     ⟨some 11, .mv (.tmp 10), none, []⟩,
     ⟨some 12, .fad 6 (.tmp 1), (some (some 11, false)), []⟩,
     ⟨some 13, .loadN 3 (.tmp 12), (some (some 11, false)), []⟩,
     ⟨some 14, .call (.func 31) [(.tmp 13)], (some (some 11, false)), []⟩,
     ⟨some 15, .pick (.tmp 11) (.const (.bool true)) (.tmp 14), none, []⟩,
     ⟨some 16, .mv (.tmp 15), none, []⟩,
     ⟨some 17, .fad 9 (.tmp 1), (some (some 16, false)), []⟩,
     ⟨some 18, .loadN 3 (.tmp 17), (some (some 16, false)), []⟩,
     ⟨some 19, .call (.func 31) [(.tmp 18)], (some (some 16, false)), []⟩,
     ⟨some 20, .pick (.tmp 16) (.const (.bool true)) (.tmp 19), none, []⟩,
     ⟨some 21, .mv (.tmp 20), none, []⟩,
     ⟨some 22, .fad 12 (.tmp 1), (some (some 21, false)), []⟩,
     ⟨some 23, .loadN 3 (.tmp 22), (some (some 21, false)), []⟩,
     ⟨some 24, .call (.func 31) [(.tmp 23)], (some (some 21, false)), []⟩,
     ⟨some 25, .pick (.tmp 21) (.const (.bool true)) (.tmp 24), none, []⟩,
     ⟨some 26, .mv (.tmp 25), none, []⟩,
     ⟨some 27, .fad 15 (.tmp 1), (some (some 26, false)), []⟩,
     ⟨some 28, .loadN 3 (.tmp 27), (some (some 26, false)), []⟩,
     ⟨some 29, .call (.func 31) [(.tmp 28)], (some (some 26, false)), []⟩,
     ⟨some 30, .pick (.tmp 26) (.const (.bool true)) (.tmp 29), none, []⟩,
     ⟨some 31, .mv (.tmp 30), none, []⟩,
     ⟨some 32, .fad 18 (.tmp 1), (some (some 31, false)), []⟩,
     ⟨some 33, .loadN 3 (.tmp 32), (some (some 31, false)), []⟩,
     ⟨some 34, .call (.func 31) [(.tmp 33)], (some (some 31, false)), []⟩,
     ⟨some 35, .pick (.tmp 31) (.const (.bool true)) (.tmp 34), none, []⟩,
     ⟨some 36, .mv (.tmp 35), none, []⟩,
     ⟨some 37, .fad 21 (.tmp 1), (some (some 36, false)), []⟩,
     ⟨some 38, .loadN 3 (.tmp 37), (some (some 36, false)), []⟩,
     ⟨some 39, .call (.func 31) [(.tmp 38)], (some (some 36, false)), []⟩,
     ⟨some 40, .pick (.tmp 36) (.const (.bool true)) (.tmp 39), none, []⟩,
     ⟨some 2, .mv (.tmp 40), none, []⟩] [3, 4, 5, 6, 7, 8, 9, 10, 11, 12, 13, 14, 15, 16, 17, 18, 19, 20, 21, 22, 23, 24, 25, 26, 27, 28, 29, 30, 31, 32, 33, 34, 35, 36, 37, 38, 39, 40])
  .ret))
set_option maxRecDepth 100000 in
theorem klaw02_Far : IsCode Try.prog 7 41 claw02_Far [.tmp 2] :=
  ⟨Try.f7, _, [0, 1, 2], Try.func7, rfl, by decide, rfl, by kernel_rfl, by kernel_rfl⟩
/-- ref02_CheckAir -/
def cref02_CheckAir : ACode :=
  (.seq
   (.region false [⟨some 2, .box (.tmp 0), none, []⟩,
     ⟨some 3, .box (.tmp 1), none, []⟩,
     ⟨some 4, .mv (.const (.int .i64 0)), none, []⟩] [])
  (.seq
   (.region false [⟨some 6, .loadN 26 (.tmp 2), none, []⟩,
     ⟨some 7, .call (.func 32) [(.tmp 6)], none, []⟩,
     ⟨some 5, .mv (.tmp 7), none, []⟩] [6, 7])
  (.seq
   (.seq
    (.region false [⟨some 8, .mv (.tmp 5), none, []⟩,
      ⟨some 9, .bin .neq (.tmp 8) (.const (.int .i64 0)), none, []⟩] [8])
   (.cond (.tmp 9)
     (.seq
      (.region false [⟨some 10, .mv (.tmp 5), none, []⟩,
        ⟨some 4, .mv (.tmp 10), none, []⟩] [10])
     .ret)
     .skip))
  (.seq
   (.seq
    (.region false [⟨some 11, .fad 0 (.tmp 3), none, []⟩,
      ⟨some 12, .loadN 2 (.tmp 11), none, []⟩,
      ⟨some 13, .call (.func 17) [(.tmp 12)], none, []⟩,
      ⟨some 14, .un .not (.tmp 13), none, []⟩,
      ⟨some 15, .mv (.tmp 14), none, []⟩,
      ⟨some 16, .fad 2 (.tmp 3), (some (some 15, false)), []⟩,
      ⟨some 17, .loadN 2 (.tmp 16), (some (some 15, false)), []⟩,
      ⟨some 18, .call (.func 17) [(.tmp 17)], (some (some 15, false)), []⟩,
      ⟨some 19, .un .not (.tmp 18), (some (some 15, false)), []⟩,
      ⟨some 20, .pick (.tmp 15) (.const (.bool true)) (.tmp 19), none, []⟩,
      ⟨some 21, .mv (.tmp 20), none, []⟩,
      ⟨some 22, .fad 4 (.tmp 3), (some (some 21, false)), []⟩,
      ⟨some 23, .loadN 2 (.tmp 22), (some (some 21, false)), []⟩,
      ⟨some 24, .call (.func 17) [(.tmp 23)], (some (some 21, false)), []⟩,
      ⟨some 25, .un .not (.tmp 24), (some (some 21, false)), []⟩,
      ⟨some 26, .pick (.tmp 21) (.const (.bool true)) (.tmp 25), none, []⟩,
      ⟨some 27, .mv (.tmp 26), none, []⟩,
      ⟨some 28, .fad 6 (.tmp 3), (some (some 27, false)), []⟩,
      ⟨some 29, .loadN 2 (.tmp 28), (some (some 27, false)), []⟩,
      ⟨some 30, .call (.func 17) [(.tmp 29)], (some (some 27, false)), []⟩,
      ⟨some 31, .un .not (.tmp 30), (some (some 27, false)), []⟩,
      ⟨some 32, .pick (.tmp 27) (.const (.bool true)) (.tmp 31), none, []⟩] [11, 12, 13, 14, 15, 16, 17, 18, 19, 20, 21, 22, 23, 24, 25, 26, 27, 28, 29, 30, 31])
   (.cond (.tmp 32)
     (.seq
      (.region false [⟨some 4, .mv (.const (.int .i64 21)), none, []⟩] [])
     .ret)
     .skip))
  (.seq
   (.region false [⟨some 4, .mv (.const (.int .i64 0)), none, []⟩] [])
  .ret)))))
set_option maxRecDepth 100000 in
theorem kref02_CheckAir : IsCode Try.prog 8 33 cref02_CheckAir [.tmp 4] :=
  ⟨Try.f8, _, [32, 9, 0, 1, 2, 5, 3, 4], Try.func8, rfl, by decide, rfl, by kernel_rfl, by kernel_rfl⟩
/-- ref02_Check -/
def cref02_Check : ACode :=
  (.seq
   (.region false [⟨some 1, .box (.tmp 0), none, []⟩,
     ⟨some 2, .mv (.const (.int .i64 0)), none, []⟩] [])
  (.seq
   (.seq
    (.region false [⟨some 5, .fad 0 (.tmp 1), none, []⟩,
      ⟨some 6, .loadN 3 (.tmp 5), none, []⟩,
      ⟨some 7, .call (.func 64) [(.tmp 6), (.const (.int .i64 0)), (.const (.int .i64 100000))], none, []⟩,
      ⟨some 8, .un .not (.tmp 7), none, []⟩,
      ⟨some 9, .mv (.tmp 8), none, []⟩,
      ⟨some 10, .fad 3 (.tmp 1), (some (some 9, false)), []⟩,
      ⟨some 11, .loadN 3 (.tmp 10), (some (some 9, false)), []⟩,
      ⟨some 12, .call (.func 64) [(.tmp 11), (.const (.int .i64 0)), (.const (.int .i64 100))], (some (some 9, false)), []⟩,
      ⟨some 13, .un .not (.tmp 12), (some (some 9, false)), []⟩,
      ⟨some 14, .pick (.tmp 9) (.const (.bool true)) (.tmp 13), none, []⟩,
      ⟨some 15, .mv (.tmp 14), none, []⟩,
      ⟨some 16, .fad 6 (.tmp 1), (some (some 15, false)), []⟩,
      ⟨some 17, .loadN 3 (.tmp 16), (some (some 15, false)), []⟩,
      ⟨some 18, .call (.func 64) [(.tmp 17), (.const (.int .i64 0)), (.const (.int .i64 100000))], (some (some 15, false)), []⟩,
      ⟨some 19, .un .not (.tmp 18), (some (some 15, false)), []⟩,
      ⟨some 20, .pick (.tmp 15) (.const (.bool true)) (.tmp 19), none, []⟩,
      ⟨some 21, .mv (.tmp 20), none, []⟩,
      ⟨some 22, .fad 9 (.tmp 1), (some (some 21, false)), []⟩,
      ⟨some 23, .loadN 3 (.tmp 22), (some (some 21, false)), []⟩,
      ⟨some 24, .call (.func 64) [(.tmp 23), (.const (.int .i64 0)), (.const (.int .i64 100000))], (some (some 21, false)), []⟩,
      ⟨some 25, .un .not (.tmp 24), (some (some 21, false)), []⟩,
      ⟨some 26, .pick (.tmp 21) (.const (.bool true)) (.tmp 25), none, []⟩] [5, 6, 7, 8, 9, 10, 11, 12, 13, 14, 15, 16, 17, 18, 19, 20, 21, 22, 23, 24, 25])
   (.cond (.tmp 26)
     (.seq
      (.region false [⟨some 2, .mv (.const (.int .i64 20)), none, []⟩] [])
     .ret)
     .skip))
  (.seq
   (.seq
    (.region false [⟨some 27, .fad 12 (.tmp 1), none, []⟩,
      ⟨some 28, .loadN 3 (.tmp 27), none, []⟩,
      ⟨some 29, .call (.func 64) [(.tmp 28), (.const (.int .i64 0)), (.const (.int .i64 10000))], none, []⟩,
      ⟨some 30, .un .not (.tmp 29), none, []⟩,
      ⟨some 31, .mv (.tmp 30), none, []⟩,
      ⟨some 32, .fad 15 (.tmp 1), (some (some 31, false)), []⟩,
      ⟨some 33, .loadN 3 (.tmp 32), (some (some 31, false)), []⟩,
      ⟨some 34, .call (.func 64) [(.tmp 33), (.const (.int .i64 0)), (.const (.int .i64 10000))], (some (some 31, false)), []⟩,
      ⟨some 35, .un .not (.tmp 34), (some (some 31, false)), []⟩,
      ⟨some 36, .pick (.tmp 31) (.const (.bool true)) (.tmp 35), none, []⟩,
      ⟨some 37, .mv (.tmp 36), none, []⟩,
      ⟨some 38, .fad 18 (.tmp 1), (some (some 37, false)), []⟩,
      ⟨some 39, .loadN 3 (.tmp 38), (some (some 37, false)), []⟩,
      ⟨some 40, .call (.func 64) [(.tmp 39), (.const (.int .i64 0)), (.const (.int .i64 10000))], (some (some 37, false)), []⟩,
      ⟨some 41, .un .not (.tmp 40), (some (some 37, false)), []⟩,
      ⟨some 42, .pick (.tmp 37) (.const (.bool true)) (.tmp 41), none, []⟩,
      ⟨some 43, .mv (.tmp 42), none, []⟩,
      ⟨some 44, .fad 21 (.tmp 1), (some (some 43, false)), []⟩,
      ⟨some 45, .loadN 3 (.tmp 44), (some (some 43, false)), []⟩,
      ⟨some 46, .call (.func 64) [(.tmp 45), (.const (.int .i64 1)), (.const (.int .i64 10000))], (some (some 43, false)), []⟩,
      ⟨some 47, .un .not (.tmp 46), (some (some 43, false)), []⟩,
      ⟨some 48, .pick (.tmp 43) (.const (.bool true)) (.tmp 47), none, []⟩] [27, 28, 29, 30, 31, 32, 33, 34, 35, 36, 37, 38, 39, 40, 41, 42, 43, 44, 45, 46, 47])
   (.cond (.tmp 48)
     (.seq
      (.region false [⟨some 2, .mv (.const (.int .i64 20)), none, []⟩] [])
     .ret)
     .skip))
  (.seq
   (.seq
    (.region false [⟨some 49, .fad 15 (.tmp 1), none, []⟩,
      ⟨some 50, .fad 0 (.tmp 49), none, []⟩,
      ⟨some 51, .load1 (.tmp 50), none, []⟩,
      ⟨some 52, .fad 18 (.tmp 1), none, []⟩,
      ⟨some 53, .fad 0 (.tmp 52), none, []⟩,
      ⟨some 54, .load1 (.tmp 53), none, []⟩,
      ⟨some 55, .call (.func 65) [(.tmp 51), (.tmp 54)], none, []⟩,
      ⟨some 56, .un .not (.tmp 55), none, []⟩,
      ⟨some 57, .mv (.tmp 56), none, []⟩,
      ⟨some 58, .fad 15 (.tmp 1), (some (some 57, false)), []⟩,
      ⟨some 59, .fad 1 (.tmp 58), (some (some 57, false)), []⟩,
      ⟨some 60, .load1 (.tmp 59), (some (some 57, false)), []⟩,
      ⟨some 61, .fad 18 (.tmp 1), (some (some 57, false)), []⟩,
      ⟨some 62, .fad 1 (.tmp 61), (some (some 57, false)), []⟩,
      ⟨some 63, .load1 (.tmp 62), (some (some 57, false)), []⟩,
      ⟨some 64, .call (.func 65) [(.tmp 60), (.tmp 63)], (some (some 57, false)), []⟩,
      ⟨some 65, .un .not (.tmp 64), (some (some 57, false)), []⟩,
      ⟨some 66, .pick (.tmp 57) (.const (.bool true)) (.tmp 65), none, []⟩,
      ⟨some 67, .mv (.tmp 66), none, []⟩,
      ⟨some 68, .fad 24 (.tmp 1), (some (some 67, false)), []⟩,
      ⟨some 69, .load1 (.tmp 68), (some (some 67, false)), []⟩,
      ⟨some 70, .call (.func 66) [(.tmp 69), (.const (.int .i64 1)), (.const (.int .i64 1000))], (some (some 67, false)), []⟩,
      ⟨some 71, .un .not (.tmp 70), (some (some 67, false)), []⟩,
      ⟨some 72, .pick (.tmp 67) (.const (.bool true)) (.tmp 71), none, []⟩,
      ⟨some 73, .mv (.tmp 72), none, []⟩,
      ⟨some 74, .fad 25 (.tmp 1), (some (some 73, false)), []⟩,
      ⟨some 75, .load1 (.tmp 74), (some (some 73, false)), []⟩,
      ⟨some 76, .call (.func 66) [(.tmp 75), (.const (.int .i64 1)), (.const (.int .i64 1000))], (some (some 73, false)), []⟩,
      ⟨some 77, .un .not (.tmp 76), (some (some 73, false)), []⟩,
      ⟨some 78, .pick (.tmp 73) (.const (.bool true)) (.tmp 77), none, []⟩] [49, 50, 51, 52, 53, 54, 55, 56, 57, 58, 59, 60, 61, 62, 63, 64, 65, 66, 67, 68, 69, 70, 71, 72, 73, 74, 75, 76, 77])
   (.cond (.tmp 78)
     (.seq
      (.region false [⟨some 2, .mv (.const (.int .i64 20)), none, []⟩] [])
     .ret)
     .skip))
  (.seq
   (.seq
    (.region false [⟨some 3, .mv (.const (.int .i64 0)), none, []⟩] [])
   (.block 0
     (.loop
       (.seq
        (.seq
         (.region false [⟨some 79, .mv (.tmp 3), none, []⟩,
           ⟨some 80, .fad 15 (.tmp 1), none, []⟩,
           ⟨some 81, .fad 0 (.tmp 80), none, []⟩,
           ⟨some 82, .load1 (.tmp 81), none, []⟩,
           ⟨some 83, .len_ (.tmp 82), none, []⟩,
           ⟨some 84, .bin .lss (.tmp 79) (.tmp 83), none, []⟩] [79, 80, 81, 82, 83])
        (.cond (.tmp 84)
          .skip
          (.exit 0)))
       (.seq
        (.block 1
          (.seq
           (.region false [⟨some 4, .mv (.const (.int .i64 0)), none, []⟩] [])
          (.block 2
            (.loop
              (.seq
               (.seq
                (.region false [⟨some 87, .mv (.tmp 4), none, []⟩,
                  ⟨some 88, .fad 15 (.tmp 1), none, []⟩,
                  ⟨some 89, .fad 1 (.tmp 88), none, []⟩,
                  ⟨some 90, .load1 (.tmp 89), none, []⟩,
                  ⟨some 91, .len_ (.tmp 90), none, []⟩,
                  ⟨some 92, .bin .lss (.tmp 87) (.tmp 91), none, []⟩] [87, 88, 89, 90, 91])
               (.cond (.tmp 92)
                 .skip
                 (.exit 2)))
              (.seq
               (.block 3
                 (.seq
                  (.region true [⟨some 95, .fad 15 (.tmp 1), none, []⟩,
                    ⟨some 96, .fad 2 (.tmp 95), none, [0]⟩,
                    ⟨some 97, .load1 (.tmp 96), none, [1, 0]⟩,
                    ⟨some 98, .mv (.tmp 3), none, []⟩,
                    ⟨some 99, .iadS 1 (.tmp 97) (.tmp 98), none, [2, 1, 0, 3]⟩,
                    ⟨some 100, .load1 (.tmp 99), none, [4, 2, 1, 0, 3]⟩,
                    ⟨some 101, .mv (.tmp 4), none, []⟩,
                    ⟨some 102, .iadS 1 (.tmp 100) (.tmp 101), none, [5, 4, 2, 1, 0, 3, 6]⟩,
                    ⟨some 103, .load1 (.tmp 102), none, [7, 5, 4, 2, 1, 0, 3, 6]⟩,
                    ⟨some 104, .fad 18 (.tmp 1), none, []⟩,
                    ⟨some 105, .fad 2 (.tmp 104), none, [9]⟩,
                    ⟨some 106, .load1 (.tmp 105), none, [10, 9]⟩,
                    ⟨some 107, .mv (.tmp 3), none, []⟩,
                    ⟨some 108, .iadS 1 (.tmp 106) (.tmp 107), none, [11, 10, 9, 12]⟩,
                    ⟨some 109, .load1 (.tmp 108), none, [13, 11, 10, 9, 12]⟩,
                    ⟨some 110, .mv (.tmp 4), none, []⟩,
                    ⟨some 111, .iadS 1 (.tmp 109) (.tmp 110), none, [14, 13, 11, 10, 9, 12, 15]⟩,
                    ⟨some 112, .load1 (.tmp 111), none, [16, 14, 13, 11, 10, 9, 12, 15]⟩,
                    ⟨some 113, .bin .gtr (.tmp 103) (.tmp 112), none, [8, 7, 5, 4, 2, 1, 0, 3, 6, 17, 16, 14, 13, 11, 10, 9, 12, 15]⟩] [95, 96, 97, 98, 99, 100, 101, 102, 103, 104, 105, 106, 107, 108, 109, 110, 111, 112])
                 (.cond (.tmp 113)
                   (.seq
                    (.region false [⟨some 2, .mv (.const (.int .i64 20)), none, []⟩] [])
                   .ret)
                   .skip)))
              (.region false [⟨some 93, .mv (.tmp 4), none, []⟩,
                ⟨some 94, .bin .add (.tmp 93) (.const (.int .i64 1)), none, []⟩,
                ⟨some 4, .mv (.tmp 94), none, []⟩] [93, 94])))))))
       (.region false [⟨some 85, .mv (.tmp 3), none, []⟩,
         ⟨some 86, .bin .add (.tmp 85) (.const (.int .i64 1)), none, []⟩,
         ⟨some 3, .mv (.tmp 86), none, []⟩] [85, 86]))))))
  (.seq
   (.region false [⟨some 2, .mv (.const (.int .i64 0)), none, []⟩] [])
  .ret))))))
set_option maxRecDepth 100000 in
theorem kref02_Check : IsCode Try.prog 32 114 cref02_Check [.tmp 2] :=
  ⟨Try.f32, _, [113, 92, 84, 78, 48, 26, 0, 1, 3, 4, 2], Try.func32, rfl, by decide, rfl, by kernel_rfl, by kernel_rfl⟩
/-- ref02_filled -/
def cref02_filled : ACode :=
  (.seq
   (.region false [⟨some 3, .box (.tmp 0), none, []⟩,
     ⟨some 6, .mv (.const (.bool false)), none, []⟩] [])
  (.seq
   (.seq
    (.region false [⟨some 9, .loadN 3 (.tmp 3), none, []⟩,
      ⟨some 10, .call (.func 109) [(.tmp 9)], none, []⟩,
      ⟨some 11, .bin .neq (.tmp 10) (.const (.int .i64 0)), none, []⟩] [9, 10])
   (.cond (.tmp 11)
     (.seq
      (.region false [⟨some 6, .mv (.const (.bool false)), none, []⟩] [])
     .ret)
     .skip))
  (.seq
   (.seq
    (.region false [⟨some 7, .mv (.const (.int .i64 0)), none, []⟩] [])
   (.block 0
     (.loop
       (.seq
        (.seq
         (.region false [⟨some 12, .mv (.tmp 7), none, []⟩,
           ⟨some 13, .fad 0 (.tmp 3), none, []⟩,
           ⟨some 14, .load1 (.tmp 13), none, []⟩,
           ⟨some 15, .len_ (.tmp 14), none, []⟩,
           ⟨some 16, .bin .lss (.tmp 12) (.tmp 15), none, []⟩] [12, 13, 14, 15])
        (.cond (.tmp 16)
          .skip
          (.exit 0)))
       (.seq
        (.block 1
          (.seq
           (.region false [⟨some 8, .mv (.const (.int .i64 0)), none, []⟩] [])
          (.block 2
            (.loop
              (.seq
               (.seq
                (.region false [⟨some 19, .mv (.tmp 8), none, []⟩,
                  ⟨some 20, .fad 1 (.tmp 3), none, []⟩,
                  ⟨some 21, .load1 (.tmp 20), none, []⟩,
                  ⟨some 22, .len_ (.tmp 21), none, []⟩,
                  ⟨some 23, .bin .lss (.tmp 19) (.tmp 22), none, []⟩] [19, 20, 21, 22])
               (.cond (.tmp 23)
                 .skip
                 (.exit 2)))
              (.seq
               (.block 3
                 (.seq
                  (.region false [⟨some 26, .fad 2 (.tmp 3), none, []⟩,
                    ⟨some 27, .load1 (.tmp 26), none, []⟩,
                    ⟨some 28, .mv (.tmp 7), none, []⟩,
                    ⟨some 29, .iadS 1 (.tmp 27) (.tmp 28), none, []⟩,
                    ⟨some 30, .load1 (.tmp 29), none, []⟩,
                    ⟨some 31, .mv (.tmp 8), none, []⟩,
                    ⟨some 32, .iadS 1 (.tmp 30) (.tmp 31), none, []⟩,
                    ⟨some 33, .load1 (.tmp 32), none, []⟩,
                    ⟨some 34, .mv (.tmp 1), none, []⟩,
                    ⟨some 35, .mv (.tmp 2), none, []⟩,
                    ⟨some 36, .call (.func 66) [(.tmp 33), (.tmp 34), (.tmp 35)], none, []⟩,
                    ⟨some 37, .un .not (.tmp 36), none, []⟩] [26, 27, 28, 29, 30, 31, 32, 33, 34, 35, 36])
                 (.cond (.tmp 37)
                   (.seq
                    (.region false [⟨some 6, .mv (.const (.bool false)), none, []⟩] [])
                   .ret)
                   .skip)))
              (.region false [⟨some 24, .mv (.tmp 8), none, []⟩,
                ⟨some 25, .bin .add (.tmp 24) (.const (.int .i64 1)), none, []⟩,
                ⟨some 8, .mv (.tmp 25), none, []⟩] [24, 25])))))))
       (.region false [⟨some 17, .mv (.tmp 7), none, []⟩,
         ⟨some 18, .bin .add (.tmp 17) (.const (.int .i64 1)), none, []⟩,
         ⟨some 7, .mv (.tmp 18), none, []⟩] [17, 18]))))))
  (.seq
   (.region false [⟨some 6, .mv (.const (.bool true)), none, []⟩] [])
  .ret))))
set_option maxRecDepth 100000 in
theorem kref02_filled : IsCode Try.prog 64 38 cref02_filled [.tmp 6] :=
  ⟨Try.f64, _, [37, 23, 16, 11, 0, 3, 7, 8, 1, 2, 6], Try.func64, rfl, by decide, rfl, by kernel_rfl, by kernel_rfl⟩
/-- ref02_from -/
def cref02_from : ACode :=
  (.seq
   (.region false [⟨some 6, .mv (.const (.bool false)), none, []⟩] [])
  (.seq
   (.region false [⟨some 7, .mv (.tmp 0), none, []⟩,
     ⟨some 8, .mv (.tmp 1), none, []⟩,
     ⟨some 9, .bin .geq (.tmp 7) (.tmp 8), none, []⟩,
     ⟨some 10, .mv (.tmp 9), none, []⟩,
     ⟨some 11, .mv (.tmp 0), (some (some 10, true)), []⟩,
     ⟨some 12, .mv (.tmp 2), (some (some 10, true)), []⟩,
     ⟨some 13, .bin .leq (.tmp 11) (.tmp 12), (some (some 10, true)), []⟩,
     ⟨some 14, .pick (.tmp 10) (.tmp 13) (.const (.bool false)), none, []⟩,
     ⟨some 6, .mv (.tmp 14), none, []⟩] [7, 8, 9, 10, 11, 12, 13, 14])
  .ret))
set_option maxRecDepth 100000 in
theorem kref02_from : IsCode Try.prog 66 15 cref02_from [.tmp 6] :=
  ⟨Try.f66, _, [0, 1, 2, 6], Try.func66, rfl, by decide, rfl, by kernel_rfl, by kernel_rfl⟩
/-- ref02_sameInts -/
def cref02_sameInts : ACode :=
  (.seq
   (.region false [⟨some 4, .mv (.const (.bool false)), none, []⟩] [])
  (.seq
   (.seq
    (.region false [⟨some 6, .mv (.tmp 0), none, []⟩,
      ⟨some 7, .len_ (.tmp 6), none, []⟩,
      ⟨some 8, .mv (.tmp 1), none, []⟩,
      ⟨some 9, .len_ (.tmp 8), none, []⟩,
      ⟨some 10, .bin .neq (.tmp 7) (.tmp 9), none, []⟩] [6, 7, 8, 9])
   (.cond (.tmp 10)
     (.seq
      (.region false [⟨some 4, .mv (.const (.bool false)), none, []⟩] [])
     .ret)
     .skip))
  (.seq
   (.seq
    (.region false [⟨some 5, .mv (.const (.int .i64 0)), none, []⟩] [])
   (.block 0
     (.loop
       (.seq
        (.seq
         (.region false [⟨some 11, .mv (.tmp 5), none, []⟩,
           ⟨some 12, .mv (.tmp 0), none, []⟩,
           ⟨some 13, .len_ (.tmp 12), none, []⟩,
           ⟨some 14, .bin .lss (.tmp 11) (.tmp 13), none, []⟩] [11, 12, 13])
        (.cond (.tmp 14)
          .skip
          (.exit 0)))
       (.seq
        (.block 1
          (.seq
           (.region true [⟨some 17, .mv (.tmp 0), none, []⟩,
             ⟨some 18, .mv (.tmp 5), none, []⟩,
             ⟨some 19, .iadS 1 (.tmp 17) (.tmp 18), none, [0, 1]⟩,
             ⟨some 20, .load1 (.tmp 19), none, [2, 0, 1]⟩,
             ⟨some 21, .mv (.tmp 1), none, []⟩,
             ⟨some 22, .mv (.tmp 5), none, []⟩,
             ⟨some 23, .iadS 1 (.tmp 21) (.tmp 22), none, [4, 5]⟩,
             ⟨some 24, .load1 (.tmp 23), none, [6, 4, 5]⟩,
             ⟨some 25, .bin .neq (.tmp 20) (.tmp 24), none, [3, 2, 0, 1, 7, 6, 4, 5]⟩] [17, 18, 19, 20, 21, 22, 23, 24])
          (.cond (.tmp 25)
            (.seq
             (.region false [⟨some 4, .mv (.const (.bool false)), none, []⟩] [])
            .ret)
            .skip)))
       (.region false [⟨some 15, .mv (.tmp 5), none, []⟩,
         ⟨some 16, .bin .add (.tmp 15) (.const (.int .i64 1)), none, []⟩,
         ⟨some 5, .mv (.tmp 16), none, []⟩] [15, 16]))))))
  (.seq
   (.region false [⟨some 4, .mv (.const (.bool true)), none, []⟩] [])
  .ret))))
set_option maxRecDepth 100000 in
theorem kref02_sameInts : IsCode Try.prog 65 26 cref02_sameInts [.tmp 4] :=
  ⟨Try.f65, _, [25, 14, 10, 0, 1, 5, 4], Try.func65, rfl, by decide, rfl, by kernel_rfl, by kernel_rfl⟩
/-- ref01_Valid -/
def cref01_Valid : ACode :=
  (.seq
   (.region false [⟨some 1, .box (.tmp 0), none, []⟩,
     ⟨some 2, .mv (.const (.bool false)), none, []⟩] [])
  (.seq
   (.region false [⟨some 3, .fad 0 (.tmp 1), none, []⟩,
     ⟨some 4, .load1 (.tmp 3), none, []⟩,
     ⟨some 5, .call (.func 43) [(.tmp 4), (.const (.int .i64 (-1000000))), (.const (.int .i64 1000000))], none, []⟩,
     ⟨some 6, .mv (.tmp 5), none, []⟩,
     ⟨some 7, .fad 1 (.tmp 1), (some (some 6, true)), []⟩,
     ⟨some 8, .load1 (.tmp 7), (some (some 6, true)), []⟩,
     ⟨some 9, .fad 0 (.tmp 1), (some (some 6, true)), []⟩,
     ⟨some 10, .load1 (.tmp 9), (some (some 6, true)), []⟩,
     ⟨some 11, .call (.func 43) [(.tmp 8), (.tmp 10), (.const (.int .i64 1000000))], (some (some 6, true)), []⟩,
     ⟨some 12, .pick (.tmp 6) (.tmp 11) (.const (.bool false)), none, []⟩,
     ⟨some 2, .mv (.tmp 12), none, []⟩] [3, 4, 5, 6, 7, 8, 9, 10, 11, 12])
  .ret))
set_option maxRecDepth 100000 in
theorem kref01_Valid : IsCode Try.prog 17 13 cref01_Valid [.tmp 2] :=
  ⟨Try.f17, _, [0, 1, 2], Try.func17, rfl, by decide, rfl, by kernel_rfl, by kernel_rfl⟩
/-- ref01_From -/
def cref01_From : ACode :=
  (.seq
   (.region false [⟨some 6, .mv (.const (.bool false)), none, []⟩] [])
  (.seq
   (.region false [⟨some 7, .mv (.tmp 0), none, []⟩,
     ⟨some 8, .mv (.tmp 1), none, []⟩,
     ⟨some 9, .bin .geq (.tmp 7) (.tmp 8), none, []⟩,
     ⟨some 10, .mv (.tmp 9), none, []⟩,
     ⟨some 11, .mv (.tmp 0), (some (some 10, true)), []⟩,
     ⟨some 12, .mv (.tmp 2), (some (some 10, true)), []⟩,
     ⟨some 13, .bin .leq (.tmp 11) (.tmp 12), (some (some 10, true)), []⟩,
     ⟨some 14, .pick (.tmp 10) (.tmp 13) (.const (.bool false)), none, []⟩,
     ⟨some 6, .mv (.tmp 14), none, []⟩] [7, 8, 9, 10, 11, 12, 13, 14])
  .ret))
set_option maxRecDepth 100000 in
theorem kref01_From : IsCode Try.prog 43 15 cref01_From [.tmp 6] :=
  ⟨Try.f43, _, [0, 1, 2, 6], Try.func43, rfl, by decide, rfl, by kernel_rfl, by kernel_rfl⟩
/-- top_TopFuel -/
def ctop_TopFuel : ACode :=
  (.seq
   (.region false [⟨some 2, .box (.tmp 0), none, []⟩,
     ⟨some 3, .box (.tmp 1), none, []⟩,
     ⟨some 4, .mv (.const (.bool false)), none, []⟩] [])
  (.seq
   (.seq
    (.region false [⟨some 10, .fad 0 (.tmp 2), none, []⟩,
      ⟨some 11, .fad 0 (.tmp 10), none, []⟩,
      ⟨some 12, .loadN 26 (.tmp 11), none, []⟩,
      ⟨some 13, .call (.func 7) [(.tmp 12)], none, []⟩,
      ⟨some 14, .mv (.tmp 13), none, []⟩,
      ⟨some 15, .fad 0 (.tmp 2), (some (some 14, false)), []⟩,
      ⟨some 16, .fad 0 (.tmp 15), (some (some 14, false)), []⟩,
      ⟨some 17, .loadN 26 (.tmp 16), (some (some 14, false)), []⟩,
      ⟨some 18, .fad 33 (.tmp 2), (some (some 14, false)), []⟩,
      ⟨some 19, .loadN 8 (.tmp 18), (some (some 14, false)), []⟩,
      ⟨some 20, .call (.func 8) [(.tmp 17), (.tmp 19)], (some (some 14, false)), []⟩,
      ⟨some 21, .bin .neq (.tmp 20) (.const (.int .i64 0)), (some (some 14, false)), []⟩,
      ⟨some 22, .pick (.tmp 14) (.const (.bool true)) (.tmp 21), none, []⟩,
      ⟨some 23, .mv (.tmp 22), none, []⟩,
      ⟨some 24, .fad 45 (.tmp 2), (some (some 23, false)), []⟩,
      ⟨some 25, .load1 (.tmp 24), (some (some 23, false)), []⟩,
      ⟨some 26, .len_ (.tmp 25), (some (some 23, false)), []⟩,
      ⟨some 27, .bin .gtr (.tmp 26) (.const (.int .i64 40)), (some (some 23, false)), []⟩,
      ⟨some 28, .pick (.tmp 23) (.const (.bool true)) (.tmp 27), none, []⟩,
      ⟨some 29, .mv (.tmp 28), none, []⟩,
      ⟨some 30, .fad 41 (.tmp 2), (some (some 29, false)), []⟩,
      ⟨some 31, .fad 3 (.tmp 30), (some (some 29, false)), []⟩,
      ⟨some 32, .load1 (.tmp 31), (some (some 29, false)), []⟩,
      ⟨some 33, .len_ (.tmp 32), (some (some 29, false)), []⟩,
      ⟨some 34, .bin .gtr (.tmp 33) (.const (.int .i64 10)), (some (some 29, false)), []⟩,
      ⟨some 35, .pick (.tmp 29) (.const (.bool true)) (.tmp 34), none, []⟩] [10, 11, 12, 13, 14, 15, 16, 17, 18, 19, 20, 21, 22, 23, 24, 25, 26, 27, 28, 29, 30, 31, 32, 33, 34])
   (.cond (.tmp 35)
     (.seq
      (.region false [⟨some 36, .call (.func 9) [], none, []⟩,
        ⟨some 4, .mv (.tmp 36), none, []⟩] [36])
     .ret)
     .skip))
  (.seq
   (.region false [⟨some 38, .loadN 47 (.tmp 2), none, []⟩,
     ⟨some 39, .fad 0 (.tmp 3), none, []⟩,
     ⟨some 40, .load1 (.tmp 39), none, []⟩,
     ⟨some 41, .call (.func 10) [(.tmp 38), (.tmp 40)], none, []⟩,
     ⟨some 37, .mv (.tmp 41), none, []⟩,
     ⟨some 42, .ext (.tmp 37) 0, none, []⟩,
     ⟨some 43, .ext (.tmp 37) 1, none, []⟩,
     ⟨some 5, .mv (.tmp 42), none, []⟩,
     ⟨some 6, .mv (.tmp 43), none, []⟩] [38, 39, 40, 41, 37, 42, 43])
  (.seq
   (.seq
    (.region false [⟨some 44, .mv (.tmp 6), none, []⟩,
      ⟨some 45, .bin .neq (.tmp 44) (.const (.int .i64 0)), none, []⟩] [44])
   (.cond (.tmp 45)
     (.seq
      (.region false [⟨some 46, .call (.func 9) [], none, []⟩,
        ⟨some 4, .mv (.tmp 46), none, []⟩] [46])
     .ret)
     .skip))
  (.seq
   (.region true [⟨some 47, .fad 33 (.tmp 2), none, []⟩,
     ⟨some 48, .fad 0 (.tmp 47), none, [0]⟩,
     ⟨some 49, .loadN 2 (.tmp 48), none, [1, 0]⟩,
     ⟨some 50, .fad 2 (.tmp 3), none, []⟩,
     ⟨some 51, .iadA 8 1 (.tmp 50) (.const (.int .i64 0)), none, [3]⟩,
     ⟨some 52, .load1 (.tmp 51), none, [4, 3]⟩,
     ⟨some 53, .fad 2 (.tmp 3), none, []⟩,
     ⟨some 54, .iadA 8 1 (.tmp 53) (.const (.int .i64 1)), none, [6]⟩,
     ⟨some 55, .load1 (.tmp 54), none, [7, 6]⟩,
     ⟨some 56, .call (.func 11) [(.tmp 49), (.tmp 52), (.tmp 55)], none, [2, 1, 0, 5, 4, 3, 8, 7, 6]⟩,
     ⟨some 57, .fad 33 (.tmp 2), none, []⟩,
     ⟨some 58, .fad 2 (.tmp 57), none, [10]⟩,
     ⟨some 59, .loadN 2 (.tmp 58), none, [11, 10]⟩,
     ⟨some 60, .fad 2 (.tmp 3), none, []⟩,
     ⟨some 61, .iadA 8 1 (.tmp 60) (.const (.int .i64 2)), none, [13]⟩,
     ⟨some 62, .load1 (.tmp 61), none, [14, 13]⟩,
     ⟨some 63, .fad 2 (.tmp 3), none, []⟩,
     ⟨some 64, .iadA 8 1 (.tmp 63) (.const (.int .i64 3)), none, [16]⟩,
     ⟨some 65, .load1 (.tmp 64), none, [17, 16]⟩,
     ⟨some 66, .call (.func 11) [(.tmp 59), (.tmp 62), (.tmp 65)], none, [12, 11, 10, 15, 14, 13, 18, 17, 16, 9, 2, 1, 0, 5, 4, 3, 8, 7, 6]⟩,
     ⟨some 67, .fad 33 (.tmp 2), none, []⟩,
     ⟨some 68, .fad 4 (.tmp 67), none, [20]⟩,
     ⟨some 69, .loadN 2 (.tmp 68), none, [21, 20]⟩,
     ⟨some 70, .fad 2 (.tmp 3), none, []⟩,
     ⟨some 71, .iadA 8 1 (.tmp 70) (.const (.int .i64 4)), none, [23]⟩,
     ⟨some 72, .load1 (.tmp 71), none, [24, 23]⟩,
     ⟨some 73, .fad 2 (.tmp 3), none, []⟩,
     ⟨some 74, .iadA 8 1 (.tmp 73) (.const (.int .i64 5)), none, [26]⟩,
     ⟨some 75, .load1 (.tmp 74), none, [27, 26]⟩,
     ⟨some 76, .call (.func 11) [(.tmp 69), (.tmp 72), (.tmp 75)], none, [22, 21, 20, 25, 24, 23, 28, 27, 26, 19, 12, 11, 10, 15, 14, 13, 18, 17, 16, 9, 2, 1, 0, 5, 4, 3, 8, 7, 6]⟩,
     ⟨some 77, .fad 33 (.tmp 2), none, []⟩,
     ⟨some 78, .fad 6 (.tmp 77), none, [30]⟩,
     ⟨some 79, .loadN 2 (.tmp 78), none, [31, 30]⟩,
     ⟨some 80, .fad 2 (.tmp 3), none, []⟩,
     ⟨some 81, .iadA 8 1 (.tmp 80) (.const (.int .i64 6)), none, [33]⟩,
     ⟨some 82, .load1 (.tmp 81), none, [34, 33]⟩,
     ⟨some 83, .fad 2 (.tmp 3), none, []⟩,
     ⟨some 84, .iadA 8 1 (.tmp 83) (.const (.int .i64 7)), none, [36]⟩,
     ⟨some 85, .load1 (.tmp 84), none, [37, 36]⟩,
     ⟨some 86, .call (.func 11) [(.tmp 79), (.tmp 82), (.tmp 85)], none, [32, 31, 30, 35, 34, 33, 38, 37, 36, 29, 22, 21, 20, 25, 24, 23, 28, 27, 26, 19, 12, 11, 10, 15, 14, 13, 18, 17, 16, 9, 2, 1, 0, 5, 4, 3, 8, 7, 6]⟩,
     ⟨some 87, .build [(.val (.int .i64 0)), (.val (.int .i64 0)), (.val (.int .i64 0)), (.val (.int .i64 0)), (.val (.int .i64 0)), (.val (.int .i64 0)), (.val (.int .i64 0)), (.val (.int .i64 0))] [(0, 2, (.tmp 56)), (2, 2, (.tmp 66)), (4, 2, (.tmp 76)), (6, 2, (.tmp 86))], none, [9, 2, 1, 0, 5, 4, 3, 8, 7, 6, 19, 12, 11, 10, 15, 14, 13, 18, 17, 16, 29, 22, 21, 20, 25, 24, 23, 28, 27, 26, 39, 32, 31, 30, 35, 34, 33, 38, 37, 36]⟩,
     ⟨some 7, .mem [(.val (.int .i64 0)), (.val (.int .i64 0)), (.val (.int .i64 0)), (.val (.int .i64 0)), (.val (.int .i64 0)), (.val (.int .i64 0)), (.val (.int .i64 0)), (.val (.int .i64 0))], none, []⟩,
     ⟨none, .store 8 (.tmp 7) (.tmp 87), none, [41, 40, 9, 2, 1, 0, 5, 4, 3, 8, 7, 6, 19, 12, 11, 10, 15, 14, 13, 18, 17, 16, 29, 22, 21, 20, 25, 24, 23, 28, 27, 26, 39, 32, 31, 30, 35, 34, 33, 38, 37, 36]⟩] [47, 48, 49, 50, 51, 52, 53, 54, 55, 56, 57, 58, 59, 60, 61, 62, 63, 64, 65, 66, 67, 68, 69, 70, 71, 72, 73, 74, 75, 76, 77, 78, 79, 80, 81, 82, 83, 84, 85, 86, 87])
  (.seq
   (.region true [⟨some 89, .fad 0 (.tmp 2), none, []⟩,
     ⟨some 90, .fad 0 (.tmp 89), none, [0]⟩,
     ⟨some 91, .loadN 26 (.tmp 90), none, [1, 0]⟩,
     ⟨some 92, .loadN 8 (.tmp 7), none, []⟩,
     ⟨some 93, .fad 0 (.tmp 3), none, []⟩,
     ⟨some 94, .load1 (.tmp 93), none, [4]⟩,
     ⟨some 95, .call (.func 13) [(.tmp 94)], none, [5, 4]⟩,
     ⟨some 96, .call (.func 12) [(.tmp 91), (.tmp 92), (.tmp 95)], none, [2, 1, 0, 3, 6, 5, 4]⟩,
     ⟨some 88, .mv (.tmp 96), none, [7, 2, 1, 0, 3, 6, 5, 4]⟩,
     ⟨some 97, .ext (.tmp 88) 0, none, [8, 7, 2, 1, 0, 3, 6, 5, 4]⟩,
     ⟨some 98, .ext (.tmp 88) 1, none, [8, 7, 2, 1, 0, 3, 6, 5, 4]⟩,
     ⟨some 8, .mem [(.val (.int .i64 0)), (.val (.int .i64 0))], none, []⟩,
     ⟨none, .store 2 (.tmp 8) (.tmp 97), none, [11, 9, 8, 7, 2, 1, 0, 3, 6, 5, 4]⟩,
     ⟨some 9, .mv (.tmp 98), none, [10, 8, 7, 2, 1, 0, 3, 6, 5, 4, 12, 11, 9]⟩] [89, 90, 91, 92, 93, 94, 95, 96, 88, 97, 98])
  (.seq
   (.seq
    (.region false [⟨some 99, .mv (.tmp 9), none, []⟩,
      ⟨some 100, .bin .neq (.tmp 99) (.const (.int .i64 0)), none, []⟩,
      ⟨some 101, .mv (.tmp 100), none, []⟩,
      ⟨some 102, .fad 1 (.tmp 8), (some (some 101, false)), []⟩,
      ⟨some 103, .load1 (.tmp 102), (some (some 101, false)), []⟩,
      ⟨some 104, .mv (.tmp 5), (some (some 101, false)), []⟩,
      ⟨some 105, .bin .gtr (.tmp 103) (.tmp 104), (some (some 101, false)), []⟩,
      ⟨some 106, .pick (.tmp 101) (.const (.bool true)) (.tmp 105), none, []⟩,
      ⟨some 107, .mv (.tmp 106), none, []⟩,
      ⟨some 108, .fad 0 (.tmp 8), (some (some 107, false)), []⟩,
      ⟨some 109, .load1 (.tmp 108), (some (some 107, false)), []⟩,
      ⟨some 110, .bin .lss (.tmp 109) (.const (.int .i64 0)), (some (some 107, false)), []⟩,
      ⟨some 111, .pick (.tmp 107) (.const (.bool true)) (.tmp 110), none, []⟩] [99, 100, 101, 102, 103, 104, 105, 106, 107, 108, 109, 110])
   (.cond (.tmp 111)
     (.seq
      (.region false [⟨some 4, .mv (.const (.bool false)), none, []⟩] [])
     .ret)
     .skip))
  (.seq
   (.seq
    (.region false [⟨some 112, .fad 1 (.tmp 3), none, []⟩,
      ⟨some 113, .load1 (.tmp 112), none, []⟩,
      ⟨some 114, .bin .lss (.tmp 113) (.const (.int .i64 0)), none, []⟩,
      ⟨some 115, .mv (.tmp 114), none, []⟩,
      ⟨some 116, .fad 1 (.tmp 3), (some (some 115, false)), []⟩,
      ⟨some 117, .load1 (.tmp 116), (some (some 115, false)), []⟩,
      ⟨some 118, .bin .gtr (.tmp 117) (.const (.int .i64 2000)), (some (some 115, false)), []⟩,
      ⟨some 119, .pick (.tmp 115) (.const (.bool true)) (.tmp 118), none, []⟩] [112, 113, 114, 115, 116, 117, 118])
   (.cond (.tmp 119)
     (.seq
      (.region false [⟨some 120, .call (.func 9) [], none, []⟩,
        ⟨some 4, .mv (.tmp 120), none, []⟩] [120])
     .ret)
     .skip))
  (.seq
   (.region false [⟨some 121, .fad 1 (.tmp 8), none, []⟩,
     ⟨some 122, .load1 (.tmp 121), none, []⟩,
     ⟨some 123, .fad 1 (.tmp 3), none, []⟩,
     ⟨some 124, .load1 (.tmp 123), none, []⟩,
     ⟨some 125, .bin .mul (.tmp 122) (.tmp 124), none, []⟩,
     ⟨some 126, .mv (.tmp 5), none, []⟩,
     ⟨some 127, .fad 1 (.tmp 3), none, []⟩,
     ⟨some 128, .load1 (.tmp 127), none, []⟩,
     ⟨some 129, .bin .mul (.tmp 126) (.tmp 128), none, []⟩,
     ⟨some 130, .bin .leq (.tmp 125) (.tmp 129), none, []⟩,
     ⟨some 131, .mv (.tmp 130), none, []⟩,
     ⟨some 132, .call (.func 9) [], (some (some 131, true)), []⟩,
     ⟨some 133, .pick (.tmp 131) (.tmp 132) (.const (.bool false)), none, []⟩,
     ⟨some 4, .mv (.tmp 133), none, []⟩] [121, 122, 123, 124, 125, 126, 127, 128, 129, 130, 131, 132, 133])
  .ret)))))))))
set_option maxRecDepth 100000 in
theorem ktop_TopFuel : IsCode Try.prog 3 134 ctop_TopFuel [.tmp 4] :=
  ⟨Try.f3, _, [119, 111, 45, 35, 0, 1, 2, 3, 6, 7, 9, 8, 5, 4], Try.func3, rfl, by decide, rfl, by kernel_rfl, by kernel_rfl⟩
/-- top_part -/
def ctop_part : ACode :=
  (.seq
   (.region false [⟨some 3, .box (.tmp 0), none, []⟩,
     ⟨some 6, .mem [(.val (.int .i64 0)), (.val (.int .i64 0))], none, []⟩] [])
  (.seq
   (.region true [⟨some 9, .mv (.tmp 1), none, []⟩,
     ⟨some 10, .loadN 2 (.tmp 3), none, []⟩,
     ⟨some 11, .call (.func 34) [(.tmp 9), (.tmp 10)], none, [0, 1]⟩,
     ⟨some 12, .mv (.tmp 2), none, []⟩,
     ⟨some 13, .loadN 2 (.tmp 3), none, []⟩,
     ⟨some 14, .call (.func 34) [(.tmp 12), (.tmp 13)], none, [3, 4, 2, 0, 1]⟩,
     ⟨some 7, .mv (.tmp 11), none, [2, 0, 1, 5, 3, 4]⟩,
     ⟨some 8, .mv (.tmp 14), none, [5, 3, 4, 2, 0, 1, 6]⟩] [9, 10, 11, 12, 13, 14])
  (.seq
   (.region false [⟨some 15, .mv (.tmp 7), none, []⟩,
     ⟨some 16, .mv (.tmp 8), none, []⟩,
     ⟨some 17, .mnx false [(.tmp 15), (.tmp 16)], none, []⟩,
     ⟨some 18, .mv (.tmp 7), none, []⟩,
     ⟨some 19, .mv (.tmp 8), none, []⟩,
     ⟨some 20, .mnx true [(.tmp 18), (.tmp 19)], none, []⟩,
     ⟨some 21, .build [(.val (.int .i64 0)), (.val (.int .i64 0))] [(0, 1, (.tmp 17)), (1, 1, (.tmp 20))], none, []⟩,
     ⟨none, .store 2 (.tmp 6) (.tmp 21), none, []⟩] [15, 16, 17, 18, 19, 20, 21])
  .ret)))
set_option maxRecDepth 100000 in
theorem ktop_part : IsCode Try.prog 11 22 ctop_part [.cellN 6 2] :=
  ⟨Try.f11, _, [0, 1, 3, 2, 7, 8, 6], Try.func11, rfl, by decide, rfl, by kernel_rfl, by kernel_rfl⟩
/-- top_within -/
def ctop_within : ACode :=
  (.seq
   (.region false [⟨some 3, .box (.tmp 1), none, []⟩,
     ⟨some 4, .mv (.const (.int .i64 0)), none, []⟩] [])
  (.seq
   (.region false [⟨some 6, .fad 1 (.tmp 3), none, []⟩,
     ⟨some 7, .load1 (.tmp 6), none, []⟩,
     ⟨some 8, .fad 0 (.tmp 3), none, []⟩,
     ⟨some 9, .load1 (.tmp 8), none, []⟩,
     ⟨some 10, .bin .sub (.tmp 7) (.tmp 9), none, []⟩,
     ⟨some 11, .bin .add (.tmp 10) (.const (.int .i64 1)), none, []⟩,
     ⟨some 5, .mv (.tmp 11), none, []⟩] [6, 7, 8, 9, 10, 11])
  (.seq
   (.region true [⟨some 12, .fad 0 (.tmp 3), none, []⟩,
     ⟨some 13, .load1 (.tmp 12), none, [0]⟩,
     ⟨some 14, .mv (.tmp 0), none, []⟩,
     ⟨some 15, .mv (.tmp 5), none, []⟩,
     ⟨some 16, .bin .rem (.tmp 14) (.tmp 15), none, [2, 3]⟩,
     ⟨some 17, .mv (.tmp 5), none, []⟩,
     ⟨some 18, .bin .add (.tmp 16) (.tmp 17), none, [4, 2, 3, 5]⟩,
     ⟨some 19, .mv (.tmp 5), none, []⟩,
     ⟨some 20, .bin .rem (.tmp 18) (.tmp 19), none, [6, 4, 2, 3, 5, 7]⟩,
     ⟨some 21, .bin .add (.tmp 13) (.tmp 20), none, [1, 0, 8, 6, 4, 2, 3, 5, 7]⟩,
     ⟨some 4, .mv (.tmp 21), none, [9, 1, 0, 8, 6, 4, 2, 3, 5, 7]⟩] [12, 13, 14, 15, 16, 17, 18, 19, 20, 21])
  .ret)))
set_option maxRecDepth 100000 in
theorem ktop_within : IsCode Try.prog 34 22 ctop_within [.tmp 4] :=
  ⟨Try.f34, _, [1, 3, 0, 5, 4], Try.func34, rfl, by decide, rfl, by kernel_rfl, by kernel_rfl⟩
/-- top_one -/
def ctop_one : ACode :=
  (.seq
   (.region false [⟨some 2, .mem [(.val (.int .i64 0)), (.val (.int .i64 0))], none, []⟩] [])
  (.seq
   (.region false [⟨some 3, .mv (.tmp 0), none, []⟩,
     ⟨some 4, .mv (.tmp 0), none, []⟩,
     ⟨some 5, .build [(.val (.int .i64 0)), (.val (.int .i64 0))] [(0, 1, (.tmp 3)), (1, 1, (.tmp 4))], none, []⟩,
     ⟨none, .store 2 (.tmp 2) (.tmp 5), none, []⟩] [3, 4, 5])
  .ret))
set_option maxRecDepth 100000 in
theorem ktop_one : IsCode Try.prog 13 6 ctop_one [.cellN 2 2] :=
  ⟨Try.f13, _, [0, 2], Try.func13, rfl, by decide, rfl, by kernel_rfl, by kernel_rfl⟩
end Go.Proofs.Ytgibbaadjbohdaa
/- rotor: Check. No conditions. -/
set_option linter.unusedSimpArgs false
set_option linter.unusedVariables false
namespace Go.Proofs.Ytgibbaadjbohdaa
open Go.RowKit Lift

structure Rot where
  a : Tb
  b : Tb
  c : Tb
  d : Tb
  e : Tb
  f : Tb
  g : Tb
  h : Tb
  cl : Int
  bu : Int
def rotC (r : Rot) : List D := [.list (ints r.a.x), .list (ints r.a.y), .list (rows r.a.v), .list (ints r.b.x), .list (ints r.b.y), .list (rows r.b.v), .list (ints r.c.x), .list (ints r.c.y), .list (rows r.c.v), .list (ints r.d.x), .list (ints r.d.y), .list (rows r.d.v), .list (ints r.e.x), .list (ints r.e.y), .list (rows r.e.v), .list (ints r.f.x), .list (ints r.f.y), .list (rows r.f.v), .list (ints r.g.x), .list (ints r.g.y), .list (rows r.g.v), .list (ints r.h.x), .list (ints r.h.y), .list (rows r.h.v), dI r.cl, dI r.bu]
def rotD (r : Rot) : D := .agg (rotC r)
theorem in_rotD (S : Nat → Prop) (r : Rot) : In S (rotD r) := .agg _ (wals_in rfl)
def tbK (r : Rot) : Nat → Tb
  | 0 => r.a
  | 1 => r.b
  | 2 => r.c
  | 3 => r.d
  | 4 => r.e
  | 5 => r.f
  | 6 => r.g
  | _ => r.h
def loK (k : Nat) : Int := if k = 7 then 1 else 0
def hiK (k : Nat) : Int := if k = 1 then 100 else if k = 0 ∨ k = 2 ∨ k = 3 then 100000 else 10000
def limL (r : Rot) : List (List D) := [limC r.a 0 100000, limC r.b 0 100, limC r.c 0 100000, limC r.d 0 100000, limC r.e 0 10000, limC r.f 0 10000, limC r.g 0 10000, limC r.h 1 10000]
theorem limL_gd (r : Rot) (k : Nat) (h : k < 8) : (limL r)[k]? = some (limC (tbK r k) (loK k) (hiK k)) := by
  rcases (by omega : k = 0 ∨ k = 1 ∨ k = 2 ∨ k = 3 ∨ k = 4 ∨ k = 5 ∨ k = 6 ∨ k = 7) with rfl | rfl | rfl | rfl | rfl | rfl | rfl | rfl <;> rfl
theorem limL_five (r : Rot) : ∀ e ∈ limL r, e.length = 5 := by intro e he; simp [limL] at he; rcases he with rfl | rfl | rfl | rfl | rfl | rfl | rfl | rfl <;> rfl
theorem limL_all (r : Rot) : (limL r).all (fun x => x.length == 5) = true := rfl
theorem limL_len (r : Rot) : (limL r).length = 8 := rfl
def RotSm (r : Rot) : Prop := ∀ k, k < 8 → TbSm (tbK r k)
structure RotOk (r : Rot) : Prop where
  lim : ∀ k, k < 8 → limB (tbK r k) (loK k) (hiK k) = true
  ex : r.f.x = r.g.x
  ey : r.f.y = r.g.y
  cl : wI r.cl 1 1000 = true
  bu : wI r.bu 1 1000 = true
  le : ∀ i, i < r.f.v.length → ∀ k, k < (r.f.v[i]?.getD []).length → iat (r.f.v[i]?.getD []) k ≤ iat (r.g.v[i]?.getD []) k
open Classical in
noncomputable def rotE (r : Rot) : Int := if RotOk r then 0 else 20
theorem rotE_ok {r : Rot} (h : RotOk r) : rotE r = 0 := if_pos h
theorem rotE_no {r : Rot} (h : ¬ RotOk r) : rotE r = 20 := if_neg h
theorem rotE_is {r : Rot} (h : rotE r = 0) : RotOk r := by
  by_cases h1 : RotOk r
  · exact h1
  · rw [rotE_no h1] at h; cases h
theorem limB_tbl {t : Tb} {lo hi : Int} (h : limB t lo hi = true) : Tbl t.x t.y t.v := by
  unfold limB at h
  rw [Bool.and_eq_true] at h
  have h1 := of_decide_eq_true h.1
  unfold tabErr at h1
  refine tbl_of ?_
  by_cases hb : tabB t.x t.y t.v = true
  · exact hb
  · rw [if_neg hb] at h1; cases h1
theorem limB_val {t : Tb} {lo hi : Int} (h : limB t lo hi = true) (k j : Nat) (hk : k < t.v.length) (hj : j < (t.v[k]?.getD []).length) : lo ≤ iat (t.v[k]?.getD []) j ∧ iat (t.v[k]?.getD []) j ≤ hi := by
  unfold limB at h
  rw [Bool.and_eq_true] at h
  have h1 := List.all_eq_true.1 h.2 _ (List.getElem_mem hk)
  have e : t.v[k]?.getD [] = t.v[k] := by simp [hk]
  rw [e] at hj ⊢
  exact allI_get h1 j hj
set_option maxRecDepth 100000 in
set_option maxHeartbeats 2000000 in
theorem roEqual_ac (a b : List Int) (ha : a.length ≤ 1000000) (hb : b.length ≤ 1000000) : AC Try.prog 144 [.list (ints a), .list (ints b)] [] [] (dB (decide (a = b))) := by
  refine kslices_Equal_L_L_Jint_Kint_J.ac (n0 := 0) (by simp) ⟨.list _, .list _, trivial⟩ trivial rfl ?_
  unfold cslices_Equal_L_L_Jint_Kint_J
  have al := ints_len a
  have bl := ints_len b
  by_cases hl : a.length = b.length
  case neg =>
    have q : ((a.length : Int) != (b.length : Int)) = true := by simp only [bne_iff_ne, ne_eq]; omega
    rw [decide_eq_false (fun h => hl (by rw [h]))]
    (have hg : (987654321 : Nat) - 987654321 = 0 := rfl; have hr := hg; repeat' (first | refine aw_seq ?_ | (refine aw_skip ?_; with_reducible repeat' (first | refine thenQ_n ?_ | refine blockQ_n ?_ | refine thenQ_e ?_ | refine blockQ_t ?_ | refine blockQ_f (by decide) ?_)) | (refine aw_exit ?_; with_reducible repeat' (first | refine thenQ_n ?_ | refine blockQ_n ?_ | refine thenQ_e ?_ | refine blockQ_t ?_ | refine blockQ_f (by decide) ?_)) | refine aw_ret ?_ | refine aw_block ?_ | refine aw_condT rfl ?_ | refine aw_condF rfl ?_ | ((first | refine aw_hide fun K hK => aw_region ?_ | refine ago_if (by omega) ?_ | skip); simp (config := {maxSteps := 10000000}) (disch := first | exact okYes (by kernel_rfl) | omega) only [List.length, Nat.zero_add, Nat.reduceMul, envOf, ARun_none, AOpRun, aexec, FSt.ev, AGo_ok, St.app, putO, eput_c, Nat.reduceBEq, eput_n, cond_false, hups, List.map, ARun_nil, dropE_c, inL_n, dropE_n, Nat.reduceAdd, St.F, ↓eget_h, eget_c, al, bl, isSh, Bool.false_eq_true, ↓reduceIte, Option.map, abin, q, inL_c, beq_self_eq_true, cond_true, thenQ, dB]) | (subst hK; with_reducible repeat' (first | refine thenQ_n ?_ | refine blockQ_n ?_ | refine thenQ_e ?_ | refine blockQ_t ?_ | refine blockQ_f (by decide) ?_))))
    all_goals (refine end_to [] [] (by first | exact .inl rfl | exact .inr rfl) rfl (by kernel_rfl) (by kernel_rfl) (by kernel_rfl) ?_ ?_ <;> repeat' (first | exact trivial | exact vr_val _))
  have q : ((a.length : Int) != (b.length : Int)) = false := by simp only [bne_eq_false_iff_eq]; omega
  (have hg : (987654321 : Nat) - 987654321 = 0 := rfl; have hr := hg; repeat' (first | refine aw_seq ?_ | (refine aw_skip ?_; with_reducible repeat' (first | refine thenQ_n ?_ | refine blockQ_n ?_ | refine thenQ_e ?_ | refine blockQ_t ?_ | refine blockQ_f (by decide) ?_)) | (refine aw_exit ?_; with_reducible repeat' (first | refine thenQ_n ?_ | refine blockQ_n ?_ | refine thenQ_e ?_ | refine blockQ_t ?_ | refine blockQ_f (by decide) ?_)) | refine aw_ret ?_ | refine aw_block ?_ | refine aw_condT rfl ?_ | refine aw_condF rfl ?_ | ((first | refine aw_hide fun K hK => aw_region ?_ | refine ago_if (by omega) ?_ | skip); simp (config := {maxSteps := 10000000}) (disch := first | exact okYes (by kernel_rfl) | omega) only [List.length, Nat.zero_add, Nat.reduceMul, envOf, ARun_none, AOpRun, aexec, FSt.ev, AGo_ok, St.app, putO, eput_c, Nat.reduceBEq, eput_n, cond_false, hups, List.map, ARun_nil, dropE_c, inL_n, dropE_n, Nat.reduceAdd, St.F, ↓eget_h, eget_c, al, bl, isSh, Bool.false_eq_true, ↓reduceIte, Option.map, abin, q, inL_c, beq_self_eq_true, cond_true, dB]) | (subst hK; with_reducible repeat' (first | refine thenQ_n ?_ | refine blockQ_n ?_ | refine thenQ_e ?_ | refine blockQ_t ?_ | refine blockQ_f (by decide) ?_))))
  refine aw_loop (fun k : Nat => ⟨[(0, .list (ints a)), (1, .list (ints b)), (12, dI a.length), (13, dI k)], [], 400⟩) (fun k => k ≤ a.length ∧ ∀ j, j < k → iat a j = iat b j) (fun k => a.length - k) ⟨0, ⟨by omega, fun j hj => by omega⟩, ?_⟩ ?_
  · refine wk_to [] [] (by kernel_rfl) (by kernel_rfl) (by kernel_rfl) (by kernel_rfl) (by kernel_rfl) ?_ ?_ <;> repeat' (first | exact trivial | exact vr_val _ | exact vr_list _ | apply And.intro)
  rintro k ⟨hk, hin⟩
  by_cases hk2 : k < a.length
  case neg =>
    obtain rfl : k = a.length := by omega
    have e : a = b := by
      refine List.ext_getElem hl fun j h1 h2 => ?_
      have := hin j h1
      simpa [iat, h1, h2] using this
    rw [decide_eq_true e]
    (have hg : (987654321 : Nat) - 987654321 = 0 := rfl; have hr := hg; repeat' (first | refine aw_seq ?_ | (refine aw_skip ?_; with_reducible repeat' (first | refine thenQ_n ?_ | refine blockQ_n ?_ | refine thenQ_e ?_ | refine blockQ_t ?_ | refine blockQ_f (by decide) ?_)) | (refine aw_exit ?_; with_reducible repeat' (first | refine thenQ_n ?_ | refine blockQ_n ?_ | refine thenQ_e ?_ | refine blockQ_t ?_ | refine blockQ_f (by decide) ?_)) | refine aw_ret ?_ | refine aw_block ?_ | refine aw_condT rfl ?_ | refine aw_condF rfl ?_ | (refine aw_cond rfl (fun hg => ?_) (fun hg => ?_) <;> (try (have hq := hg; simp only [Bool.not_eq_true', Bool.not_eq_false', Bool.and_eq_true, Bool.and_eq_false_iff, Bool.or_eq_true, Bool.or_eq_false_iff, decide_eq_true_eq, decide_eq_false_iff_not, bne_iff_ne, beq_iff_eq, beq_eq_false_iff_ne, bne_eq_false_iff_eq, ne_eq, Int.not_lt, Int.not_le, Decidable.not_not] at hq)) <;> (try (have hr := hg; simp only [decide_eq_true_eq, decide_eq_false_iff_not] at hr)) <;> (try (exfalso; omega))) | ((first | refine aw_hide fun K hK => aw_region ?_ | refine ago_if (by omega) ?_ | skip); simp (config := {maxSteps := 10000000}) (disch := first | exact okYes (by kernel_rfl) | omega) only [List.length, Nat.zero_add, Nat.reduceMul, Nat.reduceAdd, dI, ARun_none, AOpRun, aexec, FSt.ev, St.F, eget_c, Nat.reduceBEq, ↓eget_h, cond_false, isSh, Bool.false_eq_true, ↓reduceIte, Option.map, abin, AGo_ok, St.app, putO, eput_c, eput_n, hups, List.map, ARun_nil, dropE_c, inL_n, dropE_n, hr, decide_false]) | (subst hK; with_reducible repeat' (first | refine thenQ_n ?_ | refine blockQ_n ?_ | refine thenQ_e ?_ | refine blockQ_t ?_ | refine blockQ_f (by decide) ?_))))
    all_goals (refine end_to [] [] (by first | exact .inl rfl | exact .inr rfl) rfl (by kernel_rfl) (by kernel_rfl) (by kernel_rfl) ?_ ?_ <;> repeat' (first | exact trivial | exact vr_val _))
  have ag := ints_all a
  have bg := ints_all b
  have g1 := ints_gd a k hk2
  have g2 := ints_gd b k (by omega)
  rw [show a[k]?.getD 0 = iat a k from rfl] at g1
  rw [show b[k]?.getD 0 = iat b k from rfl] at g2
  have ki : (k : Int) < (a.length : Int) := by omega
  have kb : (k : Int) < (b.length : Int) := by omega
  cases he : (iat a k != iat b k) with
  | true =>
    rw [decide_eq_false (fun h => by rw [h] at he; simp at he)]
    (have hg : (987654321 : Nat) - 987654321 = 0 := rfl; have hr := hg; repeat' (first | refine aw_seq ?_ | (refine aw_skip ?_; with_reducible repeat' (first | refine thenQ_n ?_ | refine blockQ_n ?_ | refine thenQ_e ?_ | refine blockQ_t ?_ | refine blockQ_f (by decide) ?_)) | (refine aw_exit ?_; with_reducible repeat' (first | refine thenQ_n ?_ | refine blockQ_n ?_ | refine thenQ_e ?_ | refine blockQ_t ?_ | refine blockQ_f (by decide) ?_)) | refine aw_ret ?_ | refine aw_block ?_ | refine aw_condT rfl ?_ | refine aw_condF rfl ?_ | ((first | refine aw_hide fun K hK => aw_region ?_ | refine ago_if (by omega) ?_ | skip); simp (config := {maxSteps := 10000000}) (disch := first | exact okYes (by kernel_rfl) | omega) only [List.length, Nat.zero_add, Nat.reduceMul, Nat.reduceAdd, dI, ARun_none, AOpRun, aexec, FSt.ev, St.F, eget_c, Nat.reduceBEq, ↓eget_h, cond_false, isSh, Bool.false_eq_true, ↓reduceIte, Option.map, abin, ki, decide_true, AGo_ok, St.app, putO, eput_c, eput_n, hups, List.map, ARun_nil, dropE_c, inL_n, dropE_n, inL_c, beq_self_eq_true, cond_true, Int.natCast_nonneg, ag, and_self, opt1, Int.toNat_natCast, g1, run1, List.getElem?_cons_zero, bg, g2, he, blockQ, thenQ]) | (subst hK; with_reducible repeat' (first | refine thenQ_n ?_ | refine blockQ_n ?_ | refine thenQ_e ?_ | refine blockQ_t ?_ | refine blockQ_f (by decide) ?_))))
    all_goals (refine end_to [] [] (by first | exact .inl rfl | exact .inr rfl) rfl (by kernel_rfl) (by kernel_rfl) (by kernel_rfl) ?_ ?_ <;> repeat' (first | exact trivial | exact vr_val _))
  | false =>
    (have hg : (987654321 : Nat) - 987654321 = 0 := rfl; have hr := hg; repeat' (first | refine aw_seq ?_ | (refine aw_skip ?_; with_reducible repeat' (first | refine thenQ_n ?_ | refine blockQ_n ?_ | refine thenQ_e ?_ | refine blockQ_t ?_ | refine blockQ_f (by decide) ?_)) | (refine aw_exit ?_; with_reducible repeat' (first | refine thenQ_n ?_ | refine blockQ_n ?_ | refine thenQ_e ?_ | refine blockQ_t ?_ | refine blockQ_f (by decide) ?_)) | refine aw_ret ?_ | refine aw_block ?_ | refine aw_condT rfl ?_ | refine aw_condF rfl ?_ | ((first | refine aw_hide fun K hK => aw_region ?_ | refine ago_if (by omega) ?_ | skip); simp (config := {maxSteps := 10000000}) (disch := first | exact okYes (by kernel_rfl) | omega) only [List.length, Nat.zero_add, Nat.reduceMul, Nat.reduceAdd, dI, ARun_none, AOpRun, aexec, FSt.ev, St.F, eget_c, Nat.reduceBEq, ↓eget_h, cond_false, isSh, Bool.false_eq_true, ↓reduceIte, Option.map, abin, ki, decide_true, AGo_ok, St.app, putO, eput_c, eput_n, hups, List.map, ARun_nil, dropE_c, inL_n, dropE_n, inL_c, beq_self_eq_true, cond_true, Int.natCast_nonneg, ag, and_self, opt1, Int.toNat_natCast, g1, run1, List.getElem?_cons_zero, bg, g2, he, fits]) | (subst hK; with_reducible repeat' (first | refine thenQ_n ?_ | refine blockQ_n ?_ | refine thenQ_e ?_ | refine blockQ_t ?_ | refine blockQ_f (by decide) ?_))))
    refine ⟨k + 1, ⟨by omega, fun j hj => ?_⟩, by omega, ?_⟩
    · rcases (by omega : j < k ∨ j = k) with h | rfl
      · exact hin j h
      · simpa using he
    · refine wk_to [] [] (by kernel_rfl) (by kernel_rfl) (by kernel_rfl) (by kernel_rfl) (by kernel_rfl) ?_ ?_ <;> repeat' (first | exact trivial | exact vr_val _ | exact vr_list _ | apply And.intro)
set_option maxRecDepth 100000 in
set_option maxHeartbeats 8000000 in
theorem roCheck_ac (r : Rot) (hs : RotSm r) : AC Try.prog 119 [rotD r] [] [] (dI (rotE r)) := by
  refine krotor_Check.ac (n0 := 0) (by simp) ⟨in_rotD _ _, trivial⟩ trivial rfl ?_
  have rt := fun k hk => right_ac (tbK r k) (loK k) (hiK k) (hs k hk)
  have hgd := limL_gd r
  have hll := limL_len r
  have hla := limL_all r
  have hsf : TbSm r.f := hs 5 (by omega)
  have hsg : TbSm r.g := hs 6 (by omega)
  have hno : ∀ {k}, k < 8 → limB (tbK r k) (loK k) (hiK k) = false → rotE r = 20 := fun hk h => rotE_no fun ho => by rw [ho.lim _ hk] at h; cases h
  unfold crotor_Check rotD rotC
  refine aw_seq (aw_region ?_)
  simp (config := {maxSteps := 10000000}) (disch := first | exact okYes (by kernel_rfl) | omega) only [thenQ, List.map, dI, List.length, Nat.zero_add, Nat.reduceAdd, Nat.reduceMul, envOf, ARun_none, AOpRun, aexec, D.isBot, FSt.ev, St.F, ↓eget_h, Bool.false_eq_true, Option.isSome, hget_n, or_self, ↓reduceIte, D.cells, AGo_ok, St.app, putO, eput_c, Nat.reduceBEq, eput_n, cond_false, hups, hput_n, ARun_nil, dropE_c, inL_n, dropE_n]
  refine aw_seq (aw_seq (aw_region ?_))
  simp (config := {maxSteps := 10000000}) (disch := first | exact okYes (by kernel_rfl) | omega) only [thenQ, List.length, Nat.zero_add, Nat.reduceAdd, Nat.reduceMul, ARun_none, AOpRun, aexec, FSt.ev, St.F, eget_c, Nat.reduceBEq, ↓eget_h, cond_false, AGo_ok, St.app, putO, eput_c, eput_n, hups, List.map, hget_c, beq_self_eq_true, hget_n, cond_true, Nat.reduceLeDiff, ↓reduceIte, List.drop, List.take, Option.map, fillD, D.isBot, Bool.false_eq_true, D.cells, ne_eq, not_true_eq_false, Nat.reduceGT, or_self, splice, List.nil_append, List.cons_append, List.append_nil, Option.isSome, hput_c, hput_n, cast_lit, ARun_nil, dropE_c, inL_c, inL_n, dropE_n]
  refine aw_wk (s' := ⟨[(1, .ptr 0 0), (35, .list (limL r)), (36, dI (8 : Nat)), (37, dI (0 : Nat))], [(0, [.list (ints r.a.x), .list (ints r.a.y), .list (rows r.a.v), .list (ints r.b.x), .list (ints r.b.y), .list (rows r.b.v), .list (ints r.c.x), .list (ints r.c.y), .list (rows r.c.v), .list (ints r.d.x), .list (ints r.d.y), .list (rows r.d.v), .list (ints r.e.x), .list (ints r.e.y), .list (rows r.e.v), .list (ints r.f.x), .list (ints r.f.y), .list (rows r.f.v), .list (ints r.g.x), .list (ints r.g.y), .list (rows r.g.v), .list (ints r.h.x), .list (ints r.h.y), .list (rows r.h.v), dI r.cl, dI r.bu])], 400⟩) ?_ ?_
  · unfold dI
    refine wk_to [208] [(0, 0)] (by kernel_rfl) (by kernel_rfl) (by kernel_rfl) (by kernel_rfl) (by kernel_rfl) ?_ ?_ <;> repeat' (first | exact trivial | exact vr_val _ | exact vr_list _ | exact vr_ptr _ _ _ rfl | refine vr_fl _ _ _ _ _ (by decide) rfl ?_ ?_ ?_ ?_ | refine And.intro ⟨_, rfl, .inl ⟨_, rfl, by decide, ?_⟩⟩ ?_ | apply And.intro)
    all_goals first | exact limL_five _ | rfl | exact wals_in rfl
  refine aw_block (aw_loop (fun k : Nat => ⟨[(1, .ptr 0 0), (35, .list (limL r)), (36, dI (8 : Nat)), (37, dI k)], [(0, [.list (ints r.a.x), .list (ints r.a.y), .list (rows r.a.v), .list (ints r.b.x), .list (ints r.b.y), .list (rows r.b.v), .list (ints r.c.x), .list (ints r.c.y), .list (rows r.c.v), .list (ints r.d.x), .list (ints r.d.y), .list (rows r.d.v), .list (ints r.e.x), .list (ints r.e.y), .list (rows r.e.v), .list (ints r.f.x), .list (ints r.f.y), .list (rows r.f.v), .list (ints r.g.x), .list (ints r.g.y), .list (rows r.g.v), .list (ints r.h.x), .list (ints r.h.y), .list (rows r.h.v), dI r.cl, dI r.bu])], 400⟩) (fun k => k ≤ 8 ∧ ∀ j, j < k → limB (tbK r j) (loK j) (hiK j) = true) (fun k => 8 - k) ⟨0, ⟨by omega, fun j hj => by omega⟩, ?_⟩ ?_)
  · unfold dI
    refine wk_to [] [(0, 0)] (by kernel_rfl) (by kernel_rfl) (by kernel_rfl) (by kernel_rfl) (by kernel_rfl) ?_ ?_ <;> repeat' (first | exact trivial | exact vr_val _ | exact vr_list _ | exact vr_ptr _ _ _ rfl | refine And.intro ⟨_, rfl, .inl ⟨_, rfl, by decide, ?_⟩⟩ ?_ | apply And.intro)
  rintro k ⟨hk, hin⟩
  by_cases hk2 : k < 8
  case pos =>
    have rk := rt k hk2
    have g1 := hgd k hk2
    have ki : (k : Int) < ((8 : Nat) : Int) := by omega
    have ki8 : (k : Int) < 8 := by omega
    have hstep : limB (tbK r k) (loK k) (hiK k) = true → ∀ j, j < k + 1 → limB (tbK r j) (loK j) (hiK j) = true := fun h j hj => by
      rcases (by omega : j < k ∨ j = k) with h1 | rfl
      · exact hin j h1
      · exact h
    have hn := fun h => hno hk2 h
    generalize limL r = LL at *
    generalize tbK r k = t at *
    generalize loK k = lo0 at *
    generalize hiK k = hi0 at *
    clear rt hgd hin hsf hsg hs
    unfold limC at *
    cases hb : limB t lo0 hi0 with
    | false =>
      rw [hb] at rk
      rw [hn hb]
      (have hg : (987654321 : Nat) - 987654321 = 0 := rfl; have hr := hg; repeat' (first | refine aw_seq ?_ | (refine aw_skip ?_; with_reducible repeat' (first | refine thenQ_n ?_ | refine blockQ_n ?_ | refine thenQ_e ?_ | refine blockQ_t ?_ | refine blockQ_f (by decide) ?_)) | (refine aw_exit ?_; with_reducible repeat' (first | refine thenQ_n ?_ | refine blockQ_n ?_ | refine thenQ_e ?_ | refine blockQ_t ?_ | refine blockQ_f (by decide) ?_)) | refine aw_ret ?_ | refine aw_block ?_ | refine aw_condT rfl ?_ | refine aw_condF rfl ?_ | ((first | refine aw_hide fun K hK => aw_region ?_ | refine acall0 (rk) ?_ | refine ago_if (by omega) ?_ | skip); simp (config := {maxSteps := 10000000}) (disch := first | exact okYes (by kernel_rfl) | omega) only [List.length, Nat.zero_add, Nat.reduceMul, Nat.reduceAdd, dI, cast_lit, ARun_none, AOpRun, aexec, FSt.ev, St.F, eget_c, Nat.reduceBEq, ↓eget_h, cond_false, isSh, Bool.false_eq_true, ↓reduceIte, Option.map, abin, ki8, decide_true, AGo_ok, St.app, putO, eput_c, eput_n, hups, List.map, ARun_nil, dropE_c, inL_n, dropE_n, Int.natCast_nonneg, hla, and_self, opt1, Int.toNat_natCast, g1, Nat.reduceLeDiff, List.take, Option.isSome, hget_c, hget_n, hput_c, hput_n, ↓hget_h, D.isBot, D.cells, List.all, D.leaf, Bool.and_true, splice, List.nil_append, List.drop, List.append_nil, beq_self_eq_true, cond_true, inL_c, dB, Bool.not_false, blockQ, thenQ]) | (subst hK; with_reducible repeat' (first | refine thenQ_n ?_ | refine blockQ_n ?_ | refine thenQ_e ?_ | refine blockQ_t ?_ | refine blockQ_f (by decide) ?_))))
      all_goals (refine end_to [] [] (by first | exact .inl rfl | exact .inr rfl) rfl (by kernel_rfl) (by kernel_rfl) (by kernel_rfl) ?_ ?_ <;> repeat' (first | exact trivial | exact vr_val _))
    | true =>
      rw [hb] at rk
      (have hg : (987654321 : Nat) - 987654321 = 0 := rfl; have hr := hg; repeat' (first | refine aw_seq ?_ | (refine aw_skip ?_; with_reducible repeat' (first | refine thenQ_n ?_ | refine blockQ_n ?_ | refine thenQ_e ?_ | refine blockQ_t ?_ | refine blockQ_f (by decide) ?_)) | (refine aw_exit ?_; with_reducible repeat' (first | refine thenQ_n ?_ | refine blockQ_n ?_ | refine thenQ_e ?_ | refine blockQ_t ?_ | refine blockQ_f (by decide) ?_)) | refine aw_ret ?_ | refine aw_block ?_ | refine aw_condT rfl ?_ | refine aw_condF rfl ?_ | ((first | refine aw_hide fun K hK => aw_region ?_ | refine acall0 (rk) ?_ | refine ago_if (by omega) ?_ | skip); simp (config := {maxSteps := 10000000}) (disch := first | exact okYes (by kernel_rfl) | omega) only [List.length, Nat.zero_add, Nat.reduceMul, Nat.reduceAdd, dI, cast_lit, ARun_none, AOpRun, aexec, FSt.ev, St.F, eget_c, Nat.reduceBEq, ↓eget_h, cond_false, isSh, Bool.false_eq_true, ↓reduceIte, Option.map, abin, ki8, decide_true, AGo_ok, St.app, putO, eput_c, eput_n, hups, List.map, ARun_nil, dropE_c, inL_n, dropE_n, Int.natCast_nonneg, hla, and_self, opt1, Int.toNat_natCast, g1, Nat.reduceLeDiff, List.take, Option.isSome, hget_c, hget_n, hput_c, hput_n, ↓hget_h, D.isBot, D.cells, List.all, D.leaf, Bool.and_true, splice, List.nil_append, List.drop, List.append_nil, beq_self_eq_true, cond_true, inL_c, dB, Bool.not_true, fits]) | (subst hK; with_reducible repeat' (first | refine thenQ_n ?_ | refine blockQ_n ?_ | refine thenQ_e ?_ | refine blockQ_t ?_ | refine blockQ_f (by decide) ?_))))
      refine ⟨k + 1, ⟨by omega, hstep hb⟩, by omega, ?_⟩
      refine wk_to [] [(0, 0)] (by kernel_rfl) (by kernel_rfl) (by kernel_rfl) (by kernel_rfl) (by kernel_rfl) ?_ ?_ <;> repeat' (first | exact trivial | exact vr_val _ | exact vr_list _ | exact vr_ptr _ _ _ rfl | refine And.intro ⟨_, rfl, .inl ⟨_, rfl, by decide, ?_⟩⟩ ?_ | apply And.intro)
  obtain rfl : k = 8 := by omega
  clear rt hgd hll hla
  have tf : Tbl r.f.x r.f.y r.f.v := limB_tbl (hin 5 (by omega))
  have tg : Tbl r.g.x r.g.y r.g.v := limB_tbl (hin 6 (by omega))
  have ce := roEqual_ac r.f.x r.g.x (by have := hsf.1; omega) (by have := hsg.1; omega)
  have cf := roEqual_ac r.f.y r.g.y (by have := hsf.2.1; omega) (by have := hsg.2.1; omega)
  have c1 := roWithin_ac r.cl 1 1000
  have c2 := roWithin_ac r.bu 1 1000
  by_cases ex : r.f.x = r.g.x
  case neg =>
    rw [rotE_no fun h => ex h.ex]
    rw [decide_eq_false ex] at ce
    (have hg : (987654321 : Nat) - 987654321 = 0 := rfl; have hr := hg; repeat' (first | refine aw_seq ?_ | (refine aw_skip ?_; with_reducible repeat' (first | refine thenQ_n ?_ | refine blockQ_n ?_ | refine thenQ_e ?_ | refine blockQ_t ?_ | refine blockQ_f (by decide) ?_)) | (refine aw_exit ?_; with_reducible repeat' (first | refine thenQ_n ?_ | refine blockQ_n ?_ | refine thenQ_e ?_ | refine blockQ_t ?_ | refine blockQ_f (by decide) ?_)) | refine aw_ret ?_ | refine aw_block ?_ | refine aw_condT rfl ?_ | refine aw_condF rfl ?_ | ((first | refine aw_hide fun K hK => aw_region ?_ | refine acall0 (ce) ?_ | refine ago_if (by omega) ?_ | skip); simp (config := {maxSteps := 10000000}) (disch := first | exact okYes (by kernel_rfl) | omega) only [List.length, Nat.zero_add, Nat.reduceMul, Nat.reduceAdd, dI, cast_lit, ARun_none, AOpRun, aexec, FSt.ev, St.F, eget_c, Nat.reduceBEq, ↓eget_h, cond_false, isSh, Bool.false_eq_true, ↓reduceIte, Option.map, abin, Int.reduceLT, decide_false, AGo_ok, St.app, putO, eput_c, eput_n, hups, List.map, ARun_nil, dropE_c, inL_n, dropE_n, hget_c, beq_self_eq_true, hget_n, cond_true, Nat.reduceLeDiff, List.drop, List.take, Option.isSome, hput_c, hput_n, ↓hget_h, D.isBot, D.cells, List.all, D.leaf, Bool.and_true, and_self, splice, List.nil_append, List.append_nil, inL_c, run1, List.getElem?_cons_zero, dB, Bool.not_false, ARun_some, AG_tf, thenQ]) | (subst hK; with_reducible repeat' (first | refine thenQ_n ?_ | refine blockQ_n ?_ | refine thenQ_e ?_ | refine blockQ_t ?_ | refine blockQ_f (by decide) ?_))))
    all_goals (refine end_to [] [] (by first | exact .inl rfl | exact .inr rfl) rfl (by kernel_rfl) (by kernel_rfl) (by kernel_rfl) ?_ ?_ <;> repeat' (first | exact trivial | exact vr_val _))
  rw [decide_eq_true ex] at ce
  by_cases ey : r.f.y = r.g.y
  case neg =>
    rw [rotE_no fun h => ey h.ey]
    rw [decide_eq_false ey] at cf
    (have hg : (987654321 : Nat) - 987654321 = 0 := rfl; have hr := hg; repeat' (first | refine aw_seq ?_ | (refine aw_skip ?_; with_reducible repeat' (first | refine thenQ_n ?_ | refine blockQ_n ?_ | refine thenQ_e ?_ | refine blockQ_t ?_ | refine blockQ_f (by decide) ?_)) | (refine aw_exit ?_; with_reducible repeat' (first | refine thenQ_n ?_ | refine blockQ_n ?_ | refine thenQ_e ?_ | refine blockQ_t ?_ | refine blockQ_f (by decide) ?_)) | refine aw_ret ?_ | refine aw_block ?_ | refine aw_condT rfl ?_ | refine aw_condF rfl ?_ | ((first | refine aw_hide fun K hK => aw_region ?_ | refine acall0 (ce) ?_ | refine acall0 (cf) ?_ | refine ago_if (by omega) ?_ | skip); simp (config := {maxSteps := 10000000}) (disch := first | exact okYes (by kernel_rfl) | omega) only [List.length, Nat.zero_add, Nat.reduceMul, Nat.reduceAdd, dI, cast_lit, ARun_none, AOpRun, aexec, FSt.ev, St.F, eget_c, Nat.reduceBEq, ↓eget_h, cond_false, isSh, Bool.false_eq_true, ↓reduceIte, Option.map, abin, Int.reduceLT, decide_false, AGo_ok, St.app, putO, eput_c, eput_n, hups, List.map, ARun_nil, dropE_c, inL_n, dropE_n, hget_c, beq_self_eq_true, hget_n, cond_true, Nat.reduceLeDiff, List.drop, List.take, Option.isSome, hput_c, hput_n, ↓hget_h, D.isBot, D.cells, List.all, D.leaf, Bool.and_true, and_self, splice, List.nil_append, List.append_nil, inL_c, run1, List.getElem?_cons_zero, dB, Bool.not_true, ARun_some, AG_ff, List.getElem?_cons_succ, Bool.not_false, AG_tf, thenQ]) | (subst hK; with_reducible repeat' (first | refine thenQ_n ?_ | refine blockQ_n ?_ | refine thenQ_e ?_ | refine blockQ_t ?_ | refine blockQ_f (by decide) ?_))))
    all_goals (refine end_to [] [] (by first | exact .inl rfl | exact .inr rfl) rfl (by kernel_rfl) (by kernel_rfl) (by kernel_rfl) ?_ ?_ <;> repeat' (first | exact trivial | exact vr_val _))
  rw [decide_eq_true ey] at cf
  cases q1 : wI r.cl 1 1000 with
  | false =>
    rw [rotE_no fun h => by rw [h.cl] at q1; cases q1]
    rw [q1] at c1
    (have hg : (987654321 : Nat) - 987654321 = 0 := rfl; have hr := hg; repeat' (first | refine aw_seq ?_ | (refine aw_skip ?_; with_reducible repeat' (first | refine thenQ_n ?_ | refine blockQ_n ?_ | refine thenQ_e ?_ | refine blockQ_t ?_ | refine blockQ_f (by decide) ?_)) | (refine aw_exit ?_; with_reducible repeat' (first | refine thenQ_n ?_ | refine blockQ_n ?_ | refine thenQ_e ?_ | refine blockQ_t ?_ | refine blockQ_f (by decide) ?_)) | refine aw_ret ?_ | refine aw_block ?_ | refine aw_condT rfl ?_ | refine aw_condF rfl ?_ | ((first | refine aw_hide fun K hK => aw_region ?_ | refine acall0 (ce) ?_ | refine acall0 (cf) ?_ | refine acall0 (c1) ?_ | refine ago_if (by omega) ?_ | skip); simp (config := {maxSteps := 10000000}) (disch := first | exact okYes (by kernel_rfl) | omega) only [List.length, Nat.zero_add, Nat.reduceMul, Nat.reduceAdd, dI, cast_lit, ARun_none, AOpRun, aexec, FSt.ev, St.F, eget_c, Nat.reduceBEq, ↓eget_h, cond_false, isSh, Bool.false_eq_true, ↓reduceIte, Option.map, abin, Int.reduceLT, decide_false, AGo_ok, St.app, putO, eput_c, eput_n, hups, List.map, ARun_nil, dropE_c, inL_n, dropE_n, hget_c, beq_self_eq_true, hget_n, cond_true, Nat.reduceLeDiff, List.drop, List.take, Option.isSome, hput_c, hput_n, ↓hget_h, D.isBot, D.cells, List.all, D.leaf, Bool.and_true, and_self, splice, List.nil_append, List.append_nil, inL_c, run1, List.getElem?_cons_zero, dB, Bool.not_true, ARun_some, AG_ff, List.getElem?_cons_succ, Bool.not_false, AG_tf, thenQ]) | (subst hK; with_reducible repeat' (first | refine thenQ_n ?_ | refine blockQ_n ?_ | refine thenQ_e ?_ | refine blockQ_t ?_ | refine blockQ_f (by decide) ?_))))
    all_goals (refine end_to [] [] (by first | exact .inl rfl | exact .inr rfl) rfl (by kernel_rfl) (by kernel_rfl) (by kernel_rfl) ?_ ?_ <;> repeat' (first | exact trivial | exact vr_val _))
  | true =>
  rw [q1] at c1
  cases q2 : wI r.bu 1 1000 with
  | false =>
    rw [rotE_no fun h => by rw [h.bu] at q2; cases q2]
    rw [q2] at c2
    (have hg : (987654321 : Nat) - 987654321 = 0 := rfl; have hr := hg; repeat' (first | refine aw_seq ?_ | (refine aw_skip ?_; with_reducible repeat' (first | refine thenQ_n ?_ | refine blockQ_n ?_ | refine thenQ_e ?_ | refine blockQ_t ?_ | refine blockQ_f (by decide) ?_)) | (refine aw_exit ?_; with_reducible repeat' (first | refine thenQ_n ?_ | refine blockQ_n ?_ | refine thenQ_e ?_ | refine blockQ_t ?_ | refine blockQ_f (by decide) ?_)) | refine aw_ret ?_ | refine aw_block ?_ | refine aw_condT rfl ?_ | refine aw_condF rfl ?_ | ((first | refine aw_hide fun K hK => aw_region ?_ | refine acall0 (ce) ?_ | refine acall0 (cf) ?_ | refine acall0 (c1) ?_ | refine acall0 (c2) ?_ | refine ago_if (by omega) ?_ | skip); simp (config := {maxSteps := 10000000}) (disch := first | exact okYes (by kernel_rfl) | omega) only [List.length, Nat.zero_add, Nat.reduceMul, Nat.reduceAdd, dI, cast_lit, ARun_none, AOpRun, aexec, FSt.ev, St.F, eget_c, Nat.reduceBEq, ↓eget_h, cond_false, isSh, Bool.false_eq_true, ↓reduceIte, Option.map, abin, Int.reduceLT, decide_false, AGo_ok, St.app, putO, eput_c, eput_n, hups, List.map, ARun_nil, dropE_c, inL_n, dropE_n, hget_c, beq_self_eq_true, hget_n, cond_true, Nat.reduceLeDiff, List.drop, List.take, Option.isSome, hput_c, hput_n, ↓hget_h, D.isBot, D.cells, List.all, D.leaf, Bool.and_true, and_self, splice, List.nil_append, List.append_nil, inL_c, run1, List.getElem?_cons_zero, dB, Bool.not_true, ARun_some, AG_ff, List.getElem?_cons_succ, Bool.not_false, thenQ]) | (subst hK; with_reducible repeat' (first | refine thenQ_n ?_ | refine blockQ_n ?_ | refine thenQ_e ?_ | refine blockQ_t ?_ | refine blockQ_f (by decide) ?_))))
    all_goals (refine end_to [] [] (by first | exact .inl rfl | exact .inr rfl) rfl (by kernel_rfl) (by kernel_rfl) (by kernel_rfl) ?_ ?_ <;> repeat' (first | exact trivial | exact vr_val _))
  | true =>
  rw [q2] at c2
  have fl := rows_len r.f.v
  have fa := rows_all r.f.v
  have gl := rows_len r.g.v
  have ga := rows_all r.g.v
  have hfg : r.g.v.length = r.f.v.length := by rw [tg.len, tf.len, ex]
  have hrow : ∀ i, i < r.f.v.length → (r.g.v[i]?.getD []).length = (r.f.v[i]?.getD []).length := fun i hi => by rw [tg.row i (by omega), tf.row i hi, ey]
  have hyes : (∀ i, i < r.f.v.length → ∀ k, k < (r.f.v[i]?.getD []).length → iat (r.f.v[i]?.getD []) k ≤ iat (r.g.v[i]?.getD []) k) → rotE r = 0 := fun hle => rotE_ok ⟨hin, ex, ey, q1, q2, hle⟩
  have hnot : (¬ ∀ i, i < r.f.v.length → ∀ k, k < (r.f.v[i]?.getD []).length → iat (r.f.v[i]?.getD []) k ≤ iat (r.g.v[i]?.getD []) k) → rotE r = 20 := fun hle => rotE_no fun h => hle h.le
  have hfr := hsf.row
  clear hin hno hs hsg
  (have hg : (987654321 : Nat) - 987654321 = 0 := rfl; have hr := hg; repeat' (first | refine aw_seq ?_ | (refine aw_skip ?_; with_reducible repeat' (first | refine thenQ_n ?_ | refine blockQ_n ?_ | refine thenQ_e ?_ | refine blockQ_t ?_ | refine blockQ_f (by decide) ?_)) | (refine aw_exit ?_; with_reducible repeat' (first | refine thenQ_n ?_ | refine blockQ_n ?_ | refine thenQ_e ?_ | refine blockQ_t ?_ | refine blockQ_f (by decide) ?_)) | refine aw_ret ?_ | refine aw_block ?_ | refine aw_condT rfl ?_ | refine aw_condF rfl ?_ | ((first | refine aw_hide fun K hK => aw_region ?_ | refine acall0 (ce) ?_ | refine acall0 (cf) ?_ | refine acall0 (c1) ?_ | refine acall0 (c2) ?_ | refine ago_if (by omega) ?_ | skip); simp (config := {maxSteps := 10000000}) (disch := first | exact okYes (by kernel_rfl) | omega) only [List.length, Nat.zero_add, Nat.reduceMul, Nat.reduceAdd, dI, cast_lit, ARun_none, AOpRun, aexec, FSt.ev, St.F, eget_c, Nat.reduceBEq, ↓eget_h, cond_false, isSh, Bool.false_eq_true, ↓reduceIte, Option.map, abin, Int.reduceLT, decide_false, AGo_ok, St.app, putO, eput_c, eput_n, hups, List.map, ARun_nil, dropE_c, inL_n, dropE_n, hget_c, beq_self_eq_true, hget_n, cond_true, Nat.reduceLeDiff, List.drop, List.take, Option.isSome, hput_c, hput_n, ↓hget_h, D.isBot, D.cells, List.all, D.leaf, Bool.and_true, and_self, splice, List.nil_append, List.append_nil, inL_c, run1, List.getElem?_cons_zero, dB, Bool.not_true, ARun_some, AG_ff, List.getElem?_cons_succ, fl]) | (subst hK; with_reducible repeat' (first | refine thenQ_n ?_ | refine blockQ_n ?_ | refine thenQ_e ?_ | refine blockQ_t ?_ | refine blockQ_f (by decide) ?_))))
  refine aw_wk (s' := ⟨[(6, .ptr 8 0), (76, .list (rows r.f.v)), (77, dI r.f.v.length), (78, dI (0 : Nat))], [(8, [.list (ints r.g.x), .list (ints r.g.y), .list (rows r.g.v)])], 600⟩) ?_ ?_
  · unfold dI
    refine wk_to [] [(8, 448)] (by kernel_rfl) (by kernel_rfl) (by kernel_rfl) (by kernel_rfl) (by kernel_rfl) ?_ ?_ <;> repeat' (first | exact trivial | exact vr_val _ | exact vr_list _ | exact vr_ptr _ _ _ rfl | refine And.intro ⟨_, rfl, .inl ⟨_, rfl, by decide, ?_⟩⟩ ?_ | apply And.intro)
  clear ce cf c1 c2
  have hfvl := hsf.2.2.1
  generalize r.f.v = fv at *
  generalize r.g.v = gv at *
  refine aw_loop (fun i : Nat => ⟨[(6, .ptr 8 0), (76, .list (rows fv)), (77, dI fv.length), (78, dI i)], [(8, [.list (ints r.g.x), .list (ints r.g.y), .list (rows gv)])], 1000⟩) (fun i => i ≤ fv.length ∧ ∀ j, j < i → ∀ k, k < (fv[j]?.getD []).length → iat (fv[j]?.getD []) k ≤ iat (gv[j]?.getD []) k) (fun i => fv.length - i) ⟨0, ⟨by omega, fun j hj => by omega⟩, ?_⟩ ?_
  · unfold dI
    refine wk_to [] [(8, 8)] (by kernel_rfl) (by kernel_rfl) (by kernel_rfl) (by kernel_rfl) (by kernel_rfl) ?_ ?_ <;> repeat' (first | exact trivial | exact vr_val _ | exact vr_list _ | exact vr_ptr _ _ _ rfl | refine And.intro ⟨_, rfl, .inl ⟨_, rfl, by decide, ?_⟩⟩ ?_ | apply And.intro)
  rintro i ⟨hi, hout⟩
  by_cases hi2 : i < fv.length
  case neg =>
    obtain rfl : i = fv.length := by omega
    rw [hyes hout]
    (have hg : (987654321 : Nat) - 987654321 = 0 := rfl; have hr := hg; repeat' (first | refine aw_seq ?_ | (refine aw_skip ?_; with_reducible repeat' (first | refine thenQ_n ?_ | refine blockQ_n ?_ | refine thenQ_e ?_ | refine blockQ_t ?_ | refine blockQ_f (by decide) ?_)) | (refine aw_exit ?_; with_reducible repeat' (first | refine thenQ_n ?_ | refine blockQ_n ?_ | refine thenQ_e ?_ | refine blockQ_t ?_ | refine blockQ_f (by decide) ?_)) | refine aw_ret ?_ | refine aw_block ?_ | refine aw_condT rfl ?_ | refine aw_condF rfl ?_ | (refine aw_cond rfl (fun hg => ?_) (fun hg => ?_) <;> (try (have hq := hg; simp only [Bool.not_eq_true', Bool.not_eq_false', Bool.and_eq_true, Bool.and_eq_false_iff, Bool.or_eq_true, Bool.or_eq_false_iff, decide_eq_true_eq, decide_eq_false_iff_not, bne_iff_ne, beq_iff_eq, beq_eq_false_iff_ne, bne_eq_false_iff_eq, ne_eq, Int.not_lt, Int.not_le, Decidable.not_not] at hq)) <;> (try (have hr := hg; simp only [decide_eq_true_eq, decide_eq_false_iff_not] at hr)) <;> (try (exfalso; omega))) | ((first | refine aw_hide fun K hK => aw_region ?_ | refine ago_if (by omega) ?_ | skip); simp (config := {maxSteps := 10000000}) (disch := first | exact okYes (by kernel_rfl) | omega) only [List.length, Nat.zero_add, Nat.reduceMul, Nat.reduceAdd, dI, ARun_none, AOpRun, aexec, FSt.ev, St.F, eget_c, Nat.reduceBEq, ↓eget_h, cond_false, isSh, Bool.false_eq_true, ↓reduceIte, Option.map, abin, AGo_ok, St.app, putO, eput_c, eput_n, hups, List.map, ARun_nil, dropE_c, inL_n, dropE_n, hr, decide_false]) | (subst hK; with_reducible repeat' (first | refine thenQ_n ?_ | refine blockQ_n ?_ | refine thenQ_e ?_ | refine blockQ_t ?_ | refine blockQ_f (by decide) ?_))))
    all_goals (refine end_to [] [] (by first | exact .inl rfl | exact .inr rfl) rfl (by kernel_rfl) (by kernel_rfl) (by kernel_rfl) ?_ ?_ <;> repeat' (first | exact trivial | exact vr_val _))
  have ki : (i : Int) < (fv.length : Int) := by omega
  have kig : (i : Int) < (gv.length : Int) := by omega
  have g1 := rows_gd fv i hi2
  have g2 := rows_gd gv i (by omega)
  have hrl := hrow i hi2
  have hnot2 : ∀ k, k < (fv[i]?.getD []).length → ¬ iat (fv[i]?.getD []) k ≤ iat (gv[i]?.getD []) k → rotE r = 20 := fun k hk hn => hnot fun hle => hn (hle i hi2 k hk)
  have hstep : (∀ k, k < (fv[i]?.getD []).length → iat (fv[i]?.getD []) k ≤ iat (gv[i]?.getD []) k) → ∀ j, j < i + 1 → ∀ k, k < (fv[j]?.getD []).length → iat (fv[j]?.getD []) k ≤ iat (gv[j]?.getD []) k := fun h j hj => by
    rcases (by omega : j < i ∨ j = i) with h1 | rfl
    · exact hout j h1
    · exact h
  have hrb := hfr i
  clear hout hyes hnot hrow
  generalize fv[i]?.getD [] = p at *
  generalize gv[i]?.getD [] = q at *
  have pl := ints_len p
  have pg := ints_all p
  have ql := ints_len q
  have qg := ints_all q
  (have hg : (987654321 : Nat) - 987654321 = 0 := rfl; have hr := hg; repeat' (first | refine aw_seq ?_ | (refine aw_skip ?_; with_reducible repeat' (first | refine thenQ_n ?_ | refine blockQ_n ?_ | refine thenQ_e ?_ | refine blockQ_t ?_ | refine blockQ_f (by decide) ?_)) | (refine aw_exit ?_; with_reducible repeat' (first | refine thenQ_n ?_ | refine blockQ_n ?_ | refine thenQ_e ?_ | refine blockQ_t ?_ | refine blockQ_f (by decide) ?_)) | refine aw_ret ?_ | refine aw_block ?_ | refine aw_condT rfl ?_ | refine aw_condF rfl ?_ | ((first | refine aw_hide fun K hK => aw_region ?_ | refine ago_if (by omega) ?_ | skip); simp (config := {maxSteps := 10000000}) (disch := first | exact okYes (by kernel_rfl) | omega) only [List.length, Nat.zero_add, Nat.reduceMul, Nat.reduceAdd, dI, ARun_none, AOpRun, aexec, FSt.ev, St.F, eget_c, Nat.reduceBEq, ↓eget_h, cond_false, isSh, Bool.false_eq_true, ↓reduceIte, Option.map, abin, ki, decide_true, AGo_ok, St.app, putO, eput_c, eput_n, hups, List.map, ARun_nil, dropE_c, inL_n, dropE_n, Int.natCast_nonneg, fa, and_self, opt1, Int.toNat_natCast, g1, run1, List.getElem?_cons_zero, inL_c, beq_self_eq_true, cond_true, pl]) | (subst hK; with_reducible repeat' (first | refine thenQ_n ?_ | refine blockQ_n ?_ | refine thenQ_e ?_ | refine blockQ_t ?_ | refine blockQ_f (by decide) ?_))))
  refine aw_loop (fun k : Nat => ⟨[(6, .ptr 8 0), (7, dI i), (76, .list (rows fv)), (77, dI fv.length), (78, dI i), (83, .list (ints p)), (84, dI p.length), (85, dI k)], [(8, [.list (ints r.g.x), .list (ints r.g.y), .list (rows gv)])], 3000⟩) (fun k => k ≤ p.length ∧ ∀ j, j < k → iat p j ≤ iat q j) (fun k => p.length - k) ⟨0, ⟨by omega, fun j hj => by omega⟩, ?_⟩ ?_
  · unfold dI
    refine wk_to [] [(8, 8)] (by kernel_rfl) (by kernel_rfl) (by kernel_rfl) (by kernel_rfl) (by kernel_rfl) ?_ ?_ <;> repeat' (first | exact trivial | exact vr_val _ | exact vr_list _ | exact vr_ptr _ _ _ rfl | refine And.intro ⟨_, rfl, .inl ⟨_, rfl, by decide, ?_⟩⟩ ?_ | apply And.intro)
  rintro k ⟨hk, hin⟩
  by_cases hk2 : k < p.length
  case neg =>
    obtain rfl : k = p.length := by omega
    (have hg : (987654321 : Nat) - 987654321 = 0 := rfl; have hr := hg; repeat' (first | refine aw_seq ?_ | (refine aw_skip ?_; with_reducible repeat' (first | refine thenQ_n ?_ | refine blockQ_n ?_ | refine thenQ_e ?_ | refine blockQ_t ?_ | refine blockQ_f (by decide) ?_)) | (refine aw_exit ?_; with_reducible repeat' (first | refine thenQ_n ?_ | refine blockQ_n ?_ | refine thenQ_e ?_ | refine blockQ_t ?_ | refine blockQ_f (by decide) ?_)) | refine aw_ret ?_ | refine aw_block ?_ | refine aw_condT rfl ?_ | refine aw_condF rfl ?_ | (refine aw_cond rfl (fun hg => ?_) (fun hg => ?_) <;> (try (have hq := hg; simp only [Bool.not_eq_true', Bool.not_eq_false', Bool.and_eq_true, Bool.and_eq_false_iff, Bool.or_eq_true, Bool.or_eq_false_iff, decide_eq_true_eq, decide_eq_false_iff_not, bne_iff_ne, beq_iff_eq, beq_eq_false_iff_ne, bne_eq_false_iff_eq, ne_eq, Int.not_lt, Int.not_le, Decidable.not_not] at hq)) <;> (try (have hr := hg; simp only [decide_eq_true_eq, decide_eq_false_iff_not] at hr)) <;> (try (exfalso; omega))) | ((first | refine aw_hide fun K hK => aw_region ?_ | refine ago_if (by omega) ?_ | skip); simp (config := {maxSteps := 10000000}) (disch := first | exact okYes (by kernel_rfl) | omega) only [List.length, Nat.zero_add, Nat.reduceMul, Nat.reduceAdd, dI, ARun_none, AOpRun, aexec, FSt.ev, St.F, eget_c, Nat.reduceBEq, ↓eget_h, cond_false, isSh, Bool.false_eq_true, ↓reduceIte, Option.map, abin, AGo_ok, St.app, putO, eput_c, eput_n, hups, List.map, ARun_nil, dropE_c, inL_n, dropE_n, hr, decide_false, fits, beq_self_eq_true, cond_true, inL_c]) | (subst hK; with_reducible repeat' (first | refine thenQ_n ?_ | refine blockQ_n ?_ | refine thenQ_e ?_ | refine blockQ_t ?_ | refine blockQ_f (by decide) ?_))))
    refine ⟨i + 1, ⟨by omega, hstep hin⟩, by omega, ?_⟩
    refine wk_to [] [(8, 8)] (by kernel_rfl) (by kernel_rfl) (by kernel_rfl) (by kernel_rfl) (by kernel_rfl) ?_ ?_ <;> repeat' (first | exact trivial | exact vr_val _ | exact vr_list _ | exact vr_ptr _ _ _ rfl | refine And.intro ⟨_, rfl, .inl ⟨_, rfl, by decide, ?_⟩⟩ ?_ | apply And.intro)
  have g3 := ints_gd p k hk2
  have g4 := ints_gd q k (by omega)
  rw [show p[k]?.getD 0 = iat p k from rfl] at g3
  rw [show q[k]?.getD 0 = iat q k from rfl] at g4
  have kk : (k : Int) < (p.length : Int) := by omega
  have kq : (k : Int) < (q.length : Int) := by omega
  cases q5 : decide (iat p k > iat q k) with
  | true =>
    rw [hnot2 k hk2 (by have := of_decide_eq_true q5; omega)]
    (have hg : (987654321 : Nat) - 987654321 = 0 := rfl; have hr := hg; repeat' (first | refine aw_seq ?_ | (refine aw_skip ?_; with_reducible repeat' (first | refine thenQ_n ?_ | refine blockQ_n ?_ | refine thenQ_e ?_ | refine blockQ_t ?_ | refine blockQ_f (by decide) ?_)) | (refine aw_exit ?_; with_reducible repeat' (first | refine thenQ_n ?_ | refine blockQ_n ?_ | refine thenQ_e ?_ | refine blockQ_t ?_ | refine blockQ_f (by decide) ?_)) | refine aw_ret ?_ | refine aw_block ?_ | refine aw_condT rfl ?_ | refine aw_condF rfl ?_ | ((first | refine aw_hide fun K hK => aw_region ?_ | refine ago_if (by omega) ?_ | skip); simp (config := {maxSteps := 10000000}) (disch := first | exact okYes (by kernel_rfl) | omega) only [List.length, Nat.zero_add, Nat.reduceMul, Nat.reduceAdd, dI, ARun_none, AOpRun, aexec, FSt.ev, St.F, eget_c, Nat.reduceBEq, ↓eget_h, cond_false, isSh, Bool.false_eq_true, ↓reduceIte, Option.map, abin, kk, decide_true, AGo_ok, St.app, putO, eput_c, eput_n, hups, List.map, ARun_nil, dropE_c, inL_n, dropE_n, Int.natCast_nonneg, pg, and_self, opt1, Int.toNat_natCast, g3, run1, List.getElem?_cons_zero, inL_c, beq_self_eq_true, cond_true, hget_c, hget_n, List.getElem?_cons_succ, ga, g2, qg, g4, q5, blockQ, thenQ]) | (subst hK; with_reducible repeat' (first | refine thenQ_n ?_ | refine blockQ_n ?_ | refine thenQ_e ?_ | refine blockQ_t ?_ | refine blockQ_f (by decide) ?_))))
    all_goals (refine end_to [] [] (by first | exact .inl rfl | exact .inr rfl) rfl (by kernel_rfl) (by kernel_rfl) (by kernel_rfl) ?_ ?_ <;> repeat' (first | exact trivial | exact vr_val _))
  | false =>
    have hs2 : ∀ j, j < k + 1 → iat p j ≤ iat q j := fun j hj => by
      rcases (by omega : j < k ∨ j = k) with h | rfl
      · exact hin j h
      · have := of_decide_eq_false q5; omega
    (have hg : (987654321 : Nat) - 987654321 = 0 := rfl; have hr := hg; repeat' (first | refine aw_seq ?_ | (refine aw_skip ?_; with_reducible repeat' (first | refine thenQ_n ?_ | refine blockQ_n ?_ | refine thenQ_e ?_ | refine blockQ_t ?_ | refine blockQ_f (by decide) ?_)) | (refine aw_exit ?_; with_reducible repeat' (first | refine thenQ_n ?_ | refine blockQ_n ?_ | refine thenQ_e ?_ | refine blockQ_t ?_ | refine blockQ_f (by decide) ?_)) | refine aw_ret ?_ | refine aw_block ?_ | refine aw_condT rfl ?_ | refine aw_condF rfl ?_ | ((first | refine aw_hide fun K hK => aw_region ?_ | refine ago_if (by omega) ?_ | skip); simp (config := {maxSteps := 10000000}) (disch := first | exact okYes (by kernel_rfl) | omega) only [List.length, Nat.zero_add, Nat.reduceMul, Nat.reduceAdd, dI, ARun_none, AOpRun, aexec, FSt.ev, St.F, eget_c, Nat.reduceBEq, ↓eget_h, cond_false, isSh, Bool.false_eq_true, ↓reduceIte, Option.map, abin, kk, decide_true, AGo_ok, St.app, putO, eput_c, eput_n, hups, List.map, ARun_nil, dropE_c, inL_n, dropE_n, Int.natCast_nonneg, pg, and_self, opt1, Int.toNat_natCast, g3, run1, List.getElem?_cons_zero, inL_c, beq_self_eq_true, cond_true, hget_c, hget_n, List.getElem?_cons_succ, ga, g2, qg, g4, q5, fits]) | (subst hK; with_reducible repeat' (first | refine thenQ_n ?_ | refine blockQ_n ?_ | refine thenQ_e ?_ | refine blockQ_t ?_ | refine blockQ_f (by decide) ?_))))
    refine ⟨k + 1, ⟨by omega, hs2⟩, by omega, ?_⟩
    refine wk_to [] [(8, 8)] (by kernel_rfl) (by kernel_rfl) (by kernel_rfl) (by kernel_rfl) (by kernel_rfl) ?_ ?_ <;> repeat' (first | exact trivial | exact vr_val _ | exact vr_list _ | exact vr_ptr _ _ _ rfl | refine And.intro ⟨_, rfl, .inl ⟨_, rfl, by decide, ?_⟩⟩ ?_ | apply And.intro)
end Go.Proofs.Ytgibbaadjbohdaa
