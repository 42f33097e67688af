/- Texts of the law TopHeard, part 12. No conditions. -/
import Derived.Test.YtgibbaadjbohdaaPTopHeard11
import Derived.Test.YtgibbaadjbohdaaRows
/- The functions' bodies, translated. Written by a program; no conditions. -/
namespace Go.Proofs.Ytgibbaadjbohdaa
open Go.RowKit Lift

/-- health_Measure -/
def chealth_Measure : ACode :=
  (.seq
   (.region false [⟨some 6, .mem [(.val (.int .i64 0)), (.val (.int .i64 0)), (.val (.int .i64 0)), (.val (.int .i64 0))], none, []⟩,
     ⟨some 7, .mv (.const (.int .i64 0)), none, []⟩] [])
  (.seq
   (.region false [⟨some 14, .mv (.tmp 0), none, []⟩,
     ⟨some 15, .mv (.tmp 2), none, []⟩,
     ⟨some 16, .call (.func 58) [(.tmp 14), (.tmp 15)], none, []⟩,
     ⟨some 13, .mv (.tmp 16), none, []⟩,
     ⟨some 17, .ext (.tmp 13) 0, none, []⟩,
     ⟨some 18, .ext (.tmp 13) 1, none, []⟩,
     ⟨some 8, .mem [(.val (.slice none 0 0)), (.val (.int .i64 0))], none, []⟩,
     ⟨none, .store 2 (.tmp 8) (.tmp 17), none, []⟩,
     ⟨some 9, .mv (.tmp 18), none, []⟩] [14, 15, 16, 13, 17, 18])
  (.seq
   (.seq
    (.region false [⟨some 19, .mv (.tmp 9), none, []⟩,
      ⟨some 20, .un .not (.tmp 19), none, []⟩,
      ⟨some 21, .mv (.tmp 20), none, []⟩,
      ⟨some 22, .mv (.tmp 1), (some (some 21, false)), []⟩,
      ⟨some 23, .call (.func 59) [(.tmp 22), (.const (.int .i64 1)), (.const (.int .i64 1000000))], (some (some 21, false)), []⟩,
      ⟨some 24, .un .not (.tmp 23), (some (some 21, false)), []⟩,
      ⟨some 25, .pick (.tmp 21) (.const (.bool true)) (.tmp 24), none, []⟩] [19, 20, 21, 22, 23, 24])
   (.cond (.tmp 25)
     (.seq
      (.region false [⟨some 26, .loadN 4 (.tmp 6), none, []⟩,
        ⟨none, .store 4 (.tmp 6) (.tmp 26), none, []⟩,
        ⟨some 7, .mv (.const (.int .i64 1)), none, []⟩] [26])
     .ret)
     .skip))
  (.seq
   (.region false [⟨some 27, .mv (.tmp 1), none, []⟩,
     ⟨some 28, .mv (.tmp 2), none, []⟩,
     ⟨some 29, .bin .mul (.tmp 27) (.tmp 28), none, []⟩,
     ⟨some 30, .fad 3 (.tmp 6), none, []⟩,
     ⟨none, .store 1 (.tmp 30) (.tmp 29), none, []⟩] [27, 28, 29, 30])
  (.seq
   (.seq
    (.region false [⟨some 31, .loadN 2 (.tmp 8), none, []⟩,
      ⟨some 32, .call (.func 60) [(.tmp 31)], none, []⟩,
      ⟨some 33, .len_ (.tmp 32), none, []⟩,
      ⟨some 34, .mv (.const (.int .i64 0)), none, []⟩] [31])
   (.block 0
     (.loop
       (.seq
        (.region false [⟨some 35, .bin .lss (.tmp 34) (.tmp 33), none, []⟩] [])
       (.seq
        (.cond (.tmp 35)
          .skip
          (.exit 0))
       (.seq
        (.block 1
          (.seq
           (.region false [⟨some 36, .iadS 1 (.tmp 32) (.tmp 34), none, []⟩,
             ⟨some 37, .load1 (.tmp 36), none, []⟩,
             ⟨some 11, .mv (.tmp 37), none, []⟩] [36, 37])
          (.seq
           (.region false [⟨some 38, .mv (.tmp 11), none, []⟩,
             ⟨some 39, .mv (.tmp 11), none, []⟩,
             ⟨some 40, .un .neg (.tmp 39), none, []⟩,
             ⟨some 41, .mnx true [(.tmp 38), (.tmp 40)], none, []⟩,
             ⟨some 12, .mv (.tmp 41), none, []⟩] [38, 39, 40, 41])
          (.seq
           (.region false [⟨some 42, .fad 0 (.tmp 6), none, []⟩,
             ⟨some 43, .load1 (.tmp 42), none, []⟩,
             ⟨some 44, .mv (.tmp 11), none, []⟩,
             ⟨some 45, .mv (.tmp 11), none, []⟩,
             ⟨some 46, .bin .mul (.tmp 44) (.tmp 45), none, []⟩,
             ⟨some 47, .bin .add (.tmp 43) (.tmp 46), none, []⟩,
             ⟨some 48, .fad 0 (.tmp 6), none, []⟩,
             ⟨none, .store 1 (.tmp 48) (.tmp 47), none, []⟩] [42, 43, 44, 45, 46, 47, 48])
          (.seq
           (.region false [⟨some 49, .fad 1 (.tmp 6), none, []⟩,
             ⟨some 50, .load1 (.tmp 49), none, []⟩,
             ⟨some 51, .mv (.tmp 12), none, []⟩,
             ⟨some 52, .mnx true [(.tmp 50), (.tmp 51)], none, []⟩,
             ⟨some 53, .fad 1 (.tmp 6), none, []⟩,
             ⟨none, .store 1 (.tmp 53) (.tmp 52), none, []⟩] [49, 50, 51, 52, 53])
          (.region false [⟨some 54, .fad 2 (.tmp 6), none, []⟩,
            ⟨some 55, .load1 (.tmp 54), none, []⟩,
            ⟨some 56, .mv (.tmp 12), none, []⟩,
            ⟨some 57, .bin .add (.tmp 55) (.tmp 56), none, []⟩,
            ⟨some 58, .fad 2 (.tmp 6), none, []⟩,
            ⟨none, .store 1 (.tmp 58) (.tmp 57), none, []⟩] [54, 55, 56, 57, 58]))))))
       (.region false [⟨some 59, .bin .add (.tmp 34) (.const (.int .i64 1)), none, []⟩,
         ⟨some 34, .mv (.tmp 59), none, []⟩] [59])))))))
  (.seq
   (.region false [⟨some 60, .loadN 4 (.tmp 6), none, []⟩,
     ⟨none, .store 4 (.tmp 6) (.tmp 60), none, []⟩,
     ⟨some 7, .mv (.const (.int .i64 0)), none, []⟩] [60])
  .ret))))))
set_option maxRecDepth 100000 in
theorem khealth_Measure : IsCode Try.prog 27 61 chealth_Measure [.cellN 6 4, .tmp 7] :=
  ⟨Try.f27, _, [35, 25, 0, 2, 9, 1, 6, 8, 34, 33, 32, 11, 12, 7], Try.func27, rfl, by decide, rfl, by kernel_rfl, by kernel_rfl⟩
/-- health_newGear -/
def chealth_newGear : ACode :=
  (.seq
   (.region false [⟨some 4, .mem [(.val (.slice none 0 0)), (.val (.int .i64 0))], none, []⟩,
     ⟨some 5, .mv (.const (.bool false)), none, []⟩] [])
  (.seq
   (.region false [⟨some 7, .mv (.tmp 0), none, []⟩,
     ⟨some 8, .len_ (.tmp 7), none, []⟩,
     ⟨some 6, .mv (.tmp 8), none, []⟩] [7, 8])
  (.seq
   (.region true [⟨some 9, .mv (.tmp 0), none, []⟩,
     ⟨some 10, .mv (.tmp 1), none, []⟩,
     ⟨some 11, .build [(.val (.slice none 0 0)), (.val (.int .i64 0))] [(0, 1, (.tmp 9)), (1, 1, (.tmp 10))], none, [0, 1]⟩,
     ⟨some 12, .mv (.tmp 6), none, []⟩,
     ⟨some 13, .call (.func 59) [(.tmp 12), (.const (.int .i64 1)), (.const (.int .i64 24))], none, [3]⟩,
     ⟨some 14, .mv (.tmp 13), none, [4, 3]⟩,
     ⟨some 15, .mv (.tmp 0), (some (some 14, true)), [5, 4, 3]⟩,
     ⟨some 16, .call (.func 105) [(.tmp 15), (.const (.int .i64 (-1000000))), (.const (.int .i64 1000000))], (some (some 14, true)), [6, 5, 4, 3]⟩,
     ⟨some 17, .pick (.tmp 14) (.tmp 16) (.const (.bool false)), none, [5, 4, 3, 7, 6]⟩,
     ⟨some 18, .mv (.tmp 17), none, [8, 5, 4, 3, 7, 6]⟩,
     ⟨some 19, .mv (.tmp 1), (some (some 18, true)), [9, 8, 5, 4, 3, 7, 6]⟩,
     ⟨some 20, .mv (.tmp 6), (some (some 18, true)), [9, 8, 5, 4, 3, 7, 6]⟩,
     ⟨some 21, .call (.func 59) [(.tmp 19), (.const (.int .i64 1)), (.tmp 20)], (some (some 18, true)), [10, 9, 8, 5, 4, 3, 7, 6, 11]⟩,
     ⟨some 22, .pick (.tmp 18) (.tmp 21) (.const (.bool false)), none, [9, 8, 5, 4, 3, 7, 6, 12, 10, 11]⟩,
     ⟨some 23, .mv (.tmp 22), none, [13, 9, 8, 5, 4, 3, 7, 6, 12, 10, 11]⟩,
     ⟨some 24, .mv (.tmp 6), (some (some 23, true)), [14, 13, 9, 8, 5, 4, 3, 7, 6, 12, 10, 11]⟩,
     ⟨some 25, .mv (.tmp 1), (some (some 23, true)), [14, 13, 9, 8, 5, 4, 3, 7, 6, 12, 10, 11]⟩,
     ⟨some 26, .bin .rem (.tmp 24) (.tmp 25), (some (some 23, true)), [15, 14, 13, 9, 8, 5, 4, 3, 7, 6, 12, 10, 11, 16]⟩,
     ⟨some 27, .bin .eql (.tmp 26) (.const (.int .i64 0)), (some (some 23, true)), [17, 15, 14, 13, 9, 8, 5, 4, 3, 7, 6, 12, 10, 11, 16]⟩,
     ⟨some 28, .pick (.tmp 23) (.tmp 27) (.const (.bool false)), none, [14, 13, 9, 8, 5, 4, 3, 7, 6, 12, 10, 11, 18, 17, 15, 16]⟩,
     ⟨none, .store 2 (.tmp 4) (.tmp 11), none, [2, 0, 1, 14, 13, 9, 8, 5, 4, 3, 7, 6, 12, 10, 11]⟩,
     ⟨some 5, .mv (.tmp 28), none, [19, 14, 13, 9, 8, 5, 4, 3, 7, 6, 12, 10, 11, 18, 17, 15, 16, 20, 2, 0, 1]⟩] [9, 10, 11, 12, 13, 14, 15, 16, 17, 18, 19, 20, 21, 22, 23, 24, 25, 26, 27, 28])
  .ret)))
set_option maxRecDepth 100000 in
theorem khealth_newGear : IsCode Try.prog 58 29 chealth_newGear [.cellN 4 2, .tmp 5] :=
  ⟨Try.f58, _, [0, 1, 6, 4, 5], Try.func58, rfl, by decide, rfl, by kernel_rfl, by kernel_rfl⟩
/-- health_gear_residual -/
def chealth_gear_residual : ACode :=
  (.seq
   (.region false [⟨some 1, .box (.tmp 0), none, []⟩,
     ⟨some 2, .mv (.const (.slice none 0 0)), none, []⟩] [])
  (.seq
   (.region false [⟨some 6, .loadN 2 (.tmp 1), none, []⟩,
     ⟨some 7, .call (.func 106) [(.tmp 6)], none, []⟩,
     ⟨some 3, .mv (.tmp 7), none, []⟩] [6, 7])
  (.seq
   (.seq
    (.region false [⟨some 8, .fad 0 (.tmp 1), none, []⟩,
      ⟨some 9, .load1 (.tmp 8), none, []⟩,
      ⟨some 10, .len_ (.tmp 9), none, []⟩,
      ⟨some 11, .mv (.const (.int .i64 0)), none, []⟩] [8])
   (.block 0
     (.loop
       (.seq
        (.region false [⟨some 12, .bin .lss (.tmp 11) (.tmp 10), none, []⟩] [])
       (.seq
        (.cond (.tmp 12)
          .skip
          (.exit 0))
       (.seq
        (.block 1
          (.seq
           (.region false [⟨some 13, .mv (.tmp 11), none, []⟩,
             ⟨some 14, .iadS 1 (.tmp 9) (.tmp 11), none, []⟩,
             ⟨some 15, .load1 (.tmp 14), none, []⟩,
             ⟨some 4, .mv (.tmp 13), none, []⟩,
             ⟨some 5, .mv (.tmp 15), none, []⟩] [13, 14, 15])
          (.region true [⟨some 16, .mv (.tmp 2), none, []⟩,
            ⟨some 17, .mv (.tmp 5), none, []⟩,
            ⟨some 18, .fad 1 (.tmp 1), none, []⟩,
            ⟨some 19, .load1 (.tmp 18), none, [2]⟩,
            ⟨some 20, .bin .mul (.tmp 17) (.tmp 19), none, [1, 3, 2]⟩,
            ⟨some 21, .mv (.tmp 3), none, []⟩,
            ⟨some 22, .mv (.tmp 4), none, []⟩,
            ⟨some 23, .mv (.tmp 3), none, []⟩,
            ⟨some 24, .len_ (.tmp 23), none, [7]⟩,
            ⟨some 25, .bin .rem (.tmp 22) (.tmp 24), none, [6, 8, 7]⟩,
            ⟨some 26, .iadS 1 (.tmp 21) (.tmp 25), none, [5, 9, 6, 8, 7]⟩,
            ⟨some 27, .load1 (.tmp 26), none, [10, 5, 9, 6, 8, 7]⟩,
            ⟨some 28, .bin .sub (.tmp 20) (.tmp 27), none, [4, 1, 3, 2, 11, 10, 5, 9, 6, 8, 7]⟩,
            ⟨some 29, .buildSl 1 1 [(.val (.int .i64 0))] [(0, 1, (.tmp 28))], none, [12, 4, 1, 3, 2, 11, 10, 5, 9, 6, 8, 7]⟩,
            ⟨some 30, .app 1 8 (.tmp 16) (.tmp 29), none, [0, 13, 12, 4, 1, 3, 2, 11, 10, 5, 9, 6, 8, 7]⟩,
            ⟨some 2, .mv (.tmp 30), none, [14, 0, 13, 12, 4, 1, 3, 2, 11, 10, 5, 9, 6, 8, 7]⟩] [16, 17, 18, 19, 20, 21, 22, 23, 24, 25, 26, 27, 28, 29, 30])))
       (.region false [⟨some 31, .bin .add (.tmp 11) (.const (.int .i64 1)), none, []⟩,
         ⟨some 11, .mv (.tmp 31), none, []⟩] [31])))))))
  (.seq
   (.region false [⟨some 32, .mv (.tmp 2), none, []⟩,
     ⟨some 2, .mv (.tmp 32), none, []⟩] [32])
  .ret))))
set_option maxRecDepth 100000 in
theorem khealth_gear_residual : IsCode Try.prog 60 33 chealth_gear_residual [.tmp 2] :=
  ⟨Try.f60, _, [12, 0, 1, 11, 10, 9, 2, 5, 3, 4], Try.func60, rfl, by decide, rfl, by kernel_rfl, by kernel_rfl⟩
/-- health_gear_pattern -/
def chealth_gear_pattern : ACode :=
  (.seq
   (.region false [⟨some 1, .box (.tmp 0), none, []⟩,
     ⟨some 2, .mv (.const (.slice none 0 0)), none, []⟩] [])
  (.seq
   (.region false [⟨some 6, .fad 0 (.tmp 1), none, []⟩,
     ⟨some 7, .load1 (.tmp 6), none, []⟩,
     ⟨some 8, .len_ (.tmp 7), none, []⟩,
     ⟨some 9, .fad 1 (.tmp 1), none, []⟩,
     ⟨some 10, .load1 (.tmp 9), none, []⟩,
     ⟨some 11, .bin .quo (.tmp 8) (.tmp 10), none, []⟩,
     ⟨some 12, .mksl 1 8 [(.val (.int .i64 0))] (.tmp 11) (.tmp 11), none, []⟩,
     ⟨some 3, .mv (.tmp 12), none, []⟩] [6, 7, 8, 9, 10, 11, 12])
  (.seq
   (.seq
    (.region false [⟨some 13, .fad 0 (.tmp 1), none, []⟩,
      ⟨some 14, .load1 (.tmp 13), none, []⟩,
      ⟨some 15, .len_ (.tmp 14), none, []⟩,
      ⟨some 16, .mv (.const (.int .i64 0)), none, []⟩] [13])
   (.block 0
     (.loop
       (.seq
        (.region false [⟨some 17, .bin .lss (.tmp 16) (.tmp 15), none, []⟩] [])
       (.seq
        (.cond (.tmp 17)
          .skip
          (.exit 0))
       (.seq
        (.block 1
          (.seq
           (.region false [⟨some 18, .mv (.tmp 16), none, []⟩,
             ⟨some 19, .iadS 1 (.tmp 14) (.tmp 16), none, []⟩,
             ⟨some 20, .load1 (.tmp 19), none, []⟩,
             ⟨some 4, .mv (.tmp 18), none, []⟩,
             ⟨some 5, .mv (.tmp 20), none, []⟩] [18, 19, 20])
          (.region false [⟨some 21, .mv (.tmp 3), none, []⟩,
            ⟨some 22, .mv (.tmp 4), none, []⟩,
            ⟨some 23, .mv (.tmp 3), none, []⟩,
            ⟨some 24, .len_ (.tmp 23), none, []⟩,
            ⟨some 25, .bin .rem (.tmp 22) (.tmp 24), none, []⟩,
            ⟨some 26, .iadS 1 (.tmp 21) (.tmp 25), none, []⟩,
            ⟨some 27, .load1 (.tmp 26), none, []⟩,
            ⟨some 28, .mv (.tmp 5), none, []⟩,
            ⟨some 29, .bin .add (.tmp 27) (.tmp 28), none, []⟩,
            ⟨some 30, .iadS 1 (.tmp 21) (.tmp 25), none, []⟩,
            ⟨none, .store 1 (.tmp 30) (.tmp 29), none, []⟩] [21, 22, 23, 24, 25, 26, 27, 28, 29, 30])))
       (.region false [⟨some 31, .bin .add (.tmp 16) (.const (.int .i64 1)), none, []⟩,
         ⟨some 16, .mv (.tmp 31), none, []⟩] [31])))))))
  (.seq
   (.region false [⟨some 32, .mv (.tmp 3), none, []⟩,
     ⟨some 2, .mv (.tmp 32), none, []⟩] [32])
  .ret))))
set_option maxRecDepth 100000 in
theorem khealth_gear_pattern : IsCode Try.prog 106 33 chealth_gear_pattern [.tmp 2] :=
  ⟨Try.f106, _, [17, 0, 1, 16, 15, 14, 3, 4, 5, 2], Try.func106, rfl, by decide, rfl, by kernel_rfl, by kernel_rfl⟩
/-- top_TopHeard -/
def ctop_TopHeard : ACode :=
  (.seq
   (.region false [⟨some 3, .box (.tmp 0), none, []⟩,
     ⟨some 4, .box (.tmp 1), none, []⟩,
     ⟨some 6, .mv (.const (.bool false)), none, []⟩] [])
  (.seq
   (.seq
    (.region false [⟨some 25, .loadN 7 (.tmp 3), none, []⟩,
      ⟨some 26, .call (.func 22) [(.tmp 25)], none, []⟩,
      ⟨some 27, .mv (.tmp 26), none, []⟩,
      ⟨some 28, .fad 6 (.tmp 3), (some (some 27, false)), []⟩,
      ⟨some 29, .load1 (.tmp 28), (some (some 27, false)), []⟩,
      ⟨some 30, .len_ (.tmp 29), (some (some 27, false)), []⟩,
      ⟨some 31, .bin .gtr (.tmp 30) (.const (.int .i64 90)), (some (some 27, false)), []⟩,
      ⟨some 32, .pick (.tmp 27) (.const (.bool true)) (.tmp 31), none, []⟩,
      ⟨some 33, .mv (.tmp 32), none, []⟩,
      ⟨some 34, .fad 0 (.tmp 3), (some (some 33, false)), []⟩,
      ⟨some 35, .loadN 6 (.tmp 34), (some (some 33, false)), []⟩,
      ⟨some 36, .fad 6 (.tmp 3), (some (some 33, false)), []⟩,
      ⟨some 37, .load1 (.tmp 36), (some (some 33, false)), []⟩,
      ⟨some 38, .call (.func 23) [(.tmp 35), (.tmp 37)], (some (some 33, false)), []⟩,
      ⟨some 39, .bin .neq (.tmp 38) (.const (.int .i64 0)), (some (some 33, false)), []⟩,
      ⟨some 40, .pick (.tmp 33) (.const (.bool true)) (.tmp 39), none, []⟩] [25, 26, 27, 28, 29, 30, 31, 32, 33, 34, 35, 36, 37, 38, 39])
   (.cond (.tmp 40)
     (.seq
      (.region false [⟨some 41, .call (.func 9) [], none, []⟩,
        ⟨some 6, .mv (.tmp 41), none, []⟩] [41])
     .ret)
     .skip))
  (.seq
   (.region true [⟨some 43, .fad 0 (.tmp 3), none, []⟩,
     ⟨some 44, .loadN 6 (.tmp 43), none, [0]⟩,
     ⟨some 45, .fad 6 (.tmp 3), none, []⟩,
     ⟨some 46, .load1 (.tmp 45), none, [2]⟩,
     ⟨some 47, .call (.func 25) [(.tmp 46)], none, [3, 2]⟩,
     ⟨some 48, .fad 0 (.tmp 4), none, []⟩,
     ⟨some 49, .load1 (.tmp 48), none, [5]⟩,
     ⟨some 50, .fad 1 (.tmp 4), none, []⟩,
     ⟨some 51, .load1 (.tmp 50), none, [7]⟩,
     ⟨some 52, .fad 2 (.tmp 4), none, []⟩,
     ⟨some 53, .load1 (.tmp 52), none, [9]⟩,
     ⟨some 54, .call (.func 24) [(.tmp 44), (.tmp 47), (.tmp 49), (.tmp 51), (.tmp 53)], none, [1, 0, 4, 3, 2, 6, 5, 8, 7, 10, 9]⟩,
     ⟨some 42, .mv (.tmp 54), none, [11, 1, 0, 4, 3, 2, 6, 5, 8, 7, 10, 9]⟩,
     ⟨some 55, .ext (.tmp 42) 0, none, [12, 11, 1, 0, 4, 3, 2, 6, 5, 8, 7, 10, 9]⟩,
     ⟨some 56, .ext (.tmp 42) 1, none, [12, 11, 1, 0, 4, 3, 2, 6, 5, 8, 7, 10, 9]⟩,
     ⟨some 57, .ext (.tmp 42) 2, none, [12, 11, 1, 0, 4, 3, 2, 6, 5, 8, 7, 10, 9]⟩,
     ⟨some 7, .mv (.tmp 55), none, [13, 12, 11, 1, 0, 4, 3, 2, 6, 5, 8, 7, 10, 9]⟩,
     ⟨some 8, .mv (.tmp 56), none, [14, 12, 11, 1, 0, 4, 3, 2, 6, 5, 8, 7, 10, 9, 16, 13]⟩,
     ⟨some 9, .mv (.tmp 57), none, [15, 12, 11, 1, 0, 4, 3, 2, 6, 5, 8, 7, 10, 9, 17, 14, 16, 13]⟩] [43, 44, 45, 46, 47, 48, 49, 50, 51, 52, 53, 54, 42, 55, 56, 57])
  (.seq
   (.seq
    (.region false [⟨some 59, .fad 0 (.tmp 3), none, []⟩,
      ⟨some 60, .loadN 6 (.tmp 59), none, []⟩,
      ⟨some 61, .fad 6 (.tmp 3), none, []⟩,
      ⟨some 62, .load1 (.tmp 61), none, []⟩,
      ⟨some 63, .fad 0 (.tmp 4), none, []⟩,
      ⟨some 64, .load1 (.tmp 63), none, []⟩,
      ⟨some 65, .fad 1 (.tmp 4), none, []⟩,
      ⟨some 66, .load1 (.tmp 65), none, []⟩,
      ⟨some 67, .fad 2 (.tmp 4), none, []⟩,
      ⟨some 68, .load1 (.tmp 67), none, []⟩,
      ⟨some 69, .call (.func 26) [(.tmp 60), (.tmp 62), (.tmp 64), (.tmp 66), (.tmp 68)], none, []⟩,
      ⟨some 58, .mv (.tmp 69), none, []⟩,
      ⟨some 70, .ext (.tmp 58) 0, none, []⟩,
      ⟨some 71, .ext (.tmp 58) 1, none, []⟩,
      ⟨some 72, .ext (.tmp 58) 2, none, []⟩,
      ⟨some 10, .mv (.tmp 70), none, []⟩,
      ⟨some 11, .mv (.tmp 71), none, []⟩,
      ⟨some 12, .mv (.tmp 72), none, []⟩] [59, 60, 61, 62, 63, 64, 65, 66, 67, 68, 69, 58, 70, 71, 72, 10, 11])
   (.seq
    (.region false [⟨some 73, .mv (.tmp 12), none, []⟩,
      ⟨some 74, .bin .neq (.tmp 73) (.const (.int .i64 0)), none, []⟩,
      ⟨some 75, .mv (.tmp 74), none, []⟩,
      ⟨some 76, .mv (.tmp 9), (some (some 75, false)), []⟩,
      ⟨some 77, .bin .neq (.tmp 76) (.const (.int .i64 0)), (some (some 75, false)), []⟩,
      ⟨some 78, .pick (.tmp 75) (.const (.bool true)) (.tmp 77), none, []⟩] [73, 74, 75, 76, 77])
   (.cond (.tmp 78)
     (.seq
      (.region false [⟨some 79, .mv (.tmp 9), none, []⟩,
        ⟨some 80, .mv (.tmp 12), none, []⟩,
        ⟨some 81, .bin .eql (.tmp 79) (.tmp 80), none, []⟩,
        ⟨some 82, .mv (.tmp 81), none, []⟩,
        ⟨some 83, .call (.func 9) [], (some (some 82, true)), []⟩,
        ⟨some 84, .pick (.tmp 82) (.tmp 83) (.const (.bool false)), none, []⟩,
        ⟨some 6, .mv (.tmp 84), none, []⟩] [79, 80, 81, 82, 83, 84])
     .ret)
     .skip)))
  (.seq
   (.region false [⟨some 86, .mv (.tmp 7), none, []⟩,
     ⟨some 87, .mv (.tmp 8), none, []⟩,
     ⟨some 88, .mv (.tmp 2), none, []⟩,
     ⟨some 89, .call (.func 27) [(.tmp 86), (.tmp 87), (.tmp 88)], none, []⟩,
     ⟨some 85, .mv (.tmp 89), none, []⟩,
     ⟨some 90, .ext (.tmp 85) 0, none, []⟩,
     ⟨some 91, .ext (.tmp 85) 1, none, []⟩,
     ⟨some 13, .mem [(.val (.int .i64 0)), (.val (.int .i64 0)), (.val (.int .i64 0)), (.val (.int .i64 0))], none, []⟩,
     ⟨none, .store 4 (.tmp 13) (.tmp 90), none, []⟩,
     ⟨some 14, .mv (.tmp 91), none, []⟩] [86, 87, 88, 89, 85, 90, 91])
  (.seq
   (.region true [⟨some 93, .fad 0 (.tmp 3), none, []⟩,
     ⟨some 94, .loadN 6 (.tmp 93), none, [0]⟩,
     ⟨some 95, .fad 6 (.tmp 3), none, []⟩,
     ⟨some 96, .load1 (.tmp 95), none, [2]⟩,
     ⟨some 97, .fad 0 (.tmp 4), none, []⟩,
     ⟨some 98, .load1 (.tmp 97), none, [4]⟩,
     ⟨some 99, .fad 1 (.tmp 4), none, []⟩,
     ⟨some 100, .load1 (.tmp 99), none, [6]⟩,
     ⟨some 101, .call (.func 29) [(.tmp 94), (.tmp 96), (.tmp 98), (.tmp 100)], none, [1, 0, 3, 2, 5, 4, 7, 6]⟩,
     ⟨some 102, .fad 2 (.tmp 4), none, []⟩,
     ⟨some 103, .load1 (.tmp 102), none, [9]⟩,
     ⟨some 104, .call (.func 28) [(.tmp 101), (.tmp 103)], none, [8, 1, 0, 3, 2, 5, 4, 7, 6, 10, 9]⟩,
     ⟨some 92, .mv (.tmp 104), none, [11, 8, 1, 0, 3, 2, 5, 4, 7, 6, 10, 9]⟩,
     ⟨some 105, .ext (.tmp 92) 0, none, [12, 11, 8, 1, 0, 3, 2, 5, 4, 7, 6, 10, 9]⟩,
     ⟨some 106, .ext (.tmp 92) 1, none, [12, 11, 8, 1, 0, 3, 2, 5, 4, 7, 6, 10, 9]⟩,
     ⟨some 107, .ext (.tmp 92) 2, none, [12, 11, 8, 1, 0, 3, 2, 5, 4, 7, 6, 10, 9]⟩,
     ⟨some 15, .mv (.tmp 105), none, [13, 12, 11, 8, 1, 0, 3, 2, 5, 4, 7, 6, 10, 9]⟩,
     ⟨some 16, .mv (.tmp 106), none, [14, 12, 11, 8, 1, 0, 3, 2, 5, 4, 7, 6, 10, 9, 16, 13]⟩,
     ⟨some 17, .mv (.tmp 107), none, [15, 12, 11, 8, 1, 0, 3, 2, 5, 4, 7, 6, 10, 9, 17, 14, 16, 13]⟩] [93, 94, 95, 96, 97, 98, 99, 100, 101, 102, 103, 104, 92, 105, 106, 107])
  (.seq
   (.seq
    (.region false [⟨some 108, .mv (.tmp 17), none, []⟩,
      ⟨some 109, .bin .neq (.tmp 108) (.const (.int .i64 0)), none, []⟩,
      ⟨some 110, .mv (.tmp 109), none, []⟩,
      ⟨some 111, .mv (.tmp 16), (some (some 110, false)), []⟩,
      ⟨some 112, .mv (.tmp 8), (some (some 110, false)), []⟩,
      ⟨some 113, .bin .neq (.tmp 111) (.tmp 112), (some (some 110, false)), []⟩,
      ⟨some 114, .pick (.tmp 110) (.const (.bool true)) (.tmp 113), none, []⟩] [108, 109, 110, 111, 112, 113])
   (.cond (.tmp 114)
     (.seq
      (.region false [⟨some 6, .mv (.const (.bool false)), none, []⟩] [])
     .ret)
     .skip))
  (.seq
   (.region false [⟨some 116, .mv (.tmp 15), none, []⟩,
     ⟨some 117, .mv (.tmp 16), none, []⟩,
     ⟨some 118, .mv (.tmp 2), none, []⟩,
     ⟨some 119, .call (.func 27) [(.tmp 116), (.tmp 117), (.tmp 118)], none, []⟩,
     ⟨some 115, .mv (.tmp 119), none, []⟩,
     ⟨some 120, .ext (.tmp 115) 0, none, []⟩,
     ⟨some 121, .ext (.tmp 115) 1, none, []⟩,
     ⟨some 18, .mem [(.val (.int .i64 0)), (.val (.int .i64 0)), (.val (.int .i64 0)), (.val (.int .i64 0))], none, []⟩,
     ⟨none, .store 4 (.tmp 18) (.tmp 120), none, []⟩,
     ⟨some 19, .mv (.tmp 121), none, []⟩] [116, 117, 118, 119, 115, 120, 121])
  (.seq
   (.seq
    (.region false [⟨some 122, .loadN 4 (.tmp 13), none, []⟩,
      ⟨some 123, .loadN 4 (.tmp 18), none, []⟩,
      ⟨some 124, .eqa true [false, false, false, false] (.tmp 122) (.tmp 123), none, []⟩,
      ⟨some 125, .mv (.tmp 124), none, []⟩,
      ⟨some 126, .mv (.tmp 14), (some (some 125, false)), []⟩,
      ⟨some 127, .mv (.tmp 19), (some (some 125, false)), []⟩,
      ⟨some 128, .bin .neq (.tmp 126) (.tmp 127), (some (some 125, false)), []⟩,
      ⟨some 129, .pick (.tmp 125) (.const (.bool true)) (.tmp 128), none, []⟩] [122, 123, 124, 125, 126, 127, 128])
   (.cond (.tmp 129)
     (.seq
      (.region false [⟨some 6, .mv (.const (.bool false)), none, []⟩] [])
     .ret)
     .skip))
  (.seq
   (.region false [⟨some 20, .mv (.const (.slice none 0 0)), none, []⟩] [])
  (.seq
   (.seq
    (.region false [⟨some 21, .mv (.const (.int .i64 0)), none, []⟩] [])
   (.block 0
     (.loop
       (.seq
        (.seq
         (.region false [⟨some 130, .mv (.tmp 21), none, []⟩,
           ⟨some 131, .fad 6 (.tmp 3), none, []⟩,
           ⟨some 132, .load1 (.tmp 131), none, []⟩,
           ⟨some 133, .len_ (.tmp 132), none, []⟩,
           ⟨some 134, .bin .lss (.tmp 130) (.tmp 133), none, []⟩] [130, 131, 132, 133])
        (.cond (.tmp 134)
          .skip
          (.exit 0)))
       (.seq
        (.block 1
          (.region false [⟨some 137, .mv (.tmp 20), none, []⟩,
            ⟨some 138, .buildSl 1 0 [] [], none, []⟩,
            ⟨some 139, .fad 6 (.tmp 3), none, []⟩,
            ⟨some 140, .load1 (.tmp 139), none, []⟩,
            ⟨some 141, .mv (.tmp 21), none, []⟩,
            ⟨some 142, .iadS 1 (.tmp 140) (.tmp 141), none, []⟩,
            ⟨some 143, .load1 (.tmp 142), none, []⟩,
            ⟨some 144, .app 1 8 (.tmp 138) (.tmp 143), none, []⟩,
            ⟨some 145, .buildSl 1 0 [] [], none, []⟩,
            ⟨some 146, .buildSl 1 2 [(.val (.slice none 0 0)), (.val (.slice none 0 0))] [(0, 1, (.tmp 144)), (1, 1, (.tmp 145))], none, []⟩,
            ⟨some 147, .app 1 24 (.tmp 137) (.tmp 146), none, []⟩,
            ⟨some 20, .mv (.tmp 147), none, []⟩] [137, 138, 139, 140, 141, 142, 143, 144, 145, 146, 147]))
       (.region false [⟨some 135, .mv (.tmp 21), none, []⟩,
         ⟨some 136, .bin .add (.tmp 135) (.const (.int .i64 1)), none, []⟩,
         ⟨some 21, .mv (.tmp 136), none, []⟩] [135, 136]))))))
  (.seq
   (.region false [⟨some 149, .fad 0 (.tmp 3), none, []⟩,
     ⟨some 150, .loadN 6 (.tmp 149), none, []⟩,
     ⟨some 151, .mv (.tmp 20), none, []⟩,
     ⟨some 152, .fad 0 (.tmp 4), none, []⟩,
     ⟨some 153, .load1 (.tmp 152), none, []⟩,
     ⟨some 154, .fad 1 (.tmp 4), none, []⟩,
     ⟨some 155, .load1 (.tmp 154), none, []⟩,
     ⟨some 156, .fad 2 (.tmp 4), none, []⟩,
     ⟨some 157, .load1 (.tmp 156), none, []⟩,
     ⟨some 158, .call (.func 24) [(.tmp 150), (.tmp 151), (.tmp 153), (.tmp 155), (.tmp 157)], none, []⟩,
     ⟨some 148, .mv (.tmp 158), none, []⟩,
     ⟨some 159, .ext (.tmp 148) 0, none, []⟩,
     ⟨some 160, .ext (.tmp 148) 1, none, []⟩,
     ⟨some 161, .ext (.tmp 148) 2, none, []⟩,
     ⟨some 22, .mv (.tmp 159), none, []⟩,
     ⟨some 23, .mv (.tmp 160), none, []⟩,
     ⟨some 24, .mv (.tmp 161), none, []⟩] [149, 150, 151, 152, 153, 154, 155, 156, 157, 158, 148, 159, 160, 161])
  (.seq
   (.region false [⟨some 162, .mv (.tmp 24), none, []⟩,
     ⟨some 163, .bin .eql (.tmp 162) (.const (.int .i64 0)), none, []⟩,
     ⟨some 164, .mv (.tmp 163), none, []⟩,
     ⟨some 165, .mv (.tmp 23), (some (some 164, true)), []⟩,
     ⟨some 166, .mv (.tmp 8), (some (some 164, true)), []⟩,
     ⟨some 167, .bin .eql (.tmp 165) (.tmp 166), (some (some 164, true)), []⟩,
     ⟨some 168, .pick (.tmp 164) (.tmp 167) (.const (.bool false)), none, []⟩,
     ⟨some 169, .mv (.tmp 168), none, []⟩,
     ⟨some 170, .mv (.tmp 22), (some (some 169, true)), []⟩,
     ⟨some 171, .mv (.tmp 7), (some (some 169, true)), []⟩,
     ⟨some 172, .call (.func 30) [(.tmp 170), (.tmp 171)], (some (some 169, true)), []⟩,
     ⟨some 173, .pick (.tmp 169) (.tmp 172) (.const (.bool false)), none, []⟩,
     ⟨some 174, .mv (.tmp 173), none, []⟩,
     ⟨some 175, .call (.func 9) [], (some (some 174, true)), []⟩,
     ⟨some 176, .pick (.tmp 174) (.tmp 175) (.const (.bool false)), none, []⟩,
     ⟨some 6, .mv (.tmp 176), none, []⟩] [162, 163, 164, 165, 166, 167, 168, 169, 170, 171, 172, 173, 174, 175, 176])
  .ret)))))))))))))
set_option maxRecDepth 100000 in
theorem ktop_TopHeard : IsCode Try.prog 6 177 ctop_TopHeard [.tmp 6] :=
  ⟨Try.f6, _, [134, 129, 114, 78, 40, 0, 1, 3, 4, 12, 9, 7, 8, 2, 17, 16, 15, 13, 18, 14, 19, 21, 20, 24, 23, 22, 6], Try.func6, rfl, by decide, rfl, by kernel_rfl, by kernel_rfl⟩
/-- top_sameInts -/
def ctop_sameInts : ACode :=
  (.seq
   (.region false [⟨some 4, .mv (.const (.bool false)), none, []⟩] [])
  (.seq
   (.seq
    (.region false [⟨some 6, .mv (.tmp 0), none, []⟩,
      ⟨some 7, .len_ (.tmp 6), none, []⟩,
      ⟨some 8, .mv (.tmp 1), none, []⟩,
      ⟨some 9, .len_ (.tmp 8), none, []⟩,
      ⟨some 10, .bin .neq (.tmp 7) (.tmp 9), none, []⟩] [6, 7, 8, 9])
   (.cond (.tmp 10)
     (.seq
      (.region false [⟨some 4, .mv (.const (.bool false)), none, []⟩] [])
     .ret)
     .skip))
  (.seq
   (.seq
    (.region false [⟨some 5, .mv (.const (.int .i64 0)), none, []⟩] [])
   (.block 0
     (.loop
       (.seq
        (.seq
         (.region false [⟨some 11, .mv (.tmp 5), none, []⟩,
           ⟨some 12, .mv (.tmp 0), none, []⟩,
           ⟨some 13, .len_ (.tmp 12), none, []⟩,
           ⟨some 14, .bin .lss (.tmp 11) (.tmp 13), none, []⟩] [11, 12, 13])
        (.cond (.tmp 14)
          .skip
          (.exit 0)))
       (.seq
        (.block 1
          (.seq
           (.region true [⟨some 17, .mv (.tmp 0), none, []⟩,
             ⟨some 18, .mv (.tmp 5), none, []⟩,
             ⟨some 19, .iadS 1 (.tmp 17) (.tmp 18), none, [0, 1]⟩,
             ⟨some 20, .load1 (.tmp 19), none, [2, 0, 1]⟩,
             ⟨some 21, .mv (.tmp 1), none, []⟩,
             ⟨some 22, .mv (.tmp 5), none, []⟩,
             ⟨some 23, .iadS 1 (.tmp 21) (.tmp 22), none, [4, 5]⟩,
             ⟨some 24, .load1 (.tmp 23), none, [6, 4, 5]⟩,
             ⟨some 25, .bin .neq (.tmp 20) (.tmp 24), none, [3, 2, 0, 1, 7, 6, 4, 5]⟩] [17, 18, 19, 20, 21, 22, 23, 24])
          (.cond (.tmp 25)
            (.seq
             (.region false [⟨some 4, .mv (.const (.bool false)), none, []⟩] [])
            .ret)
            .skip)))
       (.region false [⟨some 15, .mv (.tmp 5), none, []⟩,
         ⟨some 16, .bin .add (.tmp 15) (.const (.int .i64 1)), none, []⟩,
         ⟨some 5, .mv (.tmp 16), none, []⟩] [15, 16]))))))
  (.seq
   (.region false [⟨some 4, .mv (.const (.bool true)), none, []⟩] [])
  .ret))))
set_option maxRecDepth 100000 in
theorem ktop_sameInts : IsCode Try.prog 30 26 ctop_sameInts [.tmp 4] :=
  ⟨Try.f30, _, [25, 14, 10, 0, 1, 5, 4], Try.func30, rfl, by decide, rfl, by kernel_rfl, by kernel_rfl⟩
/-- top_measures -/
def ctop_measures : ACode :=
  (.seq
   (.region false [⟨some 0, .mv (.const (.bool false)), none, []⟩] [])
  (.seq
   (.region false [⟨some 4, .buildSl 1 3 [(.val (.int .i64 0)), (.val (.int .i64 0)), (.val (.int .i64 0))] [(0, 1, (.const (.int .i64 0))), (1, 1, (.const (.int .i64 10))), (2, 1, (.const (.int .i64 20)))], none, []⟩,
     ⟨some 5, .buildSl 1 2 [(.val (.int .i64 0)), (.val (.int .i64 0))] [(0, 1, (.const (.int .i64 0))), (1, 1, (.const (.int .i64 5)))], none, []⟩,
     ⟨some 6, .buildSl 1 2 [(.val (.int .i64 0)), (.val (.int .i64 0))] [(0, 1, (.const (.int .i64 0))), (1, 1, (.const (.int .i64 10)))], none, []⟩,
     ⟨some 7, .buildSl 1 2 [(.val (.int .i64 0)), (.val (.int .i64 0))] [(0, 1, (.const (.int .i64 20))), (1, 1, (.const (.int .i64 30)))], none, []⟩,
     ⟨some 8, .buildSl 1 2 [(.val (.int .i64 0)), (.val (.int .i64 0))] [(0, 1, (.const (.int .i64 10))), (1, 1, (.const (.int .i64 50)))], none, []⟩,
     ⟨some 9, .buildSl 1 3 [(.val (.slice none 0 0)), (.val (.slice none 0 0)), (.val (.slice none 0 0))] [(0, 1, (.tmp 6)), (1, 1, (.tmp 7)), (2, 1, (.tmp 8))], none, []⟩,
     ⟨some 10, .build [(.val (.slice none 0 0)), (.val (.slice none 0 0)), (.val (.slice none 0 0))] [(0, 1, (.tmp 4)), (1, 1, (.tmp 5)), (2, 1, (.tmp 9))], none, []⟩,
     ⟨some 1, .mem [(.val (.slice none 0 0)), (.val (.slice none 0 0)), (.val (.slice none 0 0))], none, []⟩,
     ⟨none, .store 3 (.tmp 1) (.tmp 10), none, []⟩] [4, 5, 6, 7, 8, 9, 10])
  (.seq
   (.region false [⟨some 12, .loadN 3 (.tmp 1), none, []⟩,
     ⟨some 13, .build [(.val (.int .i64 0)), (.val (.int .i64 0))] [(0, 1, (.const (.int .i64 5))), (1, 1, (.const (.int .i64 15)))], none, []⟩,
     ⟨some 14, .build [(.val (.int .i64 0)), (.val (.int .i64 0))] [(1, 1, (.const (.int .i64 5)))], none, []⟩,
     ⟨some 15, .call (.func 33) [(.tmp 12), (.tmp 13), (.tmp 14)], none, []⟩,
     ⟨some 11, .mv (.tmp 15), none, []⟩,
     ⟨some 16, .ext (.tmp 11) 0, none, []⟩,
     ⟨some 17, .ext (.tmp 11) 1, none, []⟩,
     ⟨some 2, .mem [(.val (.int .i64 0)), (.val (.int .i64 0))], none, []⟩,
     ⟨none, .store 2 (.tmp 2) (.tmp 16), none, []⟩,
     ⟨some 3, .mv (.tmp 17), none, []⟩] [12, 13, 14, 15, 11, 16, 17])
  (.seq
   (.region false [⟨some 18, .mv (.tmp 3), none, []⟩,
     ⟨some 19, .bin .eql (.tmp 18) (.const (.int .i64 0)), none, []⟩,
     ⟨some 20, .mv (.tmp 19), none, []⟩,
     ⟨some 21, .loadN 2 (.tmp 2), (some (some 20, true)), []⟩,
     ⟨some 22, .build [(.val (.int .i64 0)), (.val (.int .i64 0))] [(0, 1, (.const (.int .i64 10))), (1, 1, (.const (.int .i64 40)))], (some (some 20, true)), []⟩,
     ⟨some 23, .eqa false [false, false] (.tmp 21) (.tmp 22), (some (some 20, true)), []⟩,
     ⟨some 24, .pick (.tmp 20) (.tmp 23) (.const (.bool false)), none, []⟩,
     ⟨some 0, .mv (.tmp 24), none, []⟩] [18, 19, 20, 21, 22, 23, 24])
  .ret))))
set_option maxRecDepth 100000 in
theorem ktop_measures : IsCode Try.prog 9 25 ctop_measures [.tmp 0] :=
  ⟨Try.f9, _, [1, 3, 2, 0], Try.func9, rfl, by decide, rfl, by kernel_rfl, by kernel_rfl⟩
end Go.Proofs.Ytgibbaadjbohdaa
/- The tops' look at a table. No conditions. -/
set_option linter.unusedSimpArgs false
set_option linter.unusedVariables false
namespace Go.Proofs.Ytgibbaadjbohdaa
open Go.RowKit Lift

theorem top_bound : boundR [0, 10, 20] [0, 5] [[0, 10], [20, 30], [10, 50]] (5, 15) (0, 5) = ((10, 40), 0) := by decide +kernel
set_option maxRecDepth 100000 in
set_option maxHeartbeats 4000000 in
theorem measures_ac : AC Try.prog 9 [] [] [] (dB true) := by
  refine ktop_measures.ac (n0 := 0) (by simp) trivial trivial rfl ?_
  unfold ctop_measures
  have bd := bound_ac (xs := [0, 10, 20]) (ys := [0, 5]) (vs := [[0, 10], [20, 30], [10, 50]]) (5, 15) (0, 5) ⟨by decide, by decide, by decide, by intro r hr; simp at hr; rcases hr with rfl | rfl | rfl <;> decide⟩
  rw [top_bound] at bd
  unfold spD dI at bd
  refine aw_seq (aw_region ?_)
  simp (config := {maxSteps := 10000000}) (disch := first | exact okYes (by kernel_rfl) | omega) only [thenQ, List.map, dB, List.length, Nat.zero_add, Nat.reduceMul, envOf, ARun_none, AOpRun, aexec, FSt.ev, AGo_ok, St.app, putO, eput_n, hups, ARun_nil, dropE_c, inL_n, dropE_n, cond_false]
  refine aw_seq (aw_region ?_)
  simp (config := {maxSteps := 10000000}) (disch := first | exact okYes (by kernel_rfl) | omega) only [thenQ, List.length, Nat.zero_add, Nat.reduceAdd, Nat.reduceMul, ARun_none, AOpRun, aexec, Option.isSome, hget_n, Bool.false_eq_true, ↓reduceIte, Option.map, fillD, D.isBot, FSt.ev, D.cells, ne_eq, not_true_eq_false, Nat.reduceGT, or_self, splice, List.take, List.nil_append, List.drop, List.cons_append, List.append_nil, AGo_ok, St.app, putO, eput_c, Nat.reduceBEq, eput_n, cond_false, hups, hput_n, List.map, hget_c, hput_c, St.F, eget_c, ↓eget_h, ↓hget_h, Nat.reduceLeDiff, List.all, D.leaf, Bool.and_true, and_self, beq_self_eq_true, cond_true, ARun_nil, dropE_c, inL_c, inL_n, dropE_n]
  refine aw_wk (s' := ⟨[(1, .ptr 0 0)], [(0, [.list (ints [0, 10, 20]), .list (ints [0, 5]), .vec 40 3 1]), (40, [.list (ints [0, 10]), .list (ints [20, 30]), .list (ints [10, 50])])], 400⟩) ?_ ?_
  · refine wk_to [8, 16, 24, 32, 40] [(0, 64), (40, 48)] (by kernel_rfl) (by kernel_rfl) (by kernel_rfl) (by kernel_rfl) (by kernel_rfl) ?_ ?_ <;> repeat' (first | exact trivial | exact vr_vec _ _ _ _ rfl | exact vr_ptr _ _ _ rfl | refine vr_fl _ _ _ _ _ (by decide) rfl ?_ ?_ ?_ ?_ | refine And.intro ⟨_, rfl, .inl ⟨_, rfl, by decide, ?_⟩⟩ ?_ | apply And.intro)
    all_goals first | exact ints_one _ | rfl | exact icells_in [_, _] | exact icells_in [_, _, _]
  refine aw_wk (s' := ⟨[(1, .ptr 0 0)], [(0, [.list (ints [0, 10, 20]), .list (ints [0, 5]), .list (rows [[0, 10], [20, 30], [10, 50]])])], 400⟩) ?_ ?_
  · refine wk_to [40] [(0, 0)] (by kernel_rfl) (by kernel_rfl) (by kernel_rfl) (by kernel_rfl) (by kernel_rfl) ?_ ?_ <;> repeat' (first | exact trivial | exact vr_list _ | exact vr_ptr _ _ _ rfl | refine vr_fl _ _ _ _ _ (by decide) rfl ?_ ?_ ?_ ?_ | refine And.intro ⟨_, rfl, .inl ⟨_, rfl, by decide, ?_⟩⟩ ?_ | apply And.intro)
    all_goals first | exact rows_one [[0, 10], [20, 30], [10, 50]] | rfl | exact rcells_in [[0, 10], [20, 30], [10, 50]]
  unfold tabD at bd
  (have hg : (987654321 : Nat) - 987654321 = 0 := rfl; have hr := hg; repeat' (first | refine aw_seq ?_ | (refine aw_skip ?_; with_reducible repeat' (first | refine thenQ_n ?_ | refine blockQ_n ?_ | refine thenQ_e ?_ | refine blockQ_t ?_ | refine blockQ_f (by decide) ?_)) | (refine aw_exit ?_; with_reducible repeat' (first | refine thenQ_n ?_ | refine blockQ_n ?_ | refine thenQ_e ?_ | refine blockQ_t ?_ | refine blockQ_f (by decide) ?_)) | refine aw_ret ?_ | refine aw_block ?_ | refine aw_condT rfl ?_ | refine aw_condF rfl ?_ | ((first | refine aw_hide fun K hK => aw_region ?_ | refine acall0 (bd) ?_ | refine ago_if (by omega) ?_ | skip); simp (config := {maxSteps := 10000000}) (disch := first | exact okYes (by kernel_rfl) | omega) only [List.length, Nat.zero_add, Nat.reduceAdd, Nat.reduceMul, ARun_none, AOpRun, aexec, FSt.ev, St.F, ↓eget_h, hget_c, beq_self_eq_true, hget_n, cond_true, Nat.reduceLeDiff, ↓reduceIte, List.drop, List.take, AGo_ok, St.app, putO, eput_c, Nat.reduceBEq, eput_n, cond_false, hups, List.map, Option.map, fillD, D.isBot, Bool.false_eq_true, D.cells, ne_eq, not_true_eq_false, Nat.reduceGT, or_self, splice, List.nil_append, List.cons_append, List.append_nil, eget_c, opt1, List.getElem?_cons_zero, List.getElem?_cons_succ, Option.isSome, hput_c, hput_n, ↓hget_h, List.all, D.leaf, Bool.and_true, and_self, ARun_nil, dropE_c, inL_c, inL_n, dropE_n, isSh, abin, ARun_some, AG_tt, D.isAgg, isB, eqCells, scalarEq]) | (subst hK; with_reducible repeat' (first | refine thenQ_n ?_ | refine blockQ_n ?_ | refine thenQ_e ?_ | refine blockQ_t ?_ | refine blockQ_f (by decide) ?_))))
  all_goals (refine end_to [] [] (by first | exact .inl rfl | exact .inr rfl) rfl (by kernel_rfl) (by kernel_rfl) (by kernel_rfl) ?_ ?_ <;> repeat' (first | exact trivial | exact vr_val _))
end Go.Proofs.Ytgibbaadjbohdaa
/- The level of an average, in numbers. No conditions. -/
namespace Go.Proofs.Ytgibbaadjbohdaa
open Go.RowKit Lift

def gearB (s : List Int) (t : Int) : Bool := wI (s.length : Int) 1 24 && (allI s (-1000000) 1000000 && (wI t 1 (s.length : Int) && ((s.length : Int).tmod t == 0)))
structure GearOk (s : List Int) (t : Int) : Prop where
  n1 : 1 ≤ s.length
  n2 : s.length ≤ 24
  sb : ∀ k, k < s.length → -1000000 ≤ iat s k ∧ iat s k ≤ 1000000
  t1 : 1 ≤ t
  t2 : t ≤ s.length
theorem gear_ok {s : List Int} {t : Int} (h : gearB s t = true) : GearOk s t := by
  unfold gearB at h
  simp only [Bool.and_eq_true] at h
  obtain ⟨h1, h2, h3, _⟩ := h
  have h1 := wI_t h1
  have h3 := wI_t h3
  exact ⟨by omega, by omega, allI_get h2, h3.1, h3.2⟩
/-- the sums of the points that are alike -/
def patL (s : List Int) (m : Nat) : Nat → List Int
  | 0 => List.replicate m 0
  | k + 1 => (patL s m k).set (k % m) (iat (patL s m k) (k % m) + iat s k)
theorem patL_len (s : List Int) (m : Nat) : ∀ k, (patL s m k).length = m
  | 0 => by simp [patL]
  | k + 1 => by simp only [patL, List.length_set]; exact patL_len s m k
theorem patL_bd {s : List Int} {t : Int} (h : GearOk s t) (m : Nat) : ∀ k, k ≤ s.length → ∀ j, j < m → -(1000000 * (k : Int)) ≤ iat (patL s m k) j ∧ iat (patL s m k) j ≤ 1000000 * (k : Int)
  | 0, _, j, hj => by simp [patL, iat, hj]
  | k + 1, hk, j, hj => by
    have ih := patL_bd h m k (by omega)
    have hs := h.sb k (by omega)
    have hl := patL_len s m k
    have hm : k % m < m := Nat.mod_lt _ (by omega)
    simp only [patL]
    unfold iat
    rw [List.getElem?_set]
    by_cases hjk : k % m = j
    · have := ih (k % m) hm
      unfold iat at this
      unfold iat at hs
      rw [if_pos hjk, if_pos (by omega), Option.getD_some]
      omega
    · have := ih j hj
      unfold iat at this
      rw [if_neg hjk]
      omega
def resI (s : List Int) (t : Int) (m i : Nat) : Int := iat s i * t - iat (patL s m s.length) (i % m)
def rsdL (s : List Int) (t : Int) (m k : Nat) : List Int := (List.range k).map (resI s t m)
theorem rsdL_len (s : List Int) (t : Int) (m k : Nat) : (rsdL s t m k).length = k := by simp [rsdL]
theorem rsdL_succ (s : List Int) (t : Int) (m k : Nat) : rsdL s t m (k + 1) = rsdL s t m k ++ [resI s t m k] := by simp [rsdL, List.range_succ]
theorem rsdL_get (s : List Int) (t : Int) (m n k : Nat) (h : k < n) : iat (rsdL s t m n) k = resI s t m k := by simp [iat, rsdL, h]
theorem resI_bd {s : List Int} {t : Int} (h : GearOk s t) {m i : Nat} (hm : 0 < m) (hi : i < s.length) : -50000000 ≤ resI s t m i ∧ resI s t m i ≤ 50000000 := by
  have h1 := h.sb i hi
  have h2 := patL_bd h m s.length (Nat.le_refl _) (i % m) (Nat.mod_lt _ hm)
  have := h.n2
  have := h.t1
  have := h.t2
  have h3 := mulB (A := 1000000) (B := 24) (a := iat s i) (b := t) h1.1 h1.2 (by omega) (by omega)
  unfold resI
  omega
def absI (x : Int) : Int := if -x > x then -x else x
def maxI (x y : Int) : Int := if y > x then y else x
def lvE (r : List Int) : Nat → Int
  | 0 => 0
  | k + 1 => lvE r k + iat r k * iat r k
def lvP (r : List Int) : Nat → Int
  | 0 => 0
  | k + 1 => maxI (lvP r k) (absI (iat r k))
def lvS (r : List Int) : Nat → Int
  | 0 => 0
  | k + 1 => lvS r k + absI (iat r k)
theorem lv_bd {r : List Int} (h : ∀ k, k < r.length → -50000000 ≤ iat r k ∧ iat r k ≤ 50000000) : ∀ k, k ≤ r.length → (0 ≤ lvE r k ∧ lvE r k ≤ 2500000000000000 * (k : Int)) ∧ (0 ≤ lvP r k ∧ lvP r k ≤ 50000000) ∧ (0 ≤ lvS r k ∧ lvS r k ≤ 50000000 * (k : Int))
  | 0, _ => by simp [lvE, lvP, lvS]
  | k + 1, hk => by
    obtain ⟨⟨a1, a2⟩, ⟨b1, b2⟩, c1, c2⟩ := lv_bd h k (by omega)
    have hb := h k (by omega)
    have h3 := mulB (A := 50000000) (B := 50000000) (a := iat r k) (b := iat r k) hb.1 hb.2 hb.1 hb.2
    have h4 : 0 ≤ iat r k * iat r k := by
      rcases Int.le_total 0 (iat r k) with h | h
      · exact Int.mul_nonneg h h
      · exact Int.mul_nonneg_of_nonpos_of_nonpos h h
    simp only [lvE, lvP, lvS, maxI, absI]
    refine ⟨⟨by omega, by omega⟩, ⟨?_, ?_⟩, ?_, ?_⟩
    all_goals (repeat' split) <;> omega
def msE (s : List Int) (d t : Int) : Int := if gearB s t = true ∧ wI d 1 1000000 = true then 0 else 1
def msV (s : List Int) (d t : Int) : List Int :=
  if msE s d t = 0 then [lvE (rsdL s t (s.length / t.toNat) s.length) s.length, lvP (rsdL s t (s.length / t.toNat) s.length) s.length, lvS (rsdL s t (s.length / t.toNat) s.length) s.length, d * t] else [0, 0, 0, 0]
end Go.Proofs.Ytgibbaadjbohdaa
/- health: Measure. No conditions. -/
set_option linter.unusedSimpArgs false
set_option linter.unusedVariables false
namespace Go.Proofs.Ytgibbaadjbohdaa
open Go.RowKit Lift

set_option maxRecDepth 100000 in
set_option maxHeartbeats 2000000 in
theorem newGear_ac (s : List Int) (t : Int) (hs : s.length ≤ 1000000) : AC Try.prog 58 [.list (ints s), dI t] [] [] (.tup [.agg [.list (ints s), dI t], dB (gearB s t)]) := by
  refine khealth_newGear.ac (n0 := 0) (by simp) ⟨.list _, .val _, trivial⟩ trivial rfl ?_
  unfold chealth_newGear gearB
  have c1 := hwithin_ac s.length 1 24
  have c2 := hall_ac s (-1000000) 1000000 hs
  have c3 := hwithin_ac t 1 s.length
  have sl := ints_len s
  cases q1 : wI (s.length : Int) 1 24 with
  | false =>
    rw [q1] at c1
    (have hg : (987654321 : Nat) - 987654321 = 0 := rfl; have hr := hg; repeat' (first | refine aw_seq ?_ | (refine aw_skip ?_; with_reducible repeat' (first | refine thenQ_n ?_ | refine blockQ_n ?_ | refine thenQ_e ?_ | refine blockQ_t ?_ | refine blockQ_f (by decide) ?_)) | (refine aw_exit ?_; with_reducible repeat' (first | refine thenQ_n ?_ | refine blockQ_n ?_ | refine thenQ_e ?_ | refine blockQ_t ?_ | refine blockQ_f (by decide) ?_)) | refine aw_ret ?_ | refine aw_block ?_ | refine aw_condT rfl ?_ | refine aw_condF rfl ?_ | ((first | refine aw_hide fun K hK => aw_region ?_ | refine acall0 (c1) ?_ | refine ago_if (by omega) ?_ | skip); simp (config := {maxSteps := 10000000}) (disch := first | exact okYes (by kernel_rfl) | omega) only [List.length, Nat.zero_add, Nat.reduceAdd, Nat.reduceMul, envOf, dI, ARun_none, AOpRun, aexec, Option.isSome, hget_n, Bool.false_eq_true, ↓reduceIte, AGo_ok, St.app, putO, eput_c, Nat.reduceBEq, eput_n, cond_false, hups, hput_n, List.map, FSt.ev, ARun_nil, dropE_c, inL_n, dropE_n, St.F, ↓eget_h, eget_c, sl, inL_c, beq_self_eq_true, cond_true, Int.reduceNeg, Option.map, fillD, D.isBot, D.cells, ne_eq, not_true_eq_false, Nat.reduceGT, or_self, splice, List.take, List.nil_append, List.drop, List.cons_append, List.append_nil, dB, ARun_some, AG_ft, hget_c, Nat.reduceLeDiff, List.all, D.leaf, Bool.and_true, and_self, hput_c, Bool.false_and]) | (subst hK; with_reducible repeat' (first | refine thenQ_n ?_ | refine blockQ_n ?_ | refine thenQ_e ?_ | refine blockQ_t ?_ | refine blockQ_f (by decide) ?_))))
    all_goals (refine end_to [] [] (by first | exact .inl rfl | exact .inr rfl) rfl (by kernel_rfl) (by kernel_rfl) (by kernel_rfl) ?_ ?_ <;> repeat' (first | exact trivial | exact vr_val _ | exact vr_list _ | apply vr_agg | apply vr_tup | apply And.intro))
  | true =>
  rw [q1] at c1
  cases q2 : allI s (-1000000) 1000000 with
  | false =>
    rw [q2] at c2
    (have hg : (987654321 : Nat) - 987654321 = 0 := rfl; have hr := hg; repeat' (first | refine aw_seq ?_ | (refine aw_skip ?_; with_reducible repeat' (first | refine thenQ_n ?_ | refine blockQ_n ?_ | refine thenQ_e ?_ | refine blockQ_t ?_ | refine blockQ_f (by decide) ?_)) | (refine aw_exit ?_; with_reducible repeat' (first | refine thenQ_n ?_ | refine blockQ_n ?_ | refine thenQ_e ?_ | refine blockQ_t ?_ | refine blockQ_f (by decide) ?_)) | refine aw_ret ?_ | refine aw_block ?_ | refine aw_condT rfl ?_ | refine aw_condF rfl ?_ | ((first | refine aw_hide fun K hK => aw_region ?_ | refine acall0 (c1) ?_ | refine acall0 (c2) ?_ | refine ago_if (by omega) ?_ | skip); simp (config := {maxSteps := 10000000}) (disch := first | exact okYes (by kernel_rfl) | omega) only [List.length, Nat.zero_add, Nat.reduceAdd, Nat.reduceMul, envOf, dI, ARun_none, AOpRun, aexec, Option.isSome, hget_n, Bool.false_eq_true, ↓reduceIte, AGo_ok, St.app, putO, eput_c, Nat.reduceBEq, eput_n, cond_false, hups, hput_n, List.map, FSt.ev, ARun_nil, dropE_c, inL_n, dropE_n, St.F, ↓eget_h, eget_c, sl, inL_c, beq_self_eq_true, cond_true, Int.reduceNeg, Option.map, fillD, D.isBot, D.cells, ne_eq, not_true_eq_false, Nat.reduceGT, or_self, splice, List.take, List.nil_append, List.drop, List.cons_append, List.append_nil, dB, ARun_some, AG_tt, AG_ft, hget_c, Nat.reduceLeDiff, List.all, D.leaf, Bool.and_true, and_self, hput_c, Bool.false_and, Bool.and_false]) | (subst hK; with_reducible repeat' (first | refine thenQ_n ?_ | refine blockQ_n ?_ | refine thenQ_e ?_ | refine blockQ_t ?_ | refine blockQ_f (by decide) ?_))))
    all_goals (refine end_to [] [] (by first | exact .inl rfl | exact .inr rfl) rfl (by kernel_rfl) (by kernel_rfl) (by kernel_rfl) ?_ ?_ <;> repeat' (first | exact trivial | exact vr_val _ | exact vr_list _ | apply vr_agg | apply vr_tup | apply And.intro))
  | true =>
  rw [q2] at c2
  cases q3 : wI t 1 (s.length : Int) with
  | false =>
    rw [q3] at c3
    (have hg : (987654321 : Nat) - 987654321 = 0 := rfl; have hr := hg; repeat' (first | refine aw_seq ?_ | (refine aw_skip ?_; with_reducible repeat' (first | refine thenQ_n ?_ | refine blockQ_n ?_ | refine thenQ_e ?_ | refine blockQ_t ?_ | refine blockQ_f (by decide) ?_)) | (refine aw_exit ?_; with_reducible repeat' (first | refine thenQ_n ?_ | refine blockQ_n ?_ | refine thenQ_e ?_ | refine blockQ_t ?_ | refine blockQ_f (by decide) ?_)) | refine aw_ret ?_ | refine aw_block ?_ | refine aw_condT rfl ?_ | refine aw_condF rfl ?_ | ((first | refine aw_hide fun K hK => aw_region ?_ | refine acall0 (c1) ?_ | refine acall0 (c2) ?_ | refine acall0 (c3) ?_ | refine ago_if (by omega) ?_ | skip); simp (config := {maxSteps := 10000000}) (disch := first | exact okYes (by kernel_rfl) | omega) only [List.length, Nat.zero_add, Nat.reduceAdd, Nat.reduceMul, envOf, dI, ARun_none, AOpRun, aexec, Option.isSome, hget_n, Bool.false_eq_true, ↓reduceIte, AGo_ok, St.app, putO, eput_c, Nat.reduceBEq, eput_n, cond_false, hups, hput_n, List.map, FSt.ev, ARun_nil, dropE_c, inL_n, dropE_n, St.F, ↓eget_h, eget_c, sl, inL_c, beq_self_eq_true, cond_true, Int.reduceNeg, Option.map, fillD, D.isBot, D.cells, ne_eq, not_true_eq_false, Nat.reduceGT, or_self, splice, List.take, List.nil_append, List.drop, List.cons_append, List.append_nil, dB, ARun_some, AG_tt, AG_ft, hget_c, Nat.reduceLeDiff, List.all, D.leaf, Bool.and_true, and_self, hput_c, Bool.false_and, Bool.and_false]) | (subst hK; with_reducible repeat' (first | refine thenQ_n ?_ | refine blockQ_n ?_ | refine thenQ_e ?_ | refine blockQ_t ?_ | refine blockQ_f (by decide) ?_))))
    all_goals (refine end_to [] [] (by first | exact .inl rfl | exact .inr rfl) rfl (by kernel_rfl) (by kernel_rfl) (by kernel_rfl) ?_ ?_ <;> repeat' (first | exact trivial | exact vr_val _ | exact vr_list _ | apply vr_agg | apply vr_tup | apply And.intro))
  | true =>
  rw [q3] at c3
  have h3 := wI_t q3
  have t0 : ¬ t = 0 := by omega
  cases q4 : ((s.length : Int).tmod t == 0)
  all_goals
    (have hg : (987654321 : Nat) - 987654321 = 0 := rfl; have hr := hg; repeat' (first | refine aw_seq ?_ | (refine aw_skip ?_; with_reducible repeat' (first | refine thenQ_n ?_ | refine blockQ_n ?_ | refine thenQ_e ?_ | refine blockQ_t ?_ | refine blockQ_f (by decide) ?_)) | (refine aw_exit ?_; with_reducible repeat' (first | refine thenQ_n ?_ | refine blockQ_n ?_ | refine thenQ_e ?_ | refine blockQ_t ?_ | refine blockQ_f (by decide) ?_)) | refine aw_ret ?_ | refine aw_block ?_ | refine aw_condT rfl ?_ | refine aw_condF rfl ?_ | ((first | refine aw_hide fun K hK => aw_region ?_ | refine acall0 (c1) ?_ | refine acall0 (c2) ?_ | refine acall0 (c3) ?_ | refine ago_if (by omega) ?_ | skip); simp (config := {maxSteps := 10000000}) (disch := first | exact okYes (by kernel_rfl) | omega) only [List.length, Nat.zero_add, Nat.reduceAdd, Nat.reduceMul, envOf, dI, ARun_none, AOpRun, aexec, Option.isSome, hget_n, Bool.false_eq_true, ↓reduceIte, AGo_ok, St.app, putO, eput_c, Nat.reduceBEq, eput_n, cond_false, hups, hput_n, List.map, FSt.ev, ARun_nil, dropE_c, inL_n, dropE_n, St.F, ↓eget_h, eget_c, sl, inL_c, beq_self_eq_true, cond_true, Int.reduceNeg, Option.map, fillD, D.isBot, D.cells, ne_eq, not_true_eq_false, Nat.reduceGT, or_self, splice, List.take, List.nil_append, List.drop, List.cons_append, List.append_nil, dB, ARun_some, AG_tt, isSh, abin, t0, q4, hget_c, Nat.reduceLeDiff, List.all, D.leaf, Bool.and_true, and_self, hput_c, Bool.and_false]) | (subst hK; with_reducible repeat' (first | refine thenQ_n ?_ | refine blockQ_n ?_ | refine thenQ_e ?_ | refine blockQ_t ?_ | refine blockQ_f (by decide) ?_))))
    all_goals (refine end_to [] [] (by first | exact .inl rfl | exact .inr rfl) rfl (by kernel_rfl) (by kernel_rfl) (by kernel_rfl) ?_ ?_ <;> repeat' (first | exact trivial | exact vr_val _ | exact vr_list _ | apply vr_agg | apply vr_tup | apply And.intro))
theorem in_gear (S : Nat → Prop) (s : List Int) (t : Int) : In S (.agg [.list (ints s), dI t]) := .agg _ (by intro d hd; simp at hd; rcases hd with rfl | rfl; exact .list _; exact .val _)
set_option maxRecDepth 100000 in
set_option maxHeartbeats 4000000 in
theorem pattern_ac (s : List Int) (t : Nat) (h : GearOk s t) : AC Try.prog 106 [.agg [.list (ints s), dI t]] [] [] (.list (ints (patL s (s.length / t) s.length))) := by
  refine khealth_gear_pattern.ac (n0 := 0) (by simp) ⟨in_gear _ _ _, trivial⟩ trivial rfl ?_
  unfold chealth_gear_pattern
  have h1 := h.n1
  have h2 := h.n2
  have h3 := h.t1
  have h4 := h.t2
  have sl := ints_len s
  have sg := ints_all s
  have t0 : ¬ (t : Int) = 0 := by omega
  have hdv : 1 ≤ s.length / t := Nat.div_pos (by omega) (by omega)
  have hdl : s.length / t ≤ s.length := Nat.div_le_self _ _
  have e11 : Int.tdiv (s.length : Int) (t : Int) = ((s.length / t : Nat) : Int) := rfl
  have hbd := patL_bd h (s.length / t)
  generalize s.length / t = m at *
  have hrz := rep_ic m
  have m1 : (0 : Int) ≤ (m : Int) := by omega
  have m2 : (m : Int) * 8 ≤ 2 ^ 48 := by omega
  have m3 : (m : Int) < 2 ^ 62 := by omega
  refine aw_seq (aw_region ?_)
  simp (config := {maxSteps := 10000000}) (disch := first | exact okYes (by kernel_rfl) | omega) only [thenQ, List.map, List.length, Nat.zero_add, Nat.reduceAdd, Nat.reduceMul, envOf, dI, ARun_none, AOpRun, aexec, D.isBot, FSt.ev, St.F, ↓eget_h, Bool.false_eq_true, Option.isSome, hget_n, or_self, ↓reduceIte, D.cells, AGo_ok, St.app, putO, eput_c, Nat.reduceBEq, eput_n, cond_false, hups, hput_n, ARun_nil, dropE_c, inL_n, dropE_n]
  refine aw_seq (aw_region ?_)
  simp (config := {maxSteps := 10000000}) (disch := first | exact okYes (by kernel_rfl) | omega) only [thenQ, List.length, Nat.zero_add, Nat.reduceAdd, Nat.reduceMul, ARun_none, AOpRun, aexec, FSt.ev, St.F, eget_c, Nat.reduceBEq, ↓eget_h, cond_false, AGo_ok, St.app, putO, eput_c, eput_n, hups, List.map, Option.map, run1, hget_c, beq_self_eq_true, hget_n, cond_true, List.getElem?_cons_zero, sl, List.getElem?_cons_succ, isSh, Bool.false_eq_true, ↓reduceIte, abin, t0, e11, fits, m1, cast_lit, m2, m3, Option.isSome, and_self, Int.toNat_natCast, hrz, hput_c, hput_n, ARun_nil, dropE_c, inL_c, inL_n, dropE_n]
  refine aw_wk (s' := ⟨[(1, .ptr 0 0), (3, .vec 200 m 1)], [(0, [.list (ints s), dI t]), (200, icells (patL s m 0))], 300⟩) ?_ ?_
  · unfold dI
    refine wk_to [] [(0, 0), (200, 64)] (by kernel_rfl) (by kernel_rfl) (by kernel_rfl) (by kernel_rfl) (by kernel_rfl) ?_ ?_ <;> repeat' (first | exact trivial | exact vr_val _ | exact vr_list _ | exact vr_vec _ _ _ _ rfl | exact vr_ptr _ _ _ rfl | refine And.intro ⟨_, rfl, .inl ⟨_, rfl, by decide, ?_⟩⟩ ?_ | apply And.intro | exact vrl_flat _ (by first | exact icells_in _ | exact rcells_in _ | exact scells_in _ | exact bcells_in _ | assumption))
  refine aw_seq (aw_seq (aw_region ?_))
  simp (config := {maxSteps := 10000000}) (disch := first | exact okYes (by kernel_rfl) | omega) only [thenQ, List.length, Nat.zero_add, Nat.reduceAdd, Nat.reduceMul, dI, ARun_none, AOpRun, aexec, FSt.ev, St.F, ↓eget_h, AGo_ok, St.app, putO, eput_c, Nat.reduceBEq, eput_n, cond_false, hups, List.map, Option.map, run1, eget_c, hget_c, beq_self_eq_true, hget_n, cond_true, List.getElem?_cons_zero, sl, ARun_nil, dropE_c, inL_c, inL_n, dropE_n]
  refine aw_block (aw_loop (fun k : Nat => ⟨[(3, .vec 200 m 1), (14, .list (ints s)), (15, dI s.length), (16, dI k)], [(200, icells (patL s m k))], 1000⟩) (fun k => k ≤ s.length) (fun k => s.length - k) ⟨0, by omega, ?_⟩ ?_)
  · unfold dI
    refine wk_to [] [(200, 200)] (by kernel_rfl) (by kernel_rfl) (by kernel_rfl) (by kernel_rfl) (by kernel_rfl) ?_ ?_ <;> repeat' (first | exact trivial | exact vr_val _ | exact vr_list _ | exact vr_vec _ _ _ _ rfl | refine And.intro ⟨_, rfl, .inl ⟨_, rfl, by decide, ?_⟩⟩ ?_ | apply And.intro | exact vrl_flat _ (by first | exact icells_in _ | exact rcells_in _ | exact scells_in _ | exact bcells_in _ | assumption))
    all_goals exact vrl_flat _ (icells_in _)
  intro k hk
  by_cases hk2 : k < s.length
  case neg =>
    obtain rfl : k = s.length := by omega
    have hll := patL_len s m s.length
    generalize patL s m s.length = L at *
    (have hg : (987654321 : Nat) - 987654321 = 0 := rfl; have hr := hg; repeat' (first | refine aw_seq ?_ | (refine aw_skip ?_; with_reducible repeat' (first | refine thenQ_n ?_ | refine blockQ_n ?_ | refine thenQ_e ?_ | refine blockQ_t ?_ | refine blockQ_f (by decide) ?_)) | (refine aw_exit ?_; with_reducible repeat' (first | refine thenQ_n ?_ | refine blockQ_n ?_ | refine thenQ_e ?_ | refine blockQ_t ?_ | refine blockQ_f (by decide) ?_)) | refine aw_ret ?_ | refine aw_block ?_ | refine aw_condT rfl ?_ | refine aw_condF rfl ?_ | (refine aw_cond rfl (fun hg => ?_) (fun hg => ?_) <;> (try (have hq := hg; simp only [Bool.not_eq_true', Bool.not_eq_false', Bool.and_eq_true, Bool.and_eq_false_iff, Bool.or_eq_true, Bool.or_eq_false_iff, decide_eq_true_eq, decide_eq_false_iff_not, bne_iff_ne, beq_iff_eq, beq_eq_false_iff_ne, bne_eq_false_iff_eq, ne_eq, Int.not_lt, Int.not_le, Decidable.not_not] at hq)) <;> (try (have hr := hg; simp only [decide_eq_true_eq, decide_eq_false_iff_not] at hr)) <;> (try (exfalso; omega))) | ((first | refine aw_hide fun K hK => aw_region ?_ | refine ago_if (by omega) ?_ | skip); simp (config := {maxSteps := 10000000}) (disch := first | exact okYes (by kernel_rfl) | omega) only [List.length, Nat.zero_add, Nat.reduceMul, Nat.reduceAdd, dI, ARun_none, AOpRun, aexec, FSt.ev, St.F, eget_c, Nat.reduceBEq, ↓eget_h, cond_false, isSh, Bool.false_eq_true, ↓reduceIte, Option.map, abin, AGo_ok, St.app, putO, eput_c, eput_n, hups, List.map, ARun_nil, dropE_c, inL_n, dropE_n, hr, decide_false, inL_c, beq_self_eq_true, cond_true]) | (subst hK; with_reducible repeat' (first | refine thenQ_n ?_ | refine blockQ_n ?_ | refine thenQ_e ?_ | refine blockQ_t ?_ | refine blockQ_f (by decide) ?_))))
    refine end_to [200] [] (by first | exact .inl rfl | exact .inr rfl) rfl (by kernel_rfl) (by kernel_rfl) (by kernel_rfl) ?_ ?_ <;> repeat' (first | exact trivial | refine vr_fl _ _ _ _ _ (by decide) rfl ?_ ?_ ?_ ?_)
    all_goals first | exact ints_one _ | exact (ints_len _).trans hll | exact ints_flat _ | exact icells_in _
  have g1 := ints_gd s k hk2
  rw [show s[k]?.getD 0 = iat s k from rfl] at g1
  have ki : (k : Int) < (s.length : Int) := by omega
  have b0 := hbd k (by omega) (k % m) (Nat.mod_lt _ (by omega))
  have b1 := h.sb k hk2
  have hm : k % m < m := Nat.mod_lt _ (by omega)
  have hlen := patL_len s m k
  have e25 : Int.tmod (k : Int) (m : Int) = ((k % m : Nat) : Int) := rfl
  have m0 : ¬ (m : Int) = 0 := by omega
  have gs := ic_gd (patL s m k) (k % m) (by omega)
  rw [show (patL s m k)[k % m]?.getD 0 = iat (patL s m k) (k % m) from rfl] at gs
  have hst := ic_t (patL s m k) (k % m) (iat (patL s m k) (k % m) + iat s k) (by omega)
  rw [show (patL s m k).set (k % m) (iat (patL s m k) (k % m) + iat s k) = patL s m (k + 1) from rfl] at hst
  have hcl : (icells (patL s m k)).length = m := by rw [icells_len]; exact hlen
  have hcin := icells_in (patL s m (k + 1))
  have e29 : IntKind.i64.wrap (iat (patL s m k) (k % m) + iat s k) = iat (patL s m k) (k % m) + iat s k := wrap_in (by omega) (by omega)
  generalize hg0 : k % m = j at *
  have kj : (j : Int) < (m : Int) := by omega
  have kj1 : j + 1 ≤ m := by omega
  generalize iat (patL s m k) j = y at *
  generalize iat s k = x at *
  generalize patL s m k = L at *
  generalize hg1 : patL s m (k + 1) = L1 at *
  (have hg : (987654321 : Nat) - 987654321 = 0 := rfl; have hr := hg; repeat' (first | refine aw_seq ?_ | (refine aw_skip ?_; with_reducible repeat' (first | refine thenQ_n ?_ | refine blockQ_n ?_ | refine thenQ_e ?_ | refine blockQ_t ?_ | refine blockQ_f (by decide) ?_)) | (refine aw_exit ?_; with_reducible repeat' (first | refine thenQ_n ?_ | refine blockQ_n ?_ | refine thenQ_e ?_ | refine blockQ_t ?_ | refine blockQ_f (by decide) ?_)) | refine aw_ret ?_ | refine aw_block ?_ | refine aw_condT rfl ?_ | refine aw_condF rfl ?_ | ((first | refine aw_hide fun K hK => aw_region ?_ | refine ago_if (by omega) ?_ | skip); simp (config := {maxSteps := 10000000}) (disch := first | exact okYes (by kernel_rfl) | omega) only [List.length, Nat.zero_add, Nat.mul_one, Nat.reduceAdd, dI, ARun_none, AOpRun, aexec, FSt.ev, St.F, eget_c, Nat.reduceBEq, ↓eget_h, cond_false, isSh, Bool.false_eq_true, ↓reduceIte, Option.map, abin, ki, decide_true, AGo_ok, St.app, putO, eput_c, eput_n, hups, List.map, ARun_nil, dropE_c, inL_n, dropE_n, Nat.reduceMul, Int.natCast_nonneg, sg, and_self, opt1, Int.toNat_natCast, g1, run1, List.getElem?_cons_zero, inL_c, beq_self_eq_true, cond_true, m0, e25, kj, hget_c, hget_n, Nat.add_zero, gs, e29, D.isBot, D.cells, hcl, kj1, List.all, D.leaf, Bool.and_true, splice, hst, hput_c, hput_n, fits]) | (subst hK; with_reducible repeat' (first | refine thenQ_n ?_ | refine blockQ_n ?_ | refine thenQ_e ?_ | refine blockQ_t ?_ | refine blockQ_f (by decide) ?_))))
  refine ⟨k + 1, by omega, by omega, ?_⟩
  rw [hg1]
  refine wk_to [] [(200, 200)] (by kernel_rfl) (by kernel_rfl) (by kernel_rfl) (by kernel_rfl) (by kernel_rfl) ?_ ?_ <;> repeat' (first | exact trivial | exact vr_val _ | exact vr_list _ | exact vr_vec _ _ _ _ rfl | refine And.intro ⟨_, rfl, .inl ⟨_, rfl, by decide, ?_⟩⟩ ?_ | apply And.intro | exact vrl_flat _ (by first | exact icells_in _ | exact rcells_in _ | exact scells_in _ | exact bcells_in _ | assumption))
  all_goals exact vrl_flat _ hcin
set_option maxRecDepth 100000 in
set_option maxHeartbeats 4000000 in
theorem residual_ac (s : List Int) (t : Nat) (h : GearOk s t) : AC Try.prog 60 [.agg [.list (ints s), dI t]] [] [] (.list (ints (rsdL s t (s.length / t) s.length))) := by
  refine khealth_gear_residual.ac (n0 := 0) (by simp) ⟨in_gear _ _ _, trivial⟩ trivial rfl ?_
  unfold chealth_gear_residual
  have pt := pattern_ac s t h
  have h1 := h.n1
  have h2 := h.n2
  have h3 := h.t1
  have h4 := h.t2
  have sl := ints_len s
  have sg := ints_all s
  have hdv : 1 ≤ s.length / t := Nat.div_pos (by omega) (by omega)
  have hbd := patL_bd h (s.length / t) s.length (Nat.le_refl _)
  generalize s.length / t = m at *
  have hrb := fun i hi => resI_bd h (m := m) (i := i) (by omega) hi
  have hpl := patL_len s m s.length
  have pl := ints_len (patL s m s.length)
  rw [hpl] at pl
  have pg := ints_all (patL s m s.length)
  have hgp := fun j hj => ints_gd (patL s m s.length) j hj
  rw [hpl] at hgp
  have hrI : ∀ k, resI s t m k = iat s k * t - iat (patL s m s.length) (k % m) := fun k => rfl
  generalize hP : patL s m s.length = P at *
  refine aw_seq (aw_region ?_)
  simp (config := {maxSteps := 10000000}) (disch := first | exact okYes (by kernel_rfl) | omega) only [thenQ, List.map, List.length, Nat.zero_add, Nat.reduceAdd, Nat.reduceMul, envOf, dI, ARun_none, AOpRun, aexec, D.isBot, FSt.ev, St.F, ↓eget_h, Bool.false_eq_true, Option.isSome, hget_n, or_self, ↓reduceIte, D.cells, AGo_ok, St.app, putO, eput_c, Nat.reduceBEq, eput_n, cond_false, hups, hput_n, ARun_nil, dropE_c, inL_n, dropE_n]
  refine aw_seq (aw_region ?_)
  simp (config := {maxSteps := 10000000}) (disch := first | exact okYes (by kernel_rfl) | omega) only [thenQ, List.length, Nat.zero_add, Nat.reduceAdd, Nat.reduceMul, ARun_none, AOpRun, aexec, FSt.ev, St.F, eget_c, Nat.reduceBEq, ↓eget_h, cond_false, hget_c, beq_self_eq_true, hget_n, cond_true, Nat.reduceLeDiff, ↓reduceIte, List.drop, List.take, AGo_ok, St.app, putO, eput_c, eput_n, hups, List.map]
  refine acall0 pt ?_
  simp (config := {maxSteps := 10000000}) (disch := first | exact okYes (by kernel_rfl) | omega) only [Nat.reduceAdd, St.app, putO, eput_c, Nat.reduceBEq, eput_n, cond_false, hups, ARun_none, AOpRun, aexec, FSt.ev, St.F, eget_c, ↓eget_h, AGo_ok, List.map, ARun_nil, dropE_c, inL_c, inL_n, beq_self_eq_true, cond_true, dropE_n]
  refine aw_seq (aw_seq (aw_region ?_))
  simp (config := {maxSteps := 10000000}) (disch := first | exact okYes (by kernel_rfl) | omega) only [thenQ, List.length, Nat.zero_add, Nat.reduceAdd, Nat.reduceMul, ARun_none, AOpRun, aexec, FSt.ev, St.F, eget_c, Nat.reduceBEq, ↓eget_h, cond_false, AGo_ok, St.app, putO, eput_c, eput_n, hups, List.map, Option.map, run1, hget_c, beq_self_eq_true, hget_n, cond_true, List.getElem?_cons_zero, sl, ARun_nil, dropE_c, inL_c, inL_n, dropE_n]
  refine aw_block (aw_loop (fun k : Nat => ⟨[(1, .ptr 0 0), (2, .vec 40 k 1), (3, .list (ints P)), (9, .list (ints s)), (10, dI s.length), (11, dI k)], [(0, [.list (ints s), dI t]), (40, icells (rsdL s t m k))], 1000⟩) (fun k => k ≤ s.length) (fun k => s.length - k) ⟨0, by omega, ?_⟩ ?_)
  · show Wk _ _ ⟨[_, _, _, _, _, _], [_, (40, [])], _⟩
    unfold dI
    refine wk_to [] [(0, 0), (40, 900)] (by kernel_rfl) (by kernel_rfl) (by kernel_rfl) (by kernel_rfl) (by kernel_rfl) ?_ ?_ <;> repeat' (first | exact trivial | exact vr_val _ | exact vr_list _ | exact vr_ptr _ _ _ rfl | exact vr_nilv _ _ _ rfl | refine And.intro ⟨_, rfl, .inl ⟨_, rfl, by decide, ?_⟩⟩ ?_ | refine And.intro ⟨_, rfl, .inr ⟨rfl, rfl, of_decide_eq_true (by kernel_rfl)⟩⟩ ?_ | apply And.intro)
  intro k hk
  by_cases hk2 : k < s.length
  case neg =>
    obtain rfl : k = s.length := by omega
    have hll := rsdL_len s t m s.length
    generalize rsdL s t m s.length = L at *
    (have hg : (987654321 : Nat) - 987654321 = 0 := rfl; have hr := hg; repeat' (first | refine aw_seq ?_ | (refine aw_skip ?_; with_reducible repeat' (first | refine thenQ_n ?_ | refine blockQ_n ?_ | refine thenQ_e ?_ | refine blockQ_t ?_ | refine blockQ_f (by decide) ?_)) | (refine aw_exit ?_; with_reducible repeat' (first | refine thenQ_n ?_ | refine blockQ_n ?_ | refine thenQ_e ?_ | refine blockQ_t ?_ | refine blockQ_f (by decide) ?_)) | refine aw_ret ?_ | refine aw_block ?_ | refine aw_condT rfl ?_ | refine aw_condF rfl ?_ | (refine aw_cond rfl (fun hg => ?_) (fun hg => ?_) <;> (try (have hq := hg; simp only [Bool.not_eq_true', Bool.not_eq_false', Bool.and_eq_true, Bool.and_eq_false_iff, Bool.or_eq_true, Bool.or_eq_false_iff, decide_eq_true_eq, decide_eq_false_iff_not, bne_iff_ne, beq_iff_eq, beq_eq_false_iff_ne, bne_eq_false_iff_eq, ne_eq, Int.not_lt, Int.not_le, Decidable.not_not] at hq)) <;> (try (have hr := hg; simp only [decide_eq_true_eq, decide_eq_false_iff_not] at hr)) <;> (try (exfalso; omega))) | ((first | refine aw_hide fun K hK => aw_region ?_ | refine ago_if (by omega) ?_ | skip); simp (config := {maxSteps := 10000000}) (disch := first | exact okYes (by kernel_rfl) | omega) only [List.length, Nat.zero_add, Nat.reduceMul, Nat.reduceAdd, dI, ARun_none, AOpRun, aexec, FSt.ev, St.F, eget_c, Nat.reduceBEq, ↓eget_h, cond_false, isSh, Bool.false_eq_true, ↓reduceIte, Option.map, abin, AGo_ok, St.app, putO, eput_c, eput_n, hups, List.map, ARun_nil, dropE_c, inL_n, dropE_n, hr, decide_false, beq_self_eq_true, cond_true, inL_c]) | (subst hK; with_reducible repeat' (first | refine thenQ_n ?_ | refine blockQ_n ?_ | refine thenQ_e ?_ | refine blockQ_t ?_ | refine blockQ_f (by decide) ?_))))
    refine end_to [40] [] (by first | exact .inl rfl | exact .inr rfl) rfl (by kernel_rfl) (by kernel_rfl) (by kernel_rfl) ?_ ?_ <;> repeat' (first | exact trivial | refine vr_fl _ _ _ _ _ (by decide) rfl ?_ ?_ ?_ ?_)
    all_goals first | exact ints_one _ | exact (ints_len _).trans hll | exact ints_flat _ | exact icells_in _
  have g1 := ints_gd s k hk2
  rw [show s[k]?.getD 0 = iat s k from rfl] at g1
  have ki : (k : Int) < (s.length : Int) := by omega
  have hm : k % m < m := Nat.mod_lt _ (by omega)
  have g2 := hgp (k % m) hm
  rw [show P[k % m]?.getD 0 = iat P (k % m) from rfl] at g2
  have b0 := hbd (k % m) hm
  have b1 := h.sb k hk2
  have b2 := hrb k hk2
  have e25 : Int.tmod (k : Int) (m : Int) = ((k % m : Nat) : Int) := rfl
  have m0 : ¬ (m : Int) = 0 := by omega
  have t3 := mulB (A := 1000000) (B := 24) (a := iat s k) (b := (t : Int)) b1.1 b1.2 (by omega) (by omega)
  have e20 : IntKind.i64.wrap (iat s k * (t : Int)) = iat s k * (t : Int) := wrap_in (by omega) (by omega)
  have e28 : IntKind.i64.wrap (iat s k * (t : Int) - iat P (k % m)) = resI s t m k := by rw [hrI]; exact wrap_in (by omega) (by omega)
  have hlen := rsdL_len s t m k
  have hsucc := rsdL_succ s t m k
  have hic : (icells (rsdL s t m k)).length = k := by rw [icells_len]; exact hlen
  have hit : (icells (rsdL s t m k)).take k = icells (rsdL s t m k) := List.take_of_length_le (by omega)
  have hin : ∀ y ∈ icells (rsdL s t m k) ++ [.val (.int .i64 (resI s t m k))], In (fun _ => False) y := by rw [ic_app]; exact icells_in _
  generalize hg0 : k % m = j at *
  have kj : (j : Int) < (m : Int) := by omega
  generalize iat P j = y at *
  generalize iat s k = x at *
  generalize resI s t m k = r at *
  generalize rsdL s t m k = L at *
  (have hg : (987654321 : Nat) - 987654321 = 0 := rfl; have hr := hg; repeat' (first | refine aw_seq ?_ | (refine aw_skip ?_; with_reducible repeat' (first | refine thenQ_n ?_ | refine blockQ_n ?_ | refine thenQ_e ?_ | refine blockQ_t ?_ | refine blockQ_f (by decide) ?_)) | (refine aw_exit ?_; with_reducible repeat' (first | refine thenQ_n ?_ | refine blockQ_n ?_ | refine thenQ_e ?_ | refine blockQ_t ?_ | refine blockQ_f (by decide) ?_)) | refine aw_ret ?_ | refine aw_block ?_ | refine aw_condT rfl ?_ | refine aw_condF rfl ?_ | ((first | refine aw_hide fun K hK => aw_region ?_ | refine ago_if (by omega) ?_ | skip); simp (config := {maxSteps := 10000000}) (disch := first | exact okYes (by kernel_rfl) | omega) only [List.length, Nat.zero_add, Nat.mul_one, Nat.reduceAdd, dI, ARun_none, AOpRun, aexec, FSt.ev, St.F, eget_c, Nat.reduceBEq, ↓eget_h, cond_false, isSh, Bool.false_eq_true, ↓reduceIte, Option.map, abin, ki, decide_true, AGo_ok, St.app, putO, eput_c, eput_n, hups, List.map, ARun_nil, dropE_c, inL_n, dropE_n, Nat.reduceMul, Int.natCast_nonneg, sg, and_self, opt1, Int.toNat_natCast, g1, run1, List.getElem?_cons_zero, inL_c, beq_self_eq_true, cond_true, hget_c, hget_n, List.getElem?_cons_succ, e20, pl, m0, e25, pg, g2, e28, Option.isSome, fillD, D.isBot, D.cells, ne_eq, not_true_eq_false, Nat.reduceGT, or_self, splice, List.take, List.nil_append, List.drop, List.append_nil, hput_c, hput_n, base, ↓hget_h, hic, Nat.le_refl, hit, elems, List.all, D.leaf, Bool.and_true, and_true, ups, List.cons_append, hdel_c, hdel_n, fits]) | (subst hK; with_reducible repeat' (first | refine thenQ_n ?_ | refine blockQ_n ?_ | refine thenQ_e ?_ | refine blockQ_t ?_ | refine blockQ_f (by decide) ?_))))
  refine ⟨k + 1, by omega, by omega, ?_⟩
  rw [hsucc, ← ic_app]
  refine wk_to [] [(0, 0), (40, 1160)] (by kernel_rfl) (by kernel_rfl) (by kernel_rfl) (by kernel_rfl) (by kernel_rfl) ?_ ?_ <;> repeat' (first | exact trivial | exact vr_val _ | exact vr_list _ | exact vr_vec _ _ _ _ rfl | exact vr_ptr _ _ _ rfl | refine And.intro ⟨_, rfl, .inl ⟨_, rfl, by decide, ?_⟩⟩ ?_ | apply And.intro | exact vrl_flat _ (by first | exact icells_in _ | exact rcells_in _ | exact scells_in _ | exact bcells_in _ | assumption))
set_option maxRecDepth 100000 in
set_option maxHeartbeats 4000000 in
theorem measure_ok (s : List Int) (d : Int) (t : Nat) (h : GearOk s t) (hg : gearB s t = true) (hd : wI d 1 1000000 = true) : AC Try.prog 27 [.list (ints s), dI d, dI t] [] [] (.tup [.agg [dI (lvE (rsdL s t (s.length / t) s.length) s.length), dI (lvP (rsdL s t (s.length / t) s.length) s.length), dI (lvS (rsdL s t (s.length / t) s.length) s.length), dI (d * t)], dI 0]) := by
  refine khealth_Measure.ac (n0 := 0) (by simp) ⟨.list _, .val _, .val _, trivial⟩ trivial rfl ?_
  unfold chealth_Measure
  have c1 := newGear_ac s t (by have := h.n2; omega)
  rw [hg] at c1
  have c2 := hwithin_ac d 1 1000000
  rw [hd] at c2
  have c3 := residual_ac s t h
  have h1 := h.n1
  have h2 := h.n2
  have h3 := h.t1
  have h4 := h.t2
  have hd := wI_t hd
  have hdv : 1 ≤ s.length / t := Nat.div_pos (by omega) (by omega)
  have hrl := rsdL_len s t (s.length / t) s.length
  have hbd := lv_bd (r := rsdL s t (s.length / t) s.length) (fun k hk => by
    rw [rsdL_len] at hk
    rw [rsdL_get _ _ _ _ _ hk]
    exact resI_bd h (by omega) hk)
  have hrb : ∀ k, k < s.length → -50000000 ≤ iat (rsdL s t (s.length / t) s.length) k ∧ iat (rsdL s t (s.length / t) s.length) k ≤ 50000000 := fun k hk => by
    rw [rsdL_get _ _ _ _ _ hk]
    exact resI_bd h (by omega) hk
  rw [hrl] at hbd
  have sl := ints_len s
  have rl := ints_len (rsdL s t (s.length / t) s.length)
  rw [hrl] at rl
  have rg := ints_all (rsdL s t (s.length / t) s.length)
  have hgr := fun k hk => ints_gd (rsdL s t (s.length / t) s.length) k hk
  rw [hrl] at hgr
  generalize rsdL s t (s.length / t) s.length = r at *
  have t3 := mulB (A := 1000000) (B := 24) (a := d) (b := (t : Int)) (by omega) (by omega) (by omega) (by omega)
  obtain ⟨dt, hdt⟩ : ∃ dt, dt = d * (t : Int) := ⟨_, rfl⟩
  rw [← hdt] at t3 ⊢
  have e29 : IntKind.i64.wrap (d * (t : Int)) = dt := by rw [← hdt]; exact wrap_in (by omega) (by omega)
  (have hg : (987654321 : Nat) - 987654321 = 0 := rfl; have hr := hg; repeat' (first | refine aw_seq ?_ | (refine aw_skip ?_; with_reducible repeat' (first | refine thenQ_n ?_ | refine blockQ_n ?_ | refine thenQ_e ?_ | refine blockQ_t ?_ | refine blockQ_f (by decide) ?_)) | (refine aw_exit ?_; with_reducible repeat' (first | refine thenQ_n ?_ | refine blockQ_n ?_ | refine thenQ_e ?_ | refine blockQ_t ?_ | refine blockQ_f (by decide) ?_)) | refine aw_ret ?_ | refine aw_block ?_ | refine aw_condT rfl ?_ | refine aw_condF rfl ?_ | ((first | refine aw_hide fun K hK => aw_region ?_ | refine acall0 (c1) ?_ | refine acall0 (c2) ?_ | refine acall0 (c3) ?_ | refine ago_if (by omega) ?_ | skip); simp (config := {maxSteps := 10000000}) (disch := first | exact okYes (by kernel_rfl) | omega) only [List.length, Nat.zero_add, Nat.reduceAdd, Nat.reduceMul, envOf, dI, ARun_none, AOpRun, aexec, Option.isSome, hget_n, Bool.false_eq_true, ↓reduceIte, AGo_ok, St.app, putO, eput_c, Nat.reduceBEq, eput_n, cond_false, hups, hput_n, List.map, FSt.ev, ARun_nil, dropE_c, inL_n, dropE_n, St.F, ↓eget_h, eget_c, dB, opt1, Option.map, List.getElem?_cons_zero, List.getElem?_cons_succ, hget_c, hput_c, ↓hget_h, D.isBot, D.cells, Nat.reduceLeDiff, List.all, D.leaf, Bool.and_true, and_self, splice, List.take, List.nil_append, List.drop, List.append_nil, beq_self_eq_true, cond_true, inL_c, Bool.not_true, ARun_some, AG_ff, isSh, abin, e29, List.cons_append, rl]) | (subst hK; with_reducible repeat' (first | refine thenQ_n ?_ | refine blockQ_n ?_ | refine thenQ_e ?_ | refine blockQ_t ?_ | refine blockQ_f (by decide) ?_))))
  refine aw_loop (fun k : Nat => ⟨[(6, .ptr 0 0), (32, .list (ints r)), (33, dI s.length), (34, dI k)], [(0, [dI (lvE r k), dI (lvP r k), dI (lvS r k), dI dt])], 1000⟩) (fun k => k ≤ s.length) (fun k => s.length - k) ⟨0, by omega, ?_⟩ ?_
  · show Wk _ _ ⟨_, [(0, [dI 0, dI 0, dI 0, _])], _⟩
    unfold dI
    refine wk_to [] [(0, 0)] (by kernel_rfl) (by kernel_rfl) (by kernel_rfl) (by kernel_rfl) (by kernel_rfl) ?_ ?_ <;> repeat' (first | exact trivial | exact vr_val _ | exact vr_list _ | exact vr_ptr _ _ _ rfl | refine And.intro ⟨_, rfl, .inl ⟨_, rfl, by decide, ?_⟩⟩ ?_ | apply And.intro)
  intro k hk
  obtain ⟨⟨a1, a2⟩, ⟨b1, b2⟩, c4, c5⟩ := hbd k (by omega)
  by_cases hk2 : k < s.length
  case neg =>
    obtain rfl : k = s.length := by omega
    generalize lvE r s.length = E at *
    generalize lvP r s.length = F at *
    generalize lvS r s.length = G at *
    (have hg : (987654321 : Nat) - 987654321 = 0 := rfl; have hr := hg; repeat' (first | refine aw_seq ?_ | (refine aw_skip ?_; with_reducible repeat' (first | refine thenQ_n ?_ | refine blockQ_n ?_ | refine thenQ_e ?_ | refine blockQ_t ?_ | refine blockQ_f (by decide) ?_)) | (refine aw_exit ?_; with_reducible repeat' (first | refine thenQ_n ?_ | refine blockQ_n ?_ | refine thenQ_e ?_ | refine blockQ_t ?_ | refine blockQ_f (by decide) ?_)) | refine aw_ret ?_ | refine aw_block ?_ | refine aw_condT rfl ?_ | refine aw_condF rfl ?_ | (refine aw_cond rfl (fun hg => ?_) (fun hg => ?_) <;> (try (have hq := hg; simp only [Bool.not_eq_true', Bool.not_eq_false', Bool.and_eq_true, Bool.and_eq_false_iff, Bool.or_eq_true, Bool.or_eq_false_iff, decide_eq_true_eq, decide_eq_false_iff_not, bne_iff_ne, beq_iff_eq, beq_eq_false_iff_ne, bne_eq_false_iff_eq, ne_eq, Int.not_lt, Int.not_le, Decidable.not_not] at hq)) <;> (try (have hr := hg; simp only [decide_eq_true_eq, decide_eq_false_iff_not] at hr)) <;> (try (exfalso; omega))) | ((first | refine aw_hide fun K hK => aw_region ?_ | refine ago_if (by omega) ?_ | skip); simp (config := {maxSteps := 10000000}) (disch := first | exact okYes (by kernel_rfl) | omega) only [List.length, Nat.zero_add, Nat.reduceMul, Nat.reduceAdd, dI, ARun_none, AOpRun, aexec, FSt.ev, St.F, eget_c, Nat.reduceBEq, ↓eget_h, cond_false, isSh, Bool.false_eq_true, ↓reduceIte, Option.map, abin, AGo_ok, St.app, putO, eput_c, eput_n, hups, List.map, ARun_nil, dropE_c, inL_n, dropE_n, hr, decide_false, hget_c, beq_self_eq_true, hget_n, cond_true, Nat.reduceLeDiff, List.drop, List.take, D.isBot, D.cells, List.all, D.leaf, Bool.and_true, and_self, splice, List.nil_append, List.append_nil, hput_c, hput_n, inL_c]) | (subst hK; with_reducible repeat' (first | refine thenQ_n ?_ | refine blockQ_n ?_ | refine thenQ_e ?_ | refine blockQ_t ?_ | refine blockQ_f (by decide) ?_))))
    (refine end_to [] [] (by first | exact .inl rfl | exact .inr rfl) rfl (by kernel_rfl) (by kernel_rfl) (by kernel_rfl) ?_ ?_ <;> repeat' (first | exact trivial | exact vr_val _ | apply vr_agg | apply vr_tup | apply And.intro))
  have g1 := hgr k hk2
  rw [show r[k]?.getD 0 = iat r k from rfl] at g1
  have ki : (k : Int) < (s.length : Int) := by omega
  have hb := hrb k hk2
  have t4 := mulB (A := 50000000) (B := 50000000) (a := iat r k) (b := iat r k) hb.1 hb.2 hb.1 hb.2
  have e46 : IntKind.i64.wrap (iat r k * iat r k) = iat r k * iat r k := wrap_in (by omega) (by omega)
  have e47 : IntKind.i64.wrap (lvE r k + iat r k * iat r k) = lvE r (k + 1) := wrap_in (by omega) (by omega)
  have eP : lvP r (k + 1) = maxI (lvP r k) (absI (iat r k)) := rfl
  have eS : lvS r (k + 1) = lvS r k + absI (iat r k) := rfl
  generalize hE1 : lvE r (k + 1) = E1 at *
  generalize hF1 : lvP r (k + 1) = F1 at *
  generalize hG1 : lvS r (k + 1) = G1 at *
  generalize lvE r k = E at *
  generalize lvP r k = F at *
  generalize lvS r k = G at *
  generalize iat r k = x at *
  have hax : 0 ≤ absI x ∧ absI x ≤ 50000000 := by unfold absI; split <;> omega
  have e57 : IntKind.i64.wrap (G + absI x) = G1 := by rw [eS]; exact wrap_in (by omega) (by omega)
  have e41 : (if -x > x then -x else x) = absI x := rfl
  have e52 : (if absI x > F then absI x else F) = F1 := by rw [eP]; rfl
  (have hg : (987654321 : Nat) - 987654321 = 0 := rfl; have hr := hg; repeat' (first | refine aw_seq ?_ | (refine aw_skip ?_; with_reducible repeat' (first | refine thenQ_n ?_ | refine blockQ_n ?_ | refine thenQ_e ?_ | refine blockQ_t ?_ | refine blockQ_f (by decide) ?_)) | (refine aw_exit ?_; with_reducible repeat' (first | refine thenQ_n ?_ | refine blockQ_n ?_ | refine thenQ_e ?_ | refine blockQ_t ?_ | refine blockQ_f (by decide) ?_)) | refine aw_ret ?_ | refine aw_block ?_ | refine aw_condT rfl ?_ | refine aw_condF rfl ?_ | ((first | refine aw_hide fun K hK => aw_region ?_ | refine ago_if (by omega) ?_ | skip); simp (config := {maxSteps := 10000000}) (disch := first | exact okYes (by kernel_rfl) | omega) only [List.length, Nat.zero_add, Nat.reduceMul, Nat.reduceAdd, dI, ARun_none, AOpRun, aexec, FSt.ev, St.F, eget_c, Nat.reduceBEq, ↓eget_h, cond_false, isSh, Bool.false_eq_true, ↓reduceIte, Option.map, abin, ki, decide_true, AGo_ok, St.app, putO, eput_c, eput_n, hups, List.map, ARun_nil, dropE_c, inL_n, dropE_n, Int.natCast_nonneg, rg, and_self, opt1, Int.toNat_natCast, g1, run1, List.getElem?_cons_zero, inL_c, beq_self_eq_true, cond_true, Int.zero_sub, fits, foldI, mx2, e41, hget_c, hget_n, e46, e47, D.isBot, D.cells, Nat.reduceLeDiff, List.all, D.leaf, Bool.and_true, splice, List.take, List.nil_append, List.drop, List.cons_append, hput_c, hput_n, List.getElem?_cons_succ, e52, e57]) | (subst hK; with_reducible repeat' (first | refine thenQ_n ?_ | refine blockQ_n ?_ | refine thenQ_e ?_ | refine blockQ_t ?_ | refine blockQ_f (by decide) ?_))))
  refine ⟨k + 1, by omega, by omega, ?_⟩
  rw [hE1, hF1, hG1]
  refine wk_to [] [(0, 0)] (by kernel_rfl) (by kernel_rfl) (by kernel_rfl) (by kernel_rfl) (by kernel_rfl) ?_ ?_ <;> repeat' (first | exact trivial | exact vr_val _ | exact vr_list _ | exact vr_ptr _ _ _ rfl | refine And.intro ⟨_, rfl, .inl ⟨_, rfl, by decide, ?_⟩⟩ ?_ | apply And.intro)
theorem msE_ok {s : List Int} {d t : Int} (h : msE s d t = 0) : gearB s t = true ∧ wI d 1 1000000 = true := by
  unfold msE at h
  split at h
  · assumption
  · cases h
theorem msE_no {s : List Int} {d t : Int} (h : msE s d t ≠ 0) : msE s d t = 1 ∧ ¬ (gearB s t = true ∧ wI d 1 1000000 = true) := by
  unfold msE at h ⊢
  split
  · rename_i h1; rw [if_pos h1] at h; exact absurd rfl h
  · rename_i h1; exact ⟨rfl, h1⟩
set_option maxRecDepth 100000 in
set_option maxHeartbeats 4000000 in
theorem measure_ac (s : List Int) (d t : Int) (hs : s.length ≤ 1000000) : AC Try.prog 27 [.list (ints s), dI d, dI t] [] [] (.tup [.agg [dI (iat (msV s d t) 0), dI (iat (msV s d t) 1), dI (iat (msV s d t) 2), dI (iat (msV s d t) 3)], dI (msE s d t)]) := by
  by_cases h : msE s d t = 0
  · obtain ⟨h1, h2⟩ := msE_ok h
    have hG := gear_ok h1
    have ht := hG.t1
    obtain ⟨k, rfl⟩ : ∃ k : Nat, t = k := ⟨t.toNat, by omega⟩
    have := measure_ok s d k hG h1 h2
    have e : msV s d k = [lvE (rsdL s k (s.length / k) s.length) s.length, lvP (rsdL s k (s.length / k) s.length) s.length, lvS (rsdL s k (s.length / k) s.length) s.length, d * k] := by unfold msV; rw [if_pos h, Int.toNat_natCast]
    rw [e, h]
    exact this
  · obtain ⟨h1, h2⟩ := msE_no h
    have e : msV s d t = [0, 0, 0, 0] := if_neg h
    rw [e, h1]
    show AC _ _ _ _ _ (.tup [.agg [dI 0, dI 0, dI 0, dI 0], dI 1])
    refine khealth_Measure.ac (n0 := 0) (by simp) ⟨.list _, .val _, .val _, trivial⟩ trivial rfl ?_
    unfold chealth_Measure
    have c1 := newGear_ac s t hs
    cases hg : gearB s t with
    | false =>
      rw [hg] at c1
      (have hg : (987654321 : Nat) - 987654321 = 0 := rfl; have hr := hg; repeat' (first | refine aw_seq ?_ | (refine aw_skip ?_; with_reducible repeat' (first | refine thenQ_n ?_ | refine blockQ_n ?_ | refine thenQ_e ?_ | refine blockQ_t ?_ | refine blockQ_f (by decide) ?_)) | (refine aw_exit ?_; with_reducible repeat' (first | refine thenQ_n ?_ | refine blockQ_n ?_ | refine thenQ_e ?_ | refine blockQ_t ?_ | refine blockQ_f (by decide) ?_)) | refine aw_ret ?_ | refine aw_block ?_ | refine aw_condT rfl ?_ | refine aw_condF rfl ?_ | ((first | refine aw_hide fun K hK => aw_region ?_ | refine acall0 (c1) ?_ | refine ago_if (by omega) ?_ | skip); simp (config := {maxSteps := 10000000}) (disch := first | exact okYes (by kernel_rfl) | omega) only [List.length, Nat.zero_add, Nat.reduceAdd, Nat.reduceMul, envOf, dI, ARun_none, AOpRun, aexec, Option.isSome, hget_n, Bool.false_eq_true, ↓reduceIte, AGo_ok, St.app, putO, eput_c, Nat.reduceBEq, eput_n, cond_false, hups, hput_n, List.map, FSt.ev, ARun_nil, dropE_c, inL_n, dropE_n, St.F, ↓eget_h, eget_c, dB, opt1, Option.map, List.getElem?_cons_zero, List.getElem?_cons_succ, hget_c, hput_c, ↓hget_h, D.isBot, D.cells, Nat.reduceLeDiff, List.all, D.leaf, Bool.and_true, and_self, splice, List.take, List.nil_append, List.drop, List.append_nil, beq_self_eq_true, cond_true, inL_c, Bool.not_false, ARun_some, AG_tf, thenQ]) | (subst hK; with_reducible repeat' (first | refine thenQ_n ?_ | refine blockQ_n ?_ | refine thenQ_e ?_ | refine blockQ_t ?_ | refine blockQ_f (by decide) ?_))))
      all_goals (refine end_to [] [] (by first | exact .inl rfl | exact .inr rfl) rfl (by kernel_rfl) (by kernel_rfl) (by kernel_rfl) ?_ ?_ <;> repeat' (first | exact trivial | exact vr_val _ | apply vr_agg | apply vr_tup | apply And.intro))
    | true =>
      rw [hg] at c1
      have c2 := hwithin_ac d 1 1000000
      cases hd : wI d 1 1000000 with
      | true => exact absurd ⟨hg, hd⟩ h2
      | false =>
        rw [hd] at c2
        (have hg : (987654321 : Nat) - 987654321 = 0 := rfl; have hr := hg; repeat' (first | refine aw_seq ?_ | (refine aw_skip ?_; with_reducible repeat' (first | refine thenQ_n ?_ | refine blockQ_n ?_ | refine thenQ_e ?_ | refine blockQ_t ?_ | refine blockQ_f (by decide) ?_)) | (refine aw_exit ?_; with_reducible repeat' (first | refine thenQ_n ?_ | refine blockQ_n ?_ | refine thenQ_e ?_ | refine blockQ_t ?_ | refine blockQ_f (by decide) ?_)) | refine aw_ret ?_ | refine aw_block ?_ | refine aw_condT rfl ?_ | refine aw_condF rfl ?_ | ((first | refine aw_hide fun K hK => aw_region ?_ | refine acall0 (c1) ?_ | refine acall0 (c2) ?_ | refine ago_if (by omega) ?_ | skip); simp (config := {maxSteps := 10000000}) (disch := first | exact okYes (by kernel_rfl) | omega) only [List.length, Nat.zero_add, Nat.reduceAdd, Nat.reduceMul, envOf, dI, ARun_none, AOpRun, aexec, Option.isSome, hget_n, Bool.false_eq_true, ↓reduceIte, AGo_ok, St.app, putO, eput_c, Nat.reduceBEq, eput_n, cond_false, hups, hput_n, List.map, FSt.ev, ARun_nil, dropE_c, inL_n, dropE_n, St.F, ↓eget_h, eget_c, dB, opt1, Option.map, List.getElem?_cons_zero, List.getElem?_cons_succ, hget_c, hput_c, ↓hget_h, D.isBot, D.cells, Nat.reduceLeDiff, List.all, D.leaf, Bool.and_true, and_self, splice, List.take, List.nil_append, List.drop, List.append_nil, beq_self_eq_true, cond_true, inL_c, Bool.not_true, ARun_some, AG_ff, Bool.not_false, thenQ]) | (subst hK; with_reducible repeat' (first | refine thenQ_n ?_ | refine blockQ_n ?_ | refine thenQ_e ?_ | refine blockQ_t ?_ | refine blockQ_f (by decide) ?_))))
        all_goals (refine end_to [] [] (by first | exact .inl rfl | exact .inr rfl) rfl (by kernel_rfl) (by kernel_rfl) (by kernel_rfl) ?_ ?_ <;> repeat' (first | exact trivial | exact vr_val _ | apply vr_agg | apply vr_tup | apply And.intro))
end Go.Proofs.Ytgibbaadjbohdaa
/- A safety case, in numbers. No conditions. -/
namespace Go.Proofs.Ytgibbaadjbohdaa
open Go.RowKit Lift

/-- a claim -/
structure Clm where
  needs : List Int
  proofs : List Int
  any : Bool
/-- a case -/
structure Cas where
  cl : List Clm
  pf : List (Int × Int)
def cl0 : Clm := ⟨[], [], false⟩
/-- strictly ascending, from 0 to below a limit -/
def Asc (l : List Int) (b : Int) : Prop := ∀ i, i < l.length → 0 ≤ l[i]?.getD 0 ∧ l[i]?.getD 0 < b ∧ (0 < i → l[i - 1]?.getD 0 < l[i]?.getD 0)
def pfOk (a : Int × Int) : Prop := 0 ≤ a.1 ∧ a.1 ≤ a.2 ∧ a.2 ≤ 2000
instance (a : Int × Int) : Decidable (pfOk a) := inferInstanceAs (Decidable (_ ∧ _))
def clAt (c : Cas) (i : Nat) : Clm := c.cl[i]?.getD cl0
def pfAt (c : Cas) (i : Nat) : Int × Int := c.pf[i]?.getD (0, 0)
structure CasOk (c : Cas) : Prop where
  n1 : c.cl.length ≤ 16
  n2 : c.pf.length ≤ 12
  asc : ∀ i, i < c.cl.length → Asc (clAt c i).needs i ∧ Asc (clAt c i).proofs c.pf.length
  pf : ∀ i, i < c.pf.length → pfOk (pfAt c i)
end Go.Proofs.Ytgibbaadjbohdaa
/- record: what a case must be, in all. No conditions. -/
namespace Go.Proofs.Ytgibbaadjbohdaa
open Go Go.RowKit Lift

instance (l : List Int) (b : Int) : Decidable (Asc l b) := inferInstanceAs (Decidable (∀ i, i < l.length → _))
/-- what came in -/
structure CasIn (c : Cas) : Prop where
  n1 : c.cl.length ≤ maxLen
  n2 : c.pf.length ≤ maxLen
  l1 : ∀ i, (clAt c i).needs.length ≤ 1000000
  l2 : ∀ i, (clAt c i).proofs.length ≤ 1000000
end Go.Proofs.Ytgibbaadjbohdaa
/- law12: the example and what is made of it. No conditions. -/
namespace Go.Proofs.Ytgibbaadjbohdaa
open Go Go.RowKit Lift

def isV : D → Bool
  | .val _ => true
  | .list _ => true
  | _ => false
theorem vals_in {S : Nat → Prop} {c : List D} (h : c.all isV = true) : ∀ d ∈ c, In S d := fun d hd => by
  have := List.all_eq_true.1 h d hd
  cases d <;> first | exact .val _ | exact .list _ | (simp [isV] at this)
end Go.Proofs.Ytgibbaadjbohdaa
