/- Texts of the laws, shared part 8. No conditions. -/
import Derived.Test.YtdcodicoclecnaaPRecA07
import Derived.Test.YtdcodicoclecnaaRows
/- The functions' bodies, translated. Written by a program; no conditions. -/
namespace Go.Proofs.Ytdcodicoclecnaa
open Go.RowKit Lift

/-- record_Good -/
def crecord_Good_B19 : ACode :=
  (.block 1
    (.region false [⟨some 21, .load1 (.tmp 4), none, []⟩,
      ⟨some 22, .mv (.tmp 7), none, []⟩,
      ⟨some 23, .buildSl 1 1 [(.val (.int .i64 0))] [(0, 1, (.tmp 22))], none, []⟩,
      ⟨some 24, .app 1 8 (.tmp 21) (.tmp 23), none, []⟩,
      ⟨none, .store 1 (.tmp 4) (.tmp 24), none, []⟩] [21, 22, 23, 24]))
def crecord_Good : ACode :=
  (.seq
   (.region false [⟨some 2, .box (.tmp 0), none, []⟩,
     ⟨some 4, .mem [(.val (.slice none 0 0))], none, []⟩,
     ⟨some 5, .mv (.const (.int .i64 0)), none, []⟩] [])
  (.seq
   (.region false [⟨some 9, .loadN 6 (.tmp 2), none, []⟩,
     ⟨some 10, .mv (.tmp 1), none, []⟩,
     ⟨some 11, .call (.func 71) [(.tmp 9), (.tmp 10)], none, []⟩,
     ⟨some 8, .mv (.tmp 11), none, []⟩,
     ⟨some 12, .ext (.tmp 8) 0, none, []⟩,
     ⟨some 13, .ext (.tmp 8) 1, none, []⟩,
     ⟨some 6, .mv (.tmp 12), none, []⟩,
     ⟨some 5, .mv (.tmp 13), none, []⟩] [9, 10, 11, 8, 12, 13])
  (.seq
   (.seq
    (.region false [⟨some 14, .mv (.tmp 5), none, []⟩,
      ⟨some 15, .bin .neq (.tmp 14) (.const (.int .i64 0)), none, []⟩] [14])
   (.cond (.tmp 15)
     (.seq
      (.region false [⟨some 16, .mv (.tmp 5), none, []⟩,
        ⟨none, .store 1 (.tmp 4) (.const (.slice none 0 0)), none, []⟩,
        ⟨some 5, .mv (.tmp 16), none, []⟩] [16])
     .ret)
     .skip))
  (.seq
   (.seq
    (.region false [⟨some 17, .mv (.tmp 6), none, []⟩,
      ⟨some 18, .mkfn 72 [(.tmp 17)] [], none, []⟩] [17])
   (.block 0
     (.rangeFunc (.tmp 18) [19, 20] [(7, 19)] crecord_Good_B19)))
  (.seq
   (.region false [⟨some 25, .load1 (.tmp 4), none, []⟩,
     ⟨none, .store 1 (.tmp 4) (.tmp 25), none, []⟩,
     ⟨some 5, .mv (.const (.int .i64 0)), none, []⟩] [25])
  .ret)))))
set_option maxRecDepth 100000 in
theorem krecord_Good : IsCode Try.prog 23 26 crecord_Good [.cell1 4, .tmp 5] :=
  ⟨Try.f23, _, [19, 20, 18, 15, 0, 2, 1, 5, 4, 6, 7], Try.func23, rfl, by decide, rfl, by kernel_rfl, by kernel_rfl⟩
/-- record_Slips -/
def crecord_Slips_B22 : ACode :=
  (.block 1
    (.seq
     (.seq
      (.region false [⟨some 24, .load1 (.tmp 7), none, []⟩,
        ⟨some 25, .bin .geq (.tmp 24) (.const (.int .i64 0)), none, []⟩,
        ⟨some 26, .mv (.tmp 25), none, []⟩,
        ⟨some 27, .mv (.tmp 10), (some (some 26, true)), []⟩,
        ⟨some 28, .load1 (.tmp 8), (some (some 26, true)), []⟩,
        ⟨some 29, .bin .sub (.tmp 27) (.tmp 28), (some (some 26, true)), []⟩,
        ⟨some 30, .mv (.tmp 9), (some (some 26, true)), []⟩,
        ⟨some 31, .load1 (.tmp 7), (some (some 26, true)), []⟩,
        ⟨some 32, .bin .sub (.tmp 30) (.tmp 31), (some (some 26, true)), []⟩,
        ⟨some 33, .bin .sub (.tmp 29) (.tmp 32), (some (some 26, true)), []⟩,
        ⟨some 34, .bin .rem (.tmp 33) (.const (.int .i64 4)), (some (some 26, true)), []⟩,
        ⟨some 35, .bin .neq (.tmp 34) (.const (.int .i64 0)), (some (some 26, true)), []⟩,
        ⟨some 36, .pick (.tmp 26) (.tmp 35) (.const (.bool false)), none, []⟩] [24, 25, 26, 27, 28, 29, 30, 31, 32, 33, 34, 35])
     (.cond (.tmp 36)
       (.region false [⟨some 37, .load1 (.tmp 4), none, []⟩,
         ⟨some 38, .mv (.tmp 9), none, []⟩,
         ⟨some 39, .buildSl 1 1 [(.val (.int .i64 0))] [(0, 1, (.tmp 38))], none, []⟩,
         ⟨some 40, .app 1 8 (.tmp 37) (.tmp 39), none, []⟩,
         ⟨none, .store 1 (.tmp 4) (.tmp 40), none, []⟩] [37, 38, 39, 40])
       .skip))
    (.region false [⟨some 41, .mv (.tmp 9), none, []⟩,
      ⟨some 42, .mv (.tmp 10), none, []⟩,
      ⟨none, .store 1 (.tmp 7) (.tmp 41), none, []⟩,
      ⟨none, .store 1 (.tmp 8) (.tmp 42), none, []⟩] [41, 42])))
def crecord_Slips : ACode :=
  (.seq
   (.region false [⟨some 2, .box (.tmp 0), none, []⟩,
     ⟨some 4, .mem [(.val (.slice none 0 0))], none, []⟩,
     ⟨some 5, .mv (.const (.int .i64 0)), none, []⟩] [])
  (.seq
   (.region false [⟨some 12, .loadN 6 (.tmp 2), none, []⟩,
     ⟨some 13, .mv (.tmp 1), none, []⟩,
     ⟨some 14, .call (.func 71) [(.tmp 12), (.tmp 13)], none, []⟩,
     ⟨some 11, .mv (.tmp 14), none, []⟩,
     ⟨some 15, .ext (.tmp 11) 0, none, []⟩,
     ⟨some 16, .ext (.tmp 11) 1, none, []⟩,
     ⟨some 6, .mv (.tmp 15), none, []⟩,
     ⟨some 5, .mv (.tmp 16), none, []⟩] [12, 13, 14, 11, 15, 16])
  (.seq
   (.seq
    (.region false [⟨some 17, .mv (.tmp 5), none, []⟩,
      ⟨some 18, .bin .neq (.tmp 17) (.const (.int .i64 0)), none, []⟩] [17])
   (.cond (.tmp 18)
     (.seq
      (.region false [⟨some 19, .mv (.tmp 5), none, []⟩,
        ⟨none, .store 1 (.tmp 4) (.const (.slice none 0 0)), none, []⟩,
        ⟨some 5, .mv (.tmp 19), none, []⟩] [19])
     .ret)
     .skip))
  (.seq
   (.region false [⟨some 7, .mem [(.val (.int .i64 0))], none, []⟩,
     ⟨some 8, .mem [(.val (.int .i64 0))], none, []⟩,
     ⟨none, .store 1 (.tmp 7) (.const (.int .i64 (-1))), none, []⟩,
     ⟨none, .store 1 (.tmp 8) (.const (.int .i64 0)), none, []⟩] [])
  (.seq
   (.seq
    (.region false [⟨some 20, .mv (.tmp 6), none, []⟩,
      ⟨some 21, .mkfn 72 [(.tmp 20)] [], none, []⟩] [20])
   (.block 0
     (.rangeFunc (.tmp 21) [22, 23] [(9, 22), (10, 23)] crecord_Slips_B22)))
  (.seq
   (.region false [⟨some 43, .load1 (.tmp 4), none, []⟩,
     ⟨none, .store 1 (.tmp 4) (.tmp 43), none, []⟩,
     ⟨some 5, .mv (.const (.int .i64 0)), none, []⟩] [43])
  .ret))))))
set_option maxRecDepth 100000 in
theorem krecord_Slips : IsCode Try.prog 25 44 crecord_Slips [.cell1 4, .tmp 5] :=
  ⟨Try.f25, _, [36, 22, 23, 21, 18, 0, 2, 1, 5, 4, 6, 7, 10, 8, 9], Try.func25, rfl, by decide, rfl, by kernel_rfl, by kernel_rfl⟩
/-- record_Read -/
def crecord_Read_B25 : ACode :=
  (.block 1
    (.region false [⟨some 27, .load1 (.tmp 6), none, []⟩,
      ⟨some 28, .mv (.tmp 9), none, []⟩,
      ⟨some 29, .mv (.tmp 10), none, []⟩,
      ⟨some 30, .build [(.val (.int .i64 0)), (.val (.int .i64 0))] [(0, 1, (.tmp 28)), (1, 1, (.tmp 29))], none, []⟩,
      ⟨some 31, .buildSl 2 1 [(.val (.int .i64 0)), (.val (.int .i64 0))] [(0, 2, (.tmp 30))], none, []⟩,
      ⟨some 32, .app 2 16 (.tmp 27) (.tmp 31), none, []⟩,
      ⟨none, .store 1 (.tmp 6) (.tmp 32), none, []⟩] [27, 28, 29, 30, 31, 32]))
def crecord_Read : ACode :=
  (.seq
   (.region false [⟨some 3, .box (.tmp 0), none, []⟩,
     ⟨some 6, .mem [(.val (.slice none 0 0))], none, []⟩,
     ⟨some 7, .mv (.const (.int .i64 0)), none, []⟩] [])
  (.seq
   (.region false [⟨some 12, .loadN 6 (.tmp 3), none, []⟩,
     ⟨some 13, .mv (.tmp 1), none, []⟩,
     ⟨some 14, .mv (.tmp 2), none, []⟩,
     ⟨some 15, .buildSl 1 1 [(.val (.int .i64 0))] [(0, 1, (.tmp 14))], none, []⟩,
     ⟨some 16, .call (.func 66) [(.tmp 12), (.tmp 13), (.tmp 15)], none, []⟩,
     ⟨some 11, .mv (.tmp 16), none, []⟩,
     ⟨some 17, .ext (.tmp 11) 0, none, []⟩,
     ⟨some 18, .ext (.tmp 11) 1, none, []⟩,
     ⟨some 8, .mv (.tmp 17), none, []⟩,
     ⟨some 7, .mv (.tmp 18), none, []⟩] [12, 13, 14, 15, 16, 11, 17, 18])
  (.seq
   (.seq
    (.region false [⟨some 19, .mv (.tmp 7), none, []⟩,
      ⟨some 20, .bin .neq (.tmp 19) (.const (.int .i64 0)), none, []⟩] [19])
   (.cond (.tmp 20)
     (.seq
      (.region false [⟨some 21, .mv (.tmp 7), none, []⟩,
        ⟨none, .store 1 (.tmp 6) (.const (.slice none 0 0)), none, []⟩,
        ⟨some 7, .mv (.tmp 21), none, []⟩] [21])
     .ret)
     .skip))
  (.seq
   (.seq
    (.region false [⟨some 22, .mv (.tmp 8), none, []⟩,
      ⟨some 23, .mv (.tmp 2), none, []⟩,
      ⟨some 24, .call (.func 67) [(.tmp 22), (.tmp 23)], none, []⟩] [22, 23])
   (.block 0
     (.rangeFunc (.tmp 24) [25, 26] [(9, 25), (10, 26)] crecord_Read_B25)))
  (.seq
   (.region false [⟨some 33, .load1 (.tmp 6), none, []⟩,
     ⟨none, .store 1 (.tmp 6) (.tmp 33), none, []⟩,
     ⟨some 7, .mv (.const (.int .i64 0)), none, []⟩] [33])
  .ret)))))
set_option maxRecDepth 100000 in
theorem krecord_Read : IsCode Try.prog 18 34 crecord_Read [.cell1 6, .tmp 7] :=
  ⟨Try.f18, _, [25, 26, 24, 20, 0, 3, 1, 2, 7, 6, 8, 9, 10], Try.func18, rfl, by decide, rfl, by kernel_rfl, by kernel_rfl⟩
/-- record_Peak -/
def crecord_Peak_B26 : ACode :=
  (.block 1
    (.seq
     (.region false [⟨some 28, .load1 (.tmp 6), none, []⟩,
       ⟨some 29, .bin .lss (.tmp 28) (.const (.int .i64 0)), none, []⟩,
       ⟨some 30, .mv (.tmp 29), none, []⟩,
       ⟨some 31, .mv (.tmp 11), (some (some 30, false)), []⟩,
       ⟨some 32, .load1 (.tmp 7), (some (some 30, false)), []⟩,
       ⟨some 33, .bin .gtr (.tmp 31) (.tmp 32), (some (some 30, false)), []⟩,
       ⟨some 34, .pick (.tmp 30) (.const (.bool true)) (.tmp 33), none, []⟩] [28, 29, 30, 31, 32, 33])
    (.cond (.tmp 34)
      (.region false [⟨some 35, .mv (.tmp 10), none, []⟩,
        ⟨some 36, .mv (.tmp 11), none, []⟩,
        ⟨none, .store 1 (.tmp 6) (.tmp 35), none, []⟩,
        ⟨none, .store 1 (.tmp 7) (.tmp 36), none, []⟩] [35, 36])
      .skip)))
def crecord_Peak : ACode :=
  (.seq
   (.region false [⟨some 3, .box (.tmp 0), none, []⟩,
     ⟨some 6, .mem [(.val (.int .i64 0))], none, []⟩,
     ⟨some 7, .mem [(.val (.int .i64 0))], none, []⟩,
     ⟨some 8, .mv (.const (.int .i64 0)), none, []⟩] [])
  (.seq
   (.region false [⟨some 13, .loadN 6 (.tmp 3), none, []⟩,
     ⟨some 14, .mv (.tmp 1), none, []⟩,
     ⟨some 15, .mv (.tmp 2), none, []⟩,
     ⟨some 16, .buildSl 1 1 [(.val (.int .i64 0))] [(0, 1, (.tmp 15))], none, []⟩,
     ⟨some 17, .call (.func 66) [(.tmp 13), (.tmp 14), (.tmp 16)], none, []⟩,
     ⟨some 12, .mv (.tmp 17), none, []⟩,
     ⟨some 18, .ext (.tmp 12) 0, none, []⟩,
     ⟨some 19, .ext (.tmp 12) 1, none, []⟩,
     ⟨some 9, .mv (.tmp 18), none, []⟩,
     ⟨some 8, .mv (.tmp 19), none, []⟩] [13, 14, 15, 16, 17, 12, 18, 19])
  (.seq
   (.seq
    (.region false [⟨some 20, .mv (.tmp 8), none, []⟩,
      ⟨some 21, .bin .neq (.tmp 20) (.const (.int .i64 0)), none, []⟩] [20])
   (.cond (.tmp 21)
     (.seq
      (.region false [⟨some 22, .mv (.tmp 8), none, []⟩,
        ⟨none, .store 1 (.tmp 6) (.const (.int .i64 0)), none, []⟩,
        ⟨none, .store 1 (.tmp 7) (.const (.int .i64 0)), none, []⟩,
        ⟨some 8, .mv (.tmp 22), none, []⟩] [22])
     .ret)
     .skip))
  (.seq
   (.region false [⟨none, .store 1 (.tmp 6) (.const (.int .i64 (-1))), none, []⟩] [])
  (.seq
   (.seq
    (.region false [⟨some 23, .mv (.tmp 9), none, []⟩,
      ⟨some 24, .mv (.tmp 2), none, []⟩,
      ⟨some 25, .call (.func 67) [(.tmp 23), (.tmp 24)], none, []⟩] [23, 24])
   (.block 0
     (.rangeFunc (.tmp 25) [26, 27] [(10, 26), (11, 27)] crecord_Peak_B26)))
  (.seq
   (.seq
    (.region false [⟨some 37, .load1 (.tmp 6), none, []⟩,
      ⟨some 38, .bin .lss (.tmp 37) (.const (.int .i64 0)), none, []⟩] [37])
   (.cond (.tmp 38)
     (.seq
      (.region false [⟨none, .store 1 (.tmp 6) (.const (.int .i64 0)), none, []⟩,
        ⟨none, .store 1 (.tmp 7) (.const (.int .i64 0)), none, []⟩,
        ⟨some 8, .mv (.const (.int .i64 3)), none, []⟩] [])
     .ret)
     .skip))
  (.seq
   (.region true [⟨some 39, .load1 (.tmp 6), none, []⟩,
     ⟨some 40, .load1 (.tmp 7), none, []⟩,
     ⟨none, .store 1 (.tmp 6) (.tmp 39), none, [0]⟩,
     ⟨none, .store 1 (.tmp 7) (.tmp 40), none, [1, 2, 0]⟩,
     ⟨some 8, .mv (.const (.int .i64 0)), none, [3, 1, 2, 0]⟩] [39, 40])
  .ret)))))))
set_option maxRecDepth 100000 in
theorem krecord_Peak : IsCode Try.prog 20 41 crecord_Peak [.cell1 6, .cell1 7, .tmp 8] :=
  ⟨Try.f20, _, [38, 34, 26, 27, 25, 21, 0, 3, 1, 2, 8, 6, 7, 9, 11, 10], Try.func20, rfl, by decide, rfl, by kernel_rfl, by kernel_rfl⟩
/-- ref12_CopyLayout -/
def cref12_CopyLayout : ACode :=
  (.seq
   (.region false [⟨some 1, .box (.tmp 0), none, []⟩,
     ⟨some 2, .mem [(.val (.int .i64 0)), (.val (.int .i64 0)), (.val (.int .i64 0)), (.val (.int .i64 0)), (.val (.int .i64 0)), (.val (.slice none 0 0))], none, []⟩] [])
  (.seq
   (.region false [⟨some 4, .loadN 6 (.tmp 1), none, []⟩,
     ⟨some 3, .mem [(.val (.int .i64 0)), (.val (.int .i64 0)), (.val (.int .i64 0)), (.val (.int .i64 0)), (.val (.int .i64 0)), (.val (.slice none 0 0))], none, []⟩,
     ⟨none, .store 6 (.tmp 3) (.tmp 4), none, []⟩] [4])
  (.seq
   (.region false [⟨some 5, .buildSl 9 0 [] [], none, []⟩,
     ⟨some 6, .fad 5 (.tmp 1), none, []⟩,
     ⟨some 7, .load1 (.tmp 6), none, []⟩,
     ⟨some 8, .app 9 72 (.tmp 5) (.tmp 7), none, []⟩,
     ⟨some 9, .fad 5 (.tmp 3), none, []⟩,
     ⟨none, .store 1 (.tmp 9) (.tmp 8), none, []⟩] [5, 6, 7, 8, 9])
  (.seq
   (.region false [⟨some 10, .loadN 6 (.tmp 3), none, []⟩,
     ⟨none, .store 6 (.tmp 2) (.tmp 10), none, []⟩] [10])
  .ret))))
set_option maxRecDepth 100000 in
theorem kref12_CopyLayout : IsCode Try.prog 31 11 cref12_CopyLayout [.cellN 2 6] :=
  ⟨Try.f31, _, [0, 1, 3, 2], Try.func31, rfl, by decide, rfl, by kernel_rfl, by kernel_rfl⟩
/-- ref12_CopyFrames -/
def cref12_CopyFrames : ACode :=
  (.seq
   (.region false [⟨some 2, .mv (.const (.slice none 0 0)), none, []⟩] [])
  (.seq
   (.region false [⟨some 3, .mv (.const (.slice none 0 0)), none, []⟩] [])
  (.seq
   (.seq
    (.region false [⟨some 4, .mv (.const (.int .i64 0)), none, []⟩] [])
   (.block 0
     (.loop
       (.seq
        (.seq
         (.region false [⟨some 5, .mv (.tmp 4), none, []⟩,
           ⟨some 6, .mv (.tmp 0), none, []⟩,
           ⟨some 7, .len_ (.tmp 6), none, []⟩,
           ⟨some 8, .bin .lss (.tmp 5) (.tmp 7), none, []⟩] [5, 6, 7])
        (.cond (.tmp 8)
          .skip
          (.exit 0)))
       (.seq
        (.block 1
          (.region false [⟨some 11, .mv (.tmp 3), none, []⟩,
            ⟨some 12, .buildSl 1 0 [] [], none, []⟩,
            ⟨some 13, .mv (.tmp 0), none, []⟩,
            ⟨some 14, .mv (.tmp 4), none, []⟩,
            ⟨some 15, .iadS 1 (.tmp 13) (.tmp 14), none, []⟩,
            ⟨some 16, .load1 (.tmp 15), none, []⟩,
            ⟨some 17, .app 1 8 (.tmp 12) (.tmp 16), none, []⟩,
            ⟨some 18, .buildSl 1 1 [(.val (.slice none 0 0))] [(0, 1, (.tmp 17))], none, []⟩,
            ⟨some 19, .app 1 24 (.tmp 11) (.tmp 18), none, []⟩,
            ⟨some 3, .mv (.tmp 19), none, []⟩] [11, 12, 13, 14, 15, 16, 17, 18, 19]))
       (.region false [⟨some 9, .mv (.tmp 4), none, []⟩,
         ⟨some 10, .bin .add (.tmp 9) (.const (.int .i64 1)), none, []⟩,
         ⟨some 4, .mv (.tmp 10), none, []⟩] [9, 10]))))))
  (.seq
   (.region false [⟨some 20, .mv (.tmp 3), none, []⟩,
     ⟨some 2, .mv (.tmp 20), none, []⟩] [20])
  .ret))))
set_option maxRecDepth 100000 in
theorem kref12_CopyFrames : IsCode Try.prog 65 21 cref12_CopyFrames [.tmp 2] :=
  ⟨Try.f65, _, [8, 4, 0, 3, 2], Try.func65, rfl, by decide, rfl, by kernel_rfl, by kernel_rfl⟩
/-- law12_own -/
def claw12_own : ACode :=
  (.seq
   (.region false [⟨some 1, .box (.tmp 0), none, []⟩,
     ⟨some 2, .mem [(.val (.int .i64 0)), (.val (.int .i64 0)), (.val (.int .i64 0)), (.val (.int .i64 0)), (.val (.int .i64 0)), (.val (.slice none 0 0)), (.val (.slice none 0 0))], none, []⟩] [])
  (.seq
   (.region true [⟨some 3, .fad 0 (.tmp 1), none, []⟩,
     ⟨some 4, .loadN 6 (.tmp 3), none, [0]⟩,
     ⟨some 5, .call (.func 31) [(.tmp 4)], none, [1, 0]⟩,
     ⟨some 6, .fad 6 (.tmp 1), none, []⟩,
     ⟨some 7, .load1 (.tmp 6), none, [3]⟩,
     ⟨some 8, .call (.func 65) [(.tmp 7)], none, [4, 3, 2, 1, 0]⟩,
     ⟨some 9, .build [(.val (.int .i64 0)), (.val (.int .i64 0)), (.val (.int .i64 0)), (.val (.int .i64 0)), (.val (.int .i64 0)), (.val (.slice none 0 0)), (.val (.slice none 0 0))] [(0, 6, (.tmp 5)), (6, 1, (.tmp 8))], none, [2, 1, 0, 5, 4, 3]⟩,
     ⟨none, .store 7 (.tmp 2) (.tmp 9), none, [6, 2, 1, 0, 5, 4, 3]⟩] [3, 4, 5, 6, 7, 8, 9])
  .ret))
set_option maxRecDepth 100000 in
theorem klaw12_own : IsCode Try.prog 17 10 claw12_own [.cellN 2 7] :=
  ⟨Try.f17, _, [0, 1, 2], Try.func17, rfl, by decide, rfl, by kernel_rfl, by kernel_rfl⟩
/-- law12_Far -/
def claw12_Far : ACode :=
  (.seq
   (.region false [⟨some 1, .box (.tmp 0), none, []⟩,
     ⟨some 2, .mv (.const (.bool false)), none, []⟩] [])
  (.seq
   (.seq
    (.region false [⟨some 4, .fad 0 (.tmp 1), none, []⟩,
      ⟨some 5, .fad 5 (.tmp 4), none, []⟩,
      ⟨some 6, .load1 (.tmp 5), none, []⟩,
      ⟨some 7, .len_ (.tmp 6), none, []⟩,
      ⟨some 8, .bin .gtr (.tmp 7) (.const (.int .i64 20)), none, []⟩,
      ⟨some 9, .mv (.tmp 8), none, []⟩,
      ⟨some 10, .fad 6 (.tmp 1), (some (some 9, false)), []⟩,
      ⟨some 11, .load1 (.tmp 10), (some (some 9, false)), []⟩,
      ⟨some 12, .len_ (.tmp 11), (some (some 9, false)), []⟩,
      ⟨some 13, .bin .gtr (.tmp 12) (.const (.int .i64 220)), (some (some 9, false)), []⟩,
      ⟨some 14, .pick (.tmp 9) (.const (.bool true)) (.tmp 13), none, []⟩] [4, 5, 6, 7, 8, 9, 10, 11, 12, 13])
   (.cond (.tmp 14)
     (.seq
      (.region false [⟨some 2, .mv (.const (.bool true)), none, []⟩] [])
     .ret)
     .skip))
  (.seq
   (.seq
    (.region false [⟨some 3, .mv (.const (.int .i64 0)), none, []⟩] [])
   (.block 0
     (.loop
       (.seq
        (.seq
         (.region false [⟨some 15, .mv (.tmp 3), none, []⟩,
           ⟨some 16, .fad 6 (.tmp 1), none, []⟩,
           ⟨some 17, .load1 (.tmp 16), none, []⟩,
           ⟨some 18, .len_ (.tmp 17), none, []⟩,
           ⟨some 19, .bin .lss (.tmp 15) (.tmp 18), none, []⟩] [15, 16, 17, 18])
        (.cond (.tmp 19)
          .skip
          (.exit 0)))
       (.seq
        (.block 1
          (.seq
           (.region false [⟨some 22, .fad 6 (.tmp 1), none, []⟩,
             ⟨some 23, .load1 (.tmp 22), none, []⟩,
             ⟨some 24, .mv (.tmp 3), none, []⟩,
             ⟨some 25, .iadS 1 (.tmp 23) (.tmp 24), none, []⟩,
             ⟨some 26, .load1 (.tmp 25), none, []⟩,
             ⟨some 27, .len_ (.tmp 26), none, []⟩,
             ⟨some 28, .bin .gtr (.tmp 27) (.const (.int .i64 50)), none, []⟩] [22, 23, 24, 25, 26, 27])
          (.cond (.tmp 28)
            (.seq
             (.region false [⟨some 2, .mv (.const (.bool true)), none, []⟩] [])
            .ret)
            .skip)))
       (.region false [⟨some 20, .mv (.tmp 3), none, []⟩,
         ⟨some 21, .bin .add (.tmp 20) (.const (.int .i64 1)), none, []⟩,
         ⟨some 3, .mv (.tmp 21), none, []⟩] [20, 21]))))))
  (.seq
   (.region false [⟨some 2, .mv (.const (.bool false)), none, []⟩] [])
  .ret))))
set_option maxRecDepth 100000 in
theorem klaw12_Far : IsCode Try.prog 15 29 claw12_Far [.tmp 2] :=
  ⟨Try.f15, _, [28, 19, 14, 0, 1, 3, 2], Try.func15, rfl, by decide, rfl, by kernel_rfl, by kernel_rfl⟩
/-- law12_sameInts -/
def claw12_sameInts : ACode :=
  (.seq
   (.region false [⟨some 4, .mv (.const (.bool false)), none, []⟩] [])
  (.seq
   (.seq
    (.region false [⟨some 6, .mv (.tmp 0), none, []⟩,
      ⟨some 7, .len_ (.tmp 6), none, []⟩,
      ⟨some 8, .mv (.tmp 1), none, []⟩,
      ⟨some 9, .len_ (.tmp 8), none, []⟩,
      ⟨some 10, .bin .neq (.tmp 7) (.tmp 9), none, []⟩] [6, 7, 8, 9])
   (.cond (.tmp 10)
     (.seq
      (.region false [⟨some 4, .mv (.const (.bool false)), none, []⟩] [])
     .ret)
     .skip))
  (.seq
   (.seq
    (.region false [⟨some 5, .mv (.const (.int .i64 0)), none, []⟩] [])
   (.block 0
     (.loop
       (.seq
        (.seq
         (.region false [⟨some 11, .mv (.tmp 5), none, []⟩,
           ⟨some 12, .mv (.tmp 0), none, []⟩,
           ⟨some 13, .len_ (.tmp 12), none, []⟩,
           ⟨some 14, .bin .lss (.tmp 11) (.tmp 13), none, []⟩] [11, 12, 13])
        (.cond (.tmp 14)
          .skip
          (.exit 0)))
       (.seq
        (.block 1
          (.seq
           (.region true [⟨some 17, .mv (.tmp 0), none, []⟩,
             ⟨some 18, .mv (.tmp 5), none, []⟩,
             ⟨some 19, .iadS 1 (.tmp 17) (.tmp 18), none, [0, 1]⟩,
             ⟨some 20, .load1 (.tmp 19), none, [2, 0, 1]⟩,
             ⟨some 21, .mv (.tmp 1), none, []⟩,
             ⟨some 22, .mv (.tmp 5), none, []⟩,
             ⟨some 23, .iadS 1 (.tmp 21) (.tmp 22), none, [4, 5]⟩,
             ⟨some 24, .load1 (.tmp 23), none, [6, 4, 5]⟩,
             ⟨some 25, .bin .neq (.tmp 20) (.tmp 24), none, [3, 2, 0, 1, 7, 6, 4, 5]⟩] [17, 18, 19, 20, 21, 22, 23, 24])
          (.cond (.tmp 25)
            (.seq
             (.region false [⟨some 4, .mv (.const (.bool false)), none, []⟩] [])
            .ret)
            .skip)))
       (.region false [⟨some 15, .mv (.tmp 5), none, []⟩,
         ⟨some 16, .bin .add (.tmp 15) (.const (.int .i64 1)), none, []⟩,
         ⟨some 5, .mv (.tmp 16), none, []⟩] [15, 16]))))))
  (.seq
   (.region false [⟨some 4, .mv (.const (.bool true)), none, []⟩] [])
  .ret))))
set_option maxRecDepth 100000 in
theorem klaw12_sameInts : IsCode Try.prog 29 26 claw12_sameInts [.tmp 4] :=
  ⟨Try.f29, _, [25, 14, 10, 0, 1, 5, 4], Try.func29, rfl, by decide, rfl, by kernel_rfl, by kernel_rfl⟩
/-- law12_samePairs -/
def claw12_samePairs : ACode :=
  (.seq
   (.region false [⟨some 4, .mv (.const (.bool false)), none, []⟩] [])
  (.seq
   (.seq
    (.region false [⟨some 6, .mv (.tmp 0), none, []⟩,
      ⟨some 7, .len_ (.tmp 6), none, []⟩,
      ⟨some 8, .mv (.tmp 1), none, []⟩,
      ⟨some 9, .len_ (.tmp 8), none, []⟩,
      ⟨some 10, .bin .neq (.tmp 7) (.tmp 9), none, []⟩] [6, 7, 8, 9])
   (.cond (.tmp 10)
     (.seq
      (.region false [⟨some 4, .mv (.const (.bool false)), none, []⟩] [])
     .ret)
     .skip))
  (.seq
   (.seq
    (.region false [⟨some 5, .mv (.const (.int .i64 0)), none, []⟩] [])
   (.block 0
     (.loop
       (.seq
        (.seq
         (.region false [⟨some 11, .mv (.tmp 5), none, []⟩,
           ⟨some 12, .mv (.tmp 0), none, []⟩,
           ⟨some 13, .len_ (.tmp 12), none, []⟩,
           ⟨some 14, .bin .lss (.tmp 11) (.tmp 13), none, []⟩] [11, 12, 13])
        (.cond (.tmp 14)
          .skip
          (.exit 0)))
       (.seq
        (.block 1
          (.seq
           (.region true [⟨some 17, .mv (.tmp 0), none, []⟩,
             ⟨some 18, .mv (.tmp 5), none, []⟩,
             ⟨some 19, .iadS 2 (.tmp 17) (.tmp 18), none, [0, 1]⟩,
             ⟨some 20, .loadN 2 (.tmp 19), none, [2, 0, 1]⟩,
             ⟨some 21, .mv (.tmp 1), none, []⟩,
             ⟨some 22, .mv (.tmp 5), none, []⟩,
             ⟨some 23, .iadS 2 (.tmp 21) (.tmp 22), none, [4, 5]⟩,
             ⟨some 24, .loadN 2 (.tmp 23), none, [6, 4, 5]⟩,
             ⟨some 25, .eqa true [false, false] (.tmp 20) (.tmp 24), none, [3, 2, 0, 1, 7, 6, 4, 5]⟩] [17, 18, 19, 20, 21, 22, 23, 24])
          (.cond (.tmp 25)
            (.seq
             (.region false [⟨some 4, .mv (.const (.bool false)), none, []⟩] [])
            .ret)
            .skip)))
       (.region false [⟨some 15, .mv (.tmp 5), none, []⟩,
         ⟨some 16, .bin .add (.tmp 15) (.const (.int .i64 1)), none, []⟩,
         ⟨some 5, .mv (.tmp 16), none, []⟩] [15, 16]))))))
  (.seq
   (.region false [⟨some 4, .mv (.const (.bool true)), none, []⟩] [])
  .ret))))
set_option maxRecDepth 100000 in
theorem klaw12_samePairs : IsCode Try.prog 22 26 claw12_samePairs [.tmp 4] :=
  ⟨Try.f22, _, [25, 14, 10, 0, 1, 5, 4], Try.func22, rfl, by decide, rfl, by kernel_rfl, by kernel_rfl⟩
/-- law12_RecordChecks -/
def claw12_RecordChecks : ACode :=
  (.seq
   (.region false [⟨some 1, .box (.tmp 0), none, []⟩,
     ⟨some 2, .mv (.const (.bool false)), none, []⟩] [])
  (.seq
   (.seq
    (.region false [⟨some 12, .loadN 7 (.tmp 1), none, []⟩,
      ⟨some 13, .call (.func 15) [(.tmp 12)], none, []⟩] [12])
   (.cond (.tmp 13)
     (.seq
      (.region false [⟨some 14, .call (.func 16) [], none, []⟩,
        ⟨some 2, .mv (.tmp 14), none, []⟩] [14])
     .ret)
     .skip))
  (.seq
   (.region false [⟨some 15, .loadN 7 (.tmp 1), none, []⟩,
     ⟨some 16, .call (.func 17) [(.tmp 15)], none, []⟩,
     ⟨some 3, .mem [(.val (.int .i64 0)), (.val (.int .i64 0)), (.val (.int .i64 0)), (.val (.int .i64 0)), (.val (.int .i64 0)), (.val (.slice none 0 0)), (.val (.slice none 0 0))], none, []⟩,
     ⟨none, .store 7 (.tmp 3) (.tmp 16), none, []⟩] [15, 16])
  (.seq
   (.region false [⟨some 18, .fad 0 (.tmp 3), none, []⟩,
     ⟨some 19, .loadN 6 (.tmp 18), none, []⟩,
     ⟨some 20, .fad 6 (.tmp 3), none, []⟩,
     ⟨some 21, .load1 (.tmp 20), none, []⟩,
     ⟨some 22, .call (.func 23) [(.tmp 19), (.tmp 21)], none, []⟩,
     ⟨some 17, .mv (.tmp 22), none, []⟩,
     ⟨some 23, .ext (.tmp 17) 0, none, []⟩,
     ⟨some 24, .ext (.tmp 17) 1, none, []⟩,
     ⟨some 4, .mv (.tmp 23), none, []⟩,
     ⟨some 5, .mv (.tmp 24), none, []⟩] [18, 19, 20, 21, 22, 17, 23, 24])
  (.seq
   (.region false [⟨some 26, .fad 0 (.tmp 1), none, []⟩,
     ⟨some 27, .loadN 6 (.tmp 26), none, []⟩,
     ⟨some 28, .fad 6 (.tmp 1), none, []⟩,
     ⟨some 29, .load1 (.tmp 28), none, []⟩,
     ⟨some 30, .call (.func 24) [(.tmp 27), (.tmp 29)], none, []⟩,
     ⟨some 25, .mv (.tmp 30), none, []⟩,
     ⟨some 31, .ext (.tmp 25) 0, none, []⟩,
     ⟨some 32, .ext (.tmp 25) 1, none, []⟩,
     ⟨some 6, .mv (.tmp 31), none, []⟩,
     ⟨some 7, .mv (.tmp 32), none, []⟩] [26, 27, 28, 29, 30, 25, 31, 32])
  (.seq
   (.region false [⟨some 34, .fad 0 (.tmp 3), none, []⟩,
     ⟨some 35, .loadN 6 (.tmp 34), none, []⟩,
     ⟨some 36, .fad 6 (.tmp 3), none, []⟩,
     ⟨some 37, .load1 (.tmp 36), none, []⟩,
     ⟨some 38, .call (.func 25) [(.tmp 35), (.tmp 37)], none, []⟩,
     ⟨some 33, .mv (.tmp 38), none, []⟩,
     ⟨some 39, .ext (.tmp 33) 0, none, []⟩,
     ⟨some 40, .ext (.tmp 33) 1, none, []⟩,
     ⟨some 8, .mv (.tmp 39), none, []⟩,
     ⟨some 9, .mv (.tmp 40), none, []⟩] [34, 35, 36, 37, 38, 33, 39, 40])
  (.seq
   (.region false [⟨some 42, .fad 0 (.tmp 1), none, []⟩,
     ⟨some 43, .loadN 6 (.tmp 42), none, []⟩,
     ⟨some 44, .fad 6 (.tmp 1), none, []⟩,
     ⟨some 45, .load1 (.tmp 44), none, []⟩,
     ⟨some 46, .call (.func 26) [(.tmp 43), (.tmp 45)], none, []⟩,
     ⟨some 41, .mv (.tmp 46), none, []⟩,
     ⟨some 47, .ext (.tmp 41) 0, none, []⟩,
     ⟨some 48, .ext (.tmp 41) 1, none, []⟩,
     ⟨some 10, .mv (.tmp 47), none, []⟩,
     ⟨some 11, .mv (.tmp 48), none, []⟩] [42, 43, 44, 45, 46, 41, 47, 48])
  (.seq
   (.region true [⟨some 49, .fad 0 (.tmp 3), none, []⟩,
     ⟨some 50, .loadN 6 (.tmp 49), none, [0]⟩,
     ⟨some 51, .call (.func 27) [(.tmp 50)], none, [1, 0]⟩,
     ⟨some 52, .fad 0 (.tmp 1), none, []⟩,
     ⟨some 53, .loadN 6 (.tmp 52), none, [3]⟩,
     ⟨some 54, .call (.func 28) [(.tmp 53)], none, [4, 3, 2, 1, 0]⟩,
     ⟨some 55, .bin .eql (.tmp 51) (.tmp 54), none, [2, 1, 0, 5, 4, 3]⟩,
     ⟨some 56, .mv (.tmp 55), none, [6, 2, 1, 0, 5, 4, 3]⟩,
     ⟨some 57, .mv (.tmp 4), (some (some 56, true)), [7, 6, 2, 1, 0, 5, 4, 3]⟩,
     ⟨some 58, .mv (.tmp 6), (some (some 56, true)), [7, 6, 2, 1, 0, 5, 4, 3]⟩,
     ⟨some 59, .call (.func 29) [(.tmp 57), (.tmp 58)], (some (some 56, true)), [8, 7, 6, 2, 1, 0, 5, 4, 3, 9]⟩,
     ⟨some 60, .pick (.tmp 56) (.tmp 59) (.const (.bool false)), none, [7, 6, 2, 1, 0, 5, 4, 3, 10, 8, 9]⟩,
     ⟨some 61, .mv (.tmp 60), none, [11, 7, 6, 2, 1, 0, 5, 4, 3, 10, 8, 9]⟩,
     ⟨some 62, .mv (.tmp 5), (some (some 61, true)), [12, 11, 7, 6, 2, 1, 0, 5, 4, 3, 10, 8, 9]⟩,
     ⟨some 63, .mv (.tmp 7), (some (some 61, true)), [12, 11, 7, 6, 2, 1, 0, 5, 4, 3, 10, 8, 9]⟩,
     ⟨some 64, .bin .eql (.tmp 62) (.tmp 63), (some (some 61, true)), [13, 12, 11, 7, 6, 2, 1, 0, 5, 4, 3, 10, 8, 9, 14]⟩,
     ⟨some 65, .pick (.tmp 61) (.tmp 64) (.const (.bool false)), none, [12, 11, 7, 6, 2, 1, 0, 5, 4, 3, 10, 8, 9, 15, 13, 14]⟩,
     ⟨some 66, .mv (.tmp 65), none, [16, 12, 11, 7, 6, 2, 1, 0, 5, 4, 3, 10, 8, 9, 15, 13, 14]⟩,
     ⟨some 67, .mv (.tmp 8), (some (some 66, true)), [17, 16, 12, 11, 7, 6, 2, 1, 0, 5, 4, 3, 10, 8, 9, 15, 13, 14]⟩,
     ⟨some 68, .mv (.tmp 10), (some (some 66, true)), [17, 16, 12, 11, 7, 6, 2, 1, 0, 5, 4, 3, 10, 8, 9, 15, 13, 14]⟩,
     ⟨some 69, .call (.func 29) [(.tmp 67), (.tmp 68)], (some (some 66, true)), [18, 17, 16, 12, 11, 7, 6, 2, 1, 0, 5, 4, 3, 10, 8, 9, 15, 13, 14, 19]⟩,
     ⟨some 70, .pick (.tmp 66) (.tmp 69) (.const (.bool false)), none, [17, 16, 12, 11, 7, 6, 2, 1, 0, 5, 4, 3, 10, 8, 9, 15, 13, 14, 20, 18, 19]⟩,
     ⟨some 71, .mv (.tmp 70), none, [21, 17, 16, 12, 11, 7, 6, 2, 1, 0, 5, 4, 3, 10, 8, 9, 15, 13, 14, 20, 18, 19]⟩,
     ⟨some 72, .mv (.tmp 9), (some (some 71, true)), [22, 21, 17, 16, 12, 11, 7, 6, 2, 1, 0, 5, 4, 3, 10, 8, 9, 15, 13, 14, 20, 18, 19]⟩,
     ⟨some 73, .mv (.tmp 11), (some (some 71, true)), [22, 21, 17, 16, 12, 11, 7, 6, 2, 1, 0, 5, 4, 3, 10, 8, 9, 15, 13, 14, 20, 18, 19]⟩,
     ⟨some 74, .bin .eql (.tmp 72) (.tmp 73), (some (some 71, true)), [23, 22, 21, 17, 16, 12, 11, 7, 6, 2, 1, 0, 5, 4, 3, 10, 8, 9, 15, 13, 14, 20, 18, 19, 24]⟩,
     ⟨some 75, .pick (.tmp 71) (.tmp 74) (.const (.bool false)), none, [22, 21, 17, 16, 12, 11, 7, 6, 2, 1, 0, 5, 4, 3, 10, 8, 9, 15, 13, 14, 20, 18, 19, 25, 23, 24]⟩,
     ⟨some 76, .mv (.tmp 75), none, [26, 22, 21, 17, 16, 12, 11, 7, 6, 2, 1, 0, 5, 4, 3, 10, 8, 9, 15, 13, 14, 20, 18, 19, 25, 23, 24]⟩,
     ⟨some 77, .call (.func 16) [], (some (some 76, true)), [27, 26, 22, 21, 17, 16, 12, 11, 7, 6, 2, 1, 0, 5, 4, 3, 10, 8, 9, 15, 13, 14, 20, 18, 19, 25, 23, 24]⟩,
     ⟨some 78, .pick (.tmp 76) (.tmp 77) (.const (.bool false)), none, [27, 26, 22, 21, 17, 16, 12, 11, 7, 6, 2, 1, 0, 5, 4, 3, 10, 8, 9, 15, 13, 14, 20, 18, 19, 25, 23, 24, 28]⟩,
     ⟨some 2, .mv (.tmp 78), none, [29, 27, 26, 22, 21, 17, 16, 12, 11, 7, 6, 2, 1, 0, 5, 4, 3, 10, 8, 9, 15, 13, 14, 20, 18, 19, 25, 23, 24, 28]⟩] [49, 50, 51, 52, 53, 54, 55, 56, 57, 58, 59, 60, 61, 62, 63, 64, 65, 66, 67, 68, 69, 70, 71, 72, 73, 74, 75, 76, 77, 78])
  .ret))))))))
set_option maxRecDepth 100000 in
theorem klaw12_RecordChecks : IsCode Try.prog 4 79 claw12_RecordChecks [.tmp 2] :=
  ⟨Try.f4, _, [13, 0, 1, 3, 4, 6, 5, 7, 8, 10, 9, 11, 2], Try.func4, rfl, by decide, rfl, by kernel_rfl, by kernel_rfl⟩
/-- law12_RecordReads -/
def claw12_RecordReads : ACode :=
  (.seq
   (.region false [⟨some 2, .box (.tmp 0), none, []⟩,
     ⟨some 4, .mv (.const (.bool false)), none, []⟩] [])
  (.seq
   (.seq
    (.region false [⟨some 18, .loadN 7 (.tmp 2), none, []⟩,
      ⟨some 19, .call (.func 15) [(.tmp 18)], none, []⟩] [18])
   (.cond (.tmp 19)
     (.seq
      (.region false [⟨some 20, .call (.func 16) [], none, []⟩,
        ⟨some 4, .mv (.tmp 20), none, []⟩] [20])
     .ret)
     .skip))
  (.seq
   (.region false [⟨some 21, .loadN 7 (.tmp 2), none, []⟩,
     ⟨some 22, .call (.func 17) [(.tmp 21)], none, []⟩,
     ⟨some 5, .mem [(.val (.int .i64 0)), (.val (.int .i64 0)), (.val (.int .i64 0)), (.val (.int .i64 0)), (.val (.int .i64 0)), (.val (.slice none 0 0)), (.val (.slice none 0 0))], none, []⟩,
     ⟨none, .store 7 (.tmp 5) (.tmp 22), none, []⟩] [21, 22])
  (.seq
   (.region false [⟨some 24, .fad 0 (.tmp 5), none, []⟩,
     ⟨some 25, .loadN 6 (.tmp 24), none, []⟩,
     ⟨some 26, .fad 6 (.tmp 5), none, []⟩,
     ⟨some 27, .load1 (.tmp 26), none, []⟩,
     ⟨some 28, .mv (.tmp 1), none, []⟩,
     ⟨some 29, .call (.func 18) [(.tmp 25), (.tmp 27), (.tmp 28)], none, []⟩,
     ⟨some 23, .mv (.tmp 29), none, []⟩,
     ⟨some 30, .ext (.tmp 23) 0, none, []⟩,
     ⟨some 31, .ext (.tmp 23) 1, none, []⟩,
     ⟨some 6, .mv (.tmp 30), none, []⟩,
     ⟨some 7, .mv (.tmp 31), none, []⟩] [24, 25, 26, 27, 28, 29, 23, 30, 31])
  (.seq
   (.region false [⟨some 33, .fad 0 (.tmp 2), none, []⟩,
     ⟨some 34, .loadN 6 (.tmp 33), none, []⟩,
     ⟨some 35, .fad 6 (.tmp 2), none, []⟩,
     ⟨some 36, .load1 (.tmp 35), none, []⟩,
     ⟨some 37, .mv (.tmp 1), none, []⟩,
     ⟨some 38, .call (.func 19) [(.tmp 34), (.tmp 36), (.tmp 37)], none, []⟩,
     ⟨some 32, .mv (.tmp 38), none, []⟩,
     ⟨some 39, .ext (.tmp 32) 0, none, []⟩,
     ⟨some 40, .ext (.tmp 32) 1, none, []⟩,
     ⟨some 8, .mv (.tmp 39), none, []⟩,
     ⟨some 9, .mv (.tmp 40), none, []⟩] [33, 34, 35, 36, 37, 38, 32, 39, 40])
  (.seq
   (.region false [⟨some 42, .fad 0 (.tmp 5), none, []⟩,
     ⟨some 43, .loadN 6 (.tmp 42), none, []⟩,
     ⟨some 44, .fad 6 (.tmp 5), none, []⟩,
     ⟨some 45, .load1 (.tmp 44), none, []⟩,
     ⟨some 46, .mv (.tmp 1), none, []⟩,
     ⟨some 47, .call (.func 20) [(.tmp 43), (.tmp 45), (.tmp 46)], none, []⟩,
     ⟨some 41, .mv (.tmp 47), none, []⟩,
     ⟨some 48, .ext (.tmp 41) 0, none, []⟩,
     ⟨some 49, .ext (.tmp 41) 1, none, []⟩,
     ⟨some 50, .ext (.tmp 41) 2, none, []⟩,
     ⟨some 10, .mv (.tmp 48), none, []⟩,
     ⟨some 11, .mv (.tmp 49), none, []⟩,
     ⟨some 12, .mv (.tmp 50), none, []⟩] [42, 43, 44, 45, 46, 47, 41, 48, 49, 50])
  (.seq
   (.region false [⟨some 52, .fad 0 (.tmp 2), none, []⟩,
     ⟨some 53, .loadN 6 (.tmp 52), none, []⟩,
     ⟨some 54, .fad 6 (.tmp 2), none, []⟩,
     ⟨some 55, .load1 (.tmp 54), none, []⟩,
     ⟨some 56, .mv (.tmp 1), none, []⟩,
     ⟨some 57, .call (.func 21) [(.tmp 53), (.tmp 55), (.tmp 56)], none, []⟩,
     ⟨some 51, .mv (.tmp 57), none, []⟩,
     ⟨some 58, .ext (.tmp 51) 0, none, []⟩,
     ⟨some 59, .ext (.tmp 51) 1, none, []⟩,
     ⟨some 60, .ext (.tmp 51) 2, none, []⟩,
     ⟨some 13, .mv (.tmp 58), none, []⟩,
     ⟨some 14, .mv (.tmp 59), none, []⟩,
     ⟨some 15, .mv (.tmp 60), none, []⟩] [52, 53, 54, 55, 56, 57, 51, 58, 59, 60])
  (.seq
   (.seq
    (.region false [⟨some 61, .mv (.tmp 6), none, []⟩,
      ⟨some 62, .mv (.tmp 8), none, []⟩,
      ⟨some 63, .call (.func 22) [(.tmp 61), (.tmp 62)], none, []⟩,
      ⟨some 64, .un .not (.tmp 63), none, []⟩,
      ⟨some 65, .mv (.tmp 64), none, []⟩,
      ⟨some 66, .mv (.tmp 7), (some (some 65, false)), []⟩,
      ⟨some 67, .mv (.tmp 9), (some (some 65, false)), []⟩,
      ⟨some 68, .bin .neq (.tmp 66) (.tmp 67), (some (some 65, false)), []⟩,
      ⟨some 69, .pick (.tmp 65) (.const (.bool true)) (.tmp 68), none, []⟩,
      ⟨some 70, .mv (.tmp 69), none, []⟩,
      ⟨some 71, .mv (.tmp 10), (some (some 70, false)), []⟩,
      ⟨some 72, .mv (.tmp 13), (some (some 70, false)), []⟩,
      ⟨some 73, .bin .neq (.tmp 71) (.tmp 72), (some (some 70, false)), []⟩,
      ⟨some 74, .pick (.tmp 70) (.const (.bool true)) (.tmp 73), none, []⟩,
      ⟨some 75, .mv (.tmp 74), none, []⟩,
      ⟨some 76, .mv (.tmp 11), (some (some 75, false)), []⟩,
      ⟨some 77, .mv (.tmp 14), (some (some 75, false)), []⟩,
      ⟨some 78, .bin .neq (.tmp 76) (.tmp 77), (some (some 75, false)), []⟩,
      ⟨some 79, .pick (.tmp 75) (.const (.bool true)) (.tmp 78), none, []⟩,
      ⟨some 80, .mv (.tmp 79), none, []⟩,
      ⟨some 81, .mv (.tmp 12), (some (some 80, false)), []⟩,
      ⟨some 82, .mv (.tmp 15), (some (some 80, false)), []⟩,
      ⟨some 83, .bin .neq (.tmp 81) (.tmp 82), (some (some 80, false)), []⟩,
      ⟨some 84, .pick (.tmp 80) (.const (.bool true)) (.tmp 83), none, []⟩] [61, 62, 63, 64, 65, 66, 67, 68, 69, 70, 71, 72, 73, 74, 75, 76, 77, 78, 79, 80, 81, 82, 83])
   (.cond (.tmp 84)
     (.seq
      (.region false [⟨some 4, .mv (.const (.bool false)), none, []⟩] [])
     .ret)
     .skip))
  (.seq
   (.seq
    (.region false [⟨some 85, .mv (.tmp 12), none, []⟩,
      ⟨some 86, .bin .neq (.tmp 85) (.const (.int .i64 0)), none, []⟩] [85])
   (.cond (.tmp 86)
     (.seq
      (.region false [⟨some 87, .call (.func 16) [], none, []⟩,
        ⟨some 4, .mv (.tmp 87), none, []⟩] [87])
     .ret)
     .skip))
  (.seq
   (.region false [⟨some 16, .mv (.const (.bool false)), none, []⟩] [])
  (.seq
   (.seq
    (.region false [⟨some 17, .mv (.const (.int .i64 0)), none, []⟩] [])
   (.block 0
     (.loop
       (.seq
        (.seq
         (.region false [⟨some 88, .mv (.tmp 17), none, []⟩,
           ⟨some 89, .mv (.tmp 6), none, []⟩,
           ⟨some 90, .len_ (.tmp 89), none, []⟩,
           ⟨some 91, .bin .lss (.tmp 88) (.tmp 90), none, []⟩] [88, 89, 90])
        (.cond (.tmp 91)
          .skip
          (.exit 0)))
       (.seq
        (.block 1
          (.seq
           (.region false [⟨some 94, .mv (.tmp 16), none, []⟩,
             ⟨some 95, .mv (.tmp 94), none, []⟩,
             ⟨some 96, .mv (.tmp 6), (some (some 95, false)), []⟩,
             ⟨some 97, .mv (.tmp 17), (some (some 95, false)), []⟩,
             ⟨some 98, .iadS 2 (.tmp 96) (.tmp 97), (some (some 95, false)), []⟩,
             ⟨some 99, .loadN 2 (.tmp 98), (some (some 95, false)), []⟩,
             ⟨some 100, .mv (.tmp 10), (some (some 95, false)), []⟩,
             ⟨some 101, .mv (.tmp 11), (some (some 95, false)), []⟩,
             ⟨some 102, .build [(.val (.int .i64 0)), (.val (.int .i64 0))] [(0, 1, (.tmp 100)), (1, 1, (.tmp 101))], (some (some 95, false)), []⟩,
             ⟨some 103, .eqa false [false, false] (.tmp 99) (.tmp 102), (some (some 95, false)), []⟩,
             ⟨some 104, .pick (.tmp 95) (.const (.bool true)) (.tmp 103), none, []⟩,
             ⟨some 16, .mv (.tmp 104), none, []⟩] [94, 95, 96, 97, 98, 99, 100, 101, 102, 103, 104])
          (.seq
           (.region false [⟨some 105, .mv (.tmp 6), none, []⟩,
             ⟨some 106, .mv (.tmp 17), none, []⟩,
             ⟨some 107, .iadS 2 (.tmp 105) (.tmp 106), none, []⟩,
             ⟨some 108, .iadA 2 1 (.tmp 107) (.const (.int .i64 1)), none, []⟩,
             ⟨some 109, .load1 (.tmp 108), none, []⟩,
             ⟨some 110, .mv (.tmp 11), none, []⟩,
             ⟨some 111, .bin .gtr (.tmp 109) (.tmp 110), none, []⟩] [105, 106, 107, 108, 109, 110])
          (.cond (.tmp 111)
            (.seq
             (.region false [⟨some 4, .mv (.const (.bool false)), none, []⟩] [])
            .ret)
            .skip))))
       (.region false [⟨some 92, .mv (.tmp 17), none, []⟩,
         ⟨some 93, .bin .add (.tmp 92) (.const (.int .i64 1)), none, []⟩,
         ⟨some 17, .mv (.tmp 93), none, []⟩] [92, 93]))))))
  (.seq
   (.region false [⟨some 112, .mv (.tmp 16), none, []⟩,
     ⟨some 113, .mv (.tmp 112), none, []⟩,
     ⟨some 114, .call (.func 16) [], (some (some 113, true)), []⟩,
     ⟨some 115, .pick (.tmp 113) (.tmp 114) (.const (.bool false)), none, []⟩,
     ⟨some 4, .mv (.tmp 115), none, []⟩] [112, 113, 114, 115])
  .ret))))))))))))
set_option maxRecDepth 100000 in
theorem klaw12_RecordReads : IsCode Try.prog 3 116 claw12_RecordReads [.tmp 4] :=
  ⟨Try.f3, _, [111, 91, 86, 84, 19, 0, 2, 5, 1, 6, 8, 7, 9, 10, 13, 11, 14, 12, 15, 17, 16, 4], Try.func3, rfl, by decide, rfl, by kernel_rfl, by kernel_rfl⟩
end Go.Proofs.Ytdcodicoclecnaa
/- record: Good, Slips. No conditions. -/
set_option linter.unusedSimpArgs false
set_option linter.unusedVariables false
namespace Go.Proofs.Ytdcodicoclecnaa
open Go.RowKit Lift

def gdI (l : Lay) (frs : List (List Int)) (k : Nat) : List Int := (gds l frs k).map (·.1)
theorem gdI_len (l : Lay) (frs : List (List Int)) (k : Nat) : (gdI l frs k).length ≤ k := by unfold gdI; rw [List.length_map]; exact gds_len _ _ _
theorem gdI_in (l : Lay) (frs : List (List Int)) (k : Nat) (h : 0 ≤ subF l (frm frs k)) : gdI l frs (k + 1) = gdI l frs k ++ [(k : Int)] := by unfold gdI; rw [gds_succ, if_pos h]; simp
theorem gdI_no (l : Lay) (frs : List (List Int)) (k : Nat) (h : ¬ 0 ≤ subF l (frm frs k)) : gdI l frs (k + 1) = gdI l frs k := by unfold gdI; rw [gds_succ, if_neg h]; simp
theorem icV_low (n g v : Nat) (L : List Int) (m : Nat) (hg : g < n) (hv : v < n) {h : Hp} (h1 : LowH n h) : LowH n ((g, [.vec v m 1]) :: (v, icells L) :: h) :=
  .cons hg (by intro d hd; simp at hd; subst hd; exact .vec _ _ _ hv) rfl (.cons hv (fun d hd => (icells_in L d hd).mono fun _ h => h.elim) (ic_noY _ _) h1)
noncomputable def goodR (l : Lay) (frs : List (List Int)) : List Int := if tpE l frs = 0 then gdI l frs frs.length else []
noncomputable def slipsR (l : Lay) (frs : List (List Int)) : List Int := if tpE l frs = 0 then slips (gds l frs frs.length) else []
set_option maxRecDepth 100000 in
set_option maxHeartbeats 4000000 in
theorem good_ok (l : Lay) (frs : List (List Int)) (hl : LayIn l) (h1 : LayOk l) (h2 : frs.length ≤ 200) (hf : FrIn frs) : AC Try.prog 23 [layD l, .list (rows frs)] [] [] (.tup [.list (ints (gdI l frs frs.length)), dI 0]) := by
  refine krecord_Good.ac (n0 := 0) (by simp) ⟨in_layD _ _, .list _, trivial⟩ trivial rfl ?_
  unfold crecord_Good layD layC
  have nt := newTape_ok l frs hl h1 h2 hf
  refine aw_seq (aw_region ?_)
  simp (config := {maxSteps := 10000000}) (disch := first | exact okYes (by kernel_rfl) | omega) only [thenQ, List.map, dI, List.length, Nat.zero_add, Nat.reduceAdd, Nat.reduceMul, envOf, ARun_none, AOpRun, aexec, D.isBot, FSt.ev, St.F, ↓eget_h, Bool.false_eq_true, Option.isSome, hget_n, or_self, ↓reduceIte, D.cells, AGo_ok, St.app, putO, eput_c, Nat.reduceBEq, eput_n, cond_false, hups, hput_n, hget_c, hput_c, ARun_nil, dropE_c, inL_n, dropE_n]
  refine aw_wk (s' := ⟨[(1, .list (rows frs)), (2, .ptr 0 0), (4, .ptr 8 0)], [(0, [dI l.words, dI l.s0, dI l.s1, dI l.s2, dI l.s3, .list (fls l.fl)]), (8, [.vec 24 0 1]), (24, icells [])], 80⟩) ?_ ?_
  · unfold dI
    refine wk_to [] [(0, 0), (8, 8), (24, 900)] (by kernel_rfl) (by kernel_rfl) (by kernel_rfl) (by kernel_rfl) (by kernel_rfl) ?_ ?_ <;> repeat' (first | exact trivial | exact vr_val _ | exact vr_list _ | exact vr_ptr _ _ _ rfl | exact vr_nilv _ _ _ rfl | refine And.intro ⟨_, rfl, .inl ⟨_, rfl, by decide, ?_⟩⟩ ?_ | refine And.intro ⟨_, rfl, .inr ⟨rfl, rfl, of_decide_eq_true (by kernel_rfl)⟩⟩ ?_ | apply And.intro)
  refine aw_seq (aw_region ?_)
  simp (config := {maxSteps := 10000000}) (disch := first | exact okYes (by kernel_rfl) | omega) only [thenQ, List.length, Nat.zero_add, Nat.reduceAdd, Nat.reduceMul, dI, ARun_none, AOpRun, aexec, FSt.ev, St.F, eget_c, Nat.reduceBEq, ↓eget_h, cond_false, hget_c, beq_self_eq_true, hget_n, cond_true, Nat.reduceLeDiff, ↓reduceIte, List.drop, List.take, AGo_ok, St.app, putO, eput_c, eput_n, hups, List.map]
  refine acallB nt (by repeat' (first | exact trivial | exact rfl | refine And.intro ?_ ?_)) (by kernel_rfl) (by kernel_rfl) (by kernel_rfl) ?_
  simp (config := {maxSteps := 10000000}) (disch := first | exact okYes (by kernel_rfl) | omega) only [Nat.reduceAdd, St.app, putO, dI, eput_c, Nat.reduceBEq, eput_n, cond_false, hups, hput_c, hput_n, List.map, List.append_nil, ARun_none, AOpRun, aexec, FSt.ev, St.F, eget_c, ↓eget_h, AGo_ok, opt1, Option.map, List.getElem?_cons_zero, List.getElem?_cons_succ, ARun_nil, dropE_c, inL_c, inL_n, beq_self_eq_true, cond_true, dropE_n]
  refine aw_seq (aw_seq (aw_region ?_))
  simp (config := {maxSteps := 10000000}) (disch := first | exact okYes (by kernel_rfl) | omega) only [thenQ, List.length, Nat.zero_add, Nat.reduceAdd, Nat.reduceMul, ARun_none, AOpRun, aexec, FSt.ev, St.F, eget_c, Nat.reduceBEq, ↓eget_h, cond_false, AGo_ok, St.app, putO, eput_c, eput_n, hups, List.map, isSh, Bool.false_eq_true, ↓reduceIte, Option.map, abin, bne_self_eq_false, ARun_nil, dropE_c, inL_c, inL_n, beq_self_eq_true, cond_true, dropE_n]
  refine aw_condF rfl (aw_skip ?_)
  refine aw_seq (aw_seq (aw_region ?_))
  simp (config := {maxSteps := 10000000}) (disch := first | exact okYes (by kernel_rfl) | omega) only [thenQ, List.length, Nat.zero_add, Nat.reduceAdd, Nat.reduceMul, ARun_none, AOpRun, aexec, FSt.ev, St.F, eget_c, Nat.reduceBEq, ↓eget_h, cond_false, AGo_ok, St.app, putO, eput_c, eput_n, hups, List.map, ARun_nil, dropE_c, inL_c, inL_n, beq_self_eq_true, cond_true, dropE_n]
  refine aw_wk (s' := ⟨[(4, .ptr 8 0), (18, .fn 72 [.ptr 96 0] [])], [(96, tpC l frs), (8, [.vec 24 0 1]), (24, icells [])], 1000⟩) ?_ ?_
  · refine wk_to [] [(8, 8), (24, 24), (96, 96)] (by kernel_rfl) (by kernel_rfl) (by kernel_rfl) (by kernel_rfl) (by kernel_rfl) ?_ ?_ <;> repeat' (first | exact trivial | exact vr_val _ | exact vr_list _ | exact vr_vec _ _ _ _ rfl | exact vr_ptr _ _ _ rfl | apply vr_fn | refine And.intro ⟨_, rfl, .inl ⟨_, rfl, by decide, ?_⟩⟩ ?_ | apply And.intro)
    all_goals exact tpC_in _ _ _
  refine aw_block (aw_range [8, 96] [(4, .ptr 8 0)] [.bot, .bot, .bot, .bot, .ptr 8 0] kprecord_tape_good rfl (by simp) ⟨.inl rfl, .inl rfl, .inl rfl, .inl rfl, .inr rfl, trivial⟩ rfl rfl (by simp) ⟨.inr ⟨rfl, .ptr _ _ (by simp)⟩, trivial⟩ (fun r hr => ?_))
  refine good_hit hr rfl l frs h2 [8, 96] (by decide) [.bot, .bot, .bot, .bot, .ptr 8 0] rfl (by intro d hd; simp at hd; rcases hd with rfl | rfl; exact .bot; exact .ptr _ _ (by simp)) (by simp) (fun i => [(8, [.vec 24 (gdI l frs i).length 1]), (24, icells (gdI l frs i))]) (fun i => icV_low 1000 8 24 _ _ (by decide) (by decide) .nil) (fun i hi hs => ?_) (fun i hi hs => ?_) ?_
  · simp only [gdI_no l frs i hs]
  · have hgl := gdI_len l frs i
    rw [gdI_in l frs i hs, ← ic_app]
    generalize gdI l frs i = L at *
    have hic : (icells L).length = L.length := icells_len _
    have hit : (icells L).take L.length = icells L := ic_take _ _ rfl
    have hcin : ∀ y ∈ icells L ++ [.val (.int .i64 (i : Int))], In (fun _ => False) y := by rw [ic_app]; exact icells_in _
    have hlen : (L ++ [(i : Int)]).length = L.length + 1 := by simp
    rw [hlen]
    unfold crecord_Good_B19
    refine aw_block (aw_region ?_)
    simp (config := {maxSteps := 10000000}) (disch := first | exact okYes (by kernel_rfl) | omega) only [blockQ, List.length, Nat.zero_add, Nat.reduceAdd, Nat.reduceMul, true_and, bodyE, asgE, parE, envOf, dI, eput_c, Nat.reduceBEq, eput_n, cond_false, eget_c, ↓eget_h, ARun_none, AOpRun, aexec, Option.map, run1, FSt.ev, St.F, hget_c, ↓hget_h, List.getElem?_cons_zero, AGo_ok, St.app, putO, hups, List.map, Option.isSome, hget_n, Bool.false_eq_true, ↓reduceIte, fillD, D.isBot, D.cells, ne_eq, not_true_eq_false, Nat.reduceGT, or_self, splice, List.take, List.nil_append, List.drop, List.append_nil, hput_c, hput_n, base, Nat.mul_one, hic, Nat.le_refl, and_self, hit, elems, List.all, D.leaf, Bool.and_true, and_true, ups, List.cons_append]
    refine ago_if (by omega) ?_
    simp (config := {maxSteps := 10000000}) (disch := first | exact okYes (by kernel_rfl) | omega) only [AGo_ok, Nat.reduceAdd, St.app, putO, eput_c, Nat.reduceBEq, eput_n, cond_false, hups, hput_c, hput_n, hdel_c, beq_self_eq_true, hdel_n, cond_true, List.map, ARun_none, AOpRun, aexec, FSt.ev, St.F, eget_c, ↓eget_h, hget_c, ↓hget_h, D.isBot, D.cells, List.length, Nat.zero_add, Nat.reduceLeDiff, List.all, D.leaf, Bool.and_true, and_self, ↓reduceIte, splice, List.take, List.nil_append, List.drop, List.append_nil, ARun_nil, dropE_c, inL_c, inL_n, dropE_n]
    try refine ⟨rfl, ?_⟩
    refine wk_to [] [(8, 8), (24, 1324), (96, 96), (1000, 1000)] (by kernel_rfl) (by kernel_rfl) (by kernel_rfl) (by kernel_rfl) (by kernel_rfl) ?_ ?_ <;> repeat' (first | exact trivial | exact vr_val _ | exact vr_list _ | exact vr_vec _ _ _ _ rfl | refine And.intro ⟨_, rfl, .inl ⟨_, rfl, by decide, ?_⟩⟩ ?_ | apply And.intro | exact vrl_flat _ (by first | exact icells_in _ | exact rcells_in _ | exact scells_in _ | exact bcells_in _ | assumption))
    all_goals first | exact tpC_in _ _ _ | assumption
  · have hgl := gdI_len l frs frs.length
    generalize gdI l frs frs.length = L at *
    simp only [blockQ, thenQ]
    (have hg : (987654321 : Nat) - 987654321 = 0 := rfl; have hr := hg; repeat' (first | refine aw_seq ?_ | (refine aw_skip ?_; repeat' (first | with_reducible refine thenQ_n ?_ | with_reducible refine blockQ_n ?_ | with_reducible refine thenQ_e ?_ | with_reducible refine blockQ_t ?_ | with_reducible refine blockQ_f (by decide) ?_)) | (refine aw_exit ?_; repeat' (first | with_reducible refine thenQ_n ?_ | with_reducible refine blockQ_n ?_ | with_reducible refine thenQ_e ?_ | with_reducible refine blockQ_t ?_ | with_reducible refine blockQ_f (by decide) ?_)) | refine aw_ret ?_ | refine aw_block ?_ | refine aw_condT rfl ?_ | refine aw_condF rfl ?_ | ((first | refine aw_hide fun K hK => aw_region ?_ | refine ago_if (by omega) ?_ | skip); simp (config := {maxSteps := 10000000}) (disch := first | exact okYes (by kernel_rfl) | omega) only [List.length, Nat.zero_add, Nat.reduceAdd, Nat.reduceMul, ARun_none, AOpRun, aexec, Option.map, run1, FSt.ev, St.F, ↓eget_h, hget_c, Nat.reduceBEq, ↓hget_h, cond_false, List.getElem?_cons_zero, AGo_ok, St.app, putO, eput_c, eput_n, hups, List.map, D.isBot, eget_c, D.cells, Nat.reduceLeDiff, List.all, D.leaf, Bool.and_true, and_self, ↓reduceIte, splice, List.take, List.nil_append, List.drop, List.append_nil, hput_c, beq_self_eq_true, hput_n, cond_true, ARun_nil, dropE_c, inL_c, inL_n, dropE_n]) | (subst hK; repeat' (first | with_reducible refine thenQ_n ?_ | with_reducible refine blockQ_n ?_ | with_reducible refine thenQ_e ?_ | with_reducible refine blockQ_t ?_ | with_reducible refine blockQ_f (by decide) ?_))))
    refine end_to [24] [] (by first | exact .inl rfl | exact .inr rfl) rfl (by kernel_rfl) (by kernel_rfl) (by kernel_rfl) ?_ ?_ <;> repeat' (first | exact trivial | exact vr_val _ | apply vr_tup | refine vr_fl _ _ _ _ _ (by decide) rfl ?_ ?_ ?_ ?_ | apply And.intro)
    all_goals first | exact ints_one _ | exact ints_len _ | exact ints_flat _ | exact icells_in _
set_option maxRecDepth 100000 in
set_option maxHeartbeats 1000000 in
theorem good_err (l : Lay) (frs : List (List Int)) (hl : LayIn l) (he : tpE l frs ≠ 0) (hf : FrIn frs) : AC Try.prog 23 [layD l, .list (rows frs)] [] [] (.tup [.list (ints []), dI (tpE l frs)]) := by
  refine krecord_Good.ac (n0 := 0) (by simp) ⟨in_layD _ _, .list _, trivial⟩ trivial rfl ?_
  unfold crecord_Good layD layC
  have nt := newTape_err l frs hl (fun h => he (tpE_ok h.1 h.2)) hf
  have h1 : (tpE l frs != 0) = true := by simpa using he
  generalize tpE l frs = E at *
  (have hg : (987654321 : Nat) - 987654321 = 0 := rfl; have hr := hg; repeat' (first | refine aw_seq ?_ | (refine aw_skip ?_; repeat' (first | with_reducible refine thenQ_n ?_ | with_reducible refine blockQ_n ?_ | with_reducible refine thenQ_e ?_ | with_reducible refine blockQ_t ?_ | with_reducible refine blockQ_f (by decide) ?_)) | (refine aw_exit ?_; repeat' (first | with_reducible refine thenQ_n ?_ | with_reducible refine blockQ_n ?_ | with_reducible refine thenQ_e ?_ | with_reducible refine blockQ_t ?_ | with_reducible refine blockQ_f (by decide) ?_)) | refine aw_ret ?_ | refine aw_block ?_ | refine aw_condT rfl ?_ | refine aw_condF rfl ?_ | ((first | refine aw_hide fun K hK => aw_region ?_ | refine acall0 (nt) ?_ | refine ago_if (by omega) ?_ | skip); simp (config := {maxSteps := 10000000}) (disch := first | exact okYes (by kernel_rfl) | omega) only [List.length, Nat.zero_add, Nat.reduceAdd, Nat.reduceMul, envOf, dI, ARun_none, AOpRun, aexec, D.isBot, FSt.ev, St.F, ↓eget_h, Bool.false_eq_true, Option.isSome, hget_n, or_self, ↓reduceIte, D.cells, AGo_ok, St.app, putO, eput_c, Nat.reduceBEq, eput_n, cond_false, hups, hput_n, List.map, hget_c, hput_c, ARun_nil, dropE_c, inL_n, dropE_n, eget_c, beq_self_eq_true, cond_true, Nat.reduceLeDiff, List.drop, List.take, opt1, Option.map, List.getElem?_cons_zero, List.getElem?_cons_succ, inL_c, isSh, abin, h1, ↓hget_h, List.all, D.leaf, Bool.and_true, and_self, splice, List.nil_append, List.append_nil, thenQ]) | (subst hK; repeat' (first | with_reducible refine thenQ_n ?_ | with_reducible refine blockQ_n ?_ | with_reducible refine thenQ_e ?_ | with_reducible refine blockQ_t ?_ | with_reducible refine blockQ_f (by decide) ?_))))
  (refine end_to [] [] (by first | exact .inl rfl | exact .inr rfl) rfl (by kernel_rfl) (by kernel_rfl) (by kernel_rfl) ?_ ?_ <;> repeat' (first | exact trivial | exact vr_val _ | exact vr_nil | apply vr_tup | apply And.intro))
theorem good_ac (l : Lay) (frs : List (List Int)) (hl : LayIn l) (hf : FrIn frs) : AC Try.prog 23 [layD l, .list (rows frs)] [] [] (.tup [.list (ints (goodR l frs)), dI (tpE l frs)]) := by
  unfold goodR
  rcases tpE_cases l frs with ⟨h0, h1, h2⟩ | ⟨h0, _⟩
  · rw [if_pos h0, h0]; exact good_ok l frs hl h1 h2 hf
  · rw [if_neg h0]; exact good_err l frs hl h0 hf
end Go.Proofs.Ytdcodicoclecnaa
/- record: Read, Peak (a reference to a yield, .yref, lies in memory). No conditions. -/
set_option linter.unusedSimpArgs false
set_option linter.unusedVariables false
namespace Go.Proofs.Ytdcodicoclecnaa
open Go.RowKit Lift

def pkS (l : Lay) (f : Fl) (frs : List (List Int)) : Nat → Int × Int
  | 0 => (-1, 0)
  | i + 1 => match smp l f (frm frs i) with
    | some v => if (pkS l f frs i).1 < 0 ∨ v > (pkS l f frs i).2 then ((i : Int), v) else pkS l f frs i
    | none => pkS l f frs i
theorem scV_low (n g v : Nat) (L : List (Int × Int)) (m : Nat) (hg : g < n) (hv : v < n) {h : Hp} (h1 : LowH n h) : LowH n ((g, [.vec v m 2]) :: (v, scells L) :: h) :=
  .cons hg (by intro d hd; simp at hd; subst hd; exact .vec _ _ _ hv) rfl (.cons hv (fun d hd => (scells_in L d hd).mono fun _ h => h.elim) (scells_noY _) h1)
theorem sc_snoc (L : List (Int × Int)) (x : Int × Int) : scells L ++ [.val (.int .i64 x.1), .val (.int .i64 x.2)] = scells (L ++ [x]) := by
  rw [← sps_flat, ← sps_flat]; simp [sps]
theorem sc_all (L : List (Int × Int)) : (scells L).take (L.length * 2) = scells L := List.take_of_length_le (by rw [scells_len]; omega)
theorem hasA_one (l : Lay) (x : Int) : hasA l [x] = wI x 0 ((l.fl.length : Int) - 1) := by simp [hasA]
theorem wfE_ok {l : Lay} {frs : List (List Int)} {x : Int} (h : wfE l frs [x] = 0) : LayOk l ∧ frs.length ≤ 200 ∧ hasA l [x] = true ∧ ∃ k : Nat, x = k ∧ k < l.fl.length := by
  unfold wfE at h
  rcases tpE_cases l frs with ⟨h0, h1, h2⟩ | ⟨h0, _⟩
  · rw [if_pos h0] at h
    cases hh : hasA l [x] with
    | false => rw [hh] at h; cases h
    | true =>
      refine ⟨h1, h2, rfl, x.toNat, ?_⟩
      rw [hasA_one] at hh
      have := wI_t hh
      omega
  · rw [if_neg h0] at h; exact absurd h h0
set_option maxRecDepth 100000 in
set_option maxHeartbeats 4000000 in
theorem read_ok (l : Lay) (frs : List (List Int)) (k : Nat) (hl : LayIn l) (h1 : LayOk l) (h2 : frs.length ≤ 200) (hf : FrIn frs) (hk : k < l.fl.length) : AC Try.prog 18 [layD l, .list (rows frs), dI k] [] [] (.tup [.list (sps (smps l (fAt l k) frs frs.length)), dI 0]) := by
  refine krecord_Read.ac (n0 := 0) (by simp) ⟨in_layD _ _, .list _, .val _, trivial⟩ trivial rfl ?_
  unfold crecord_Read layD layC
  have hh : hasA l [(k : Int)] = true := by rw [hasA_one]; exact wI_y (by omega) (by omega)
  have nt := withField_ok l frs [(k : Int)] hl h1 h2 hf (Nat.le_of_ble_eq_true rfl) hh
  have sa := samples_ac l frs k hk (by have := h1.nf; omega)
  have hfo := fAt_ok h1 hk
  generalize fAt l k = f at *
  refine aw_seq (aw_region ?_)
  simp (config := {maxSteps := 10000000}) (disch := first | exact okYes (by kernel_rfl) | omega) only [thenQ, List.map, dI, List.length, Nat.zero_add, Nat.reduceAdd, Nat.reduceMul, envOf, ARun_none, AOpRun, aexec, D.isBot, FSt.ev, St.F, ↓eget_h, Bool.false_eq_true, Option.isSome, hget_n, or_self, ↓reduceIte, D.cells, AGo_ok, St.app, putO, eput_c, Nat.reduceBEq, eput_n, cond_false, hups, hput_n, hget_c, hput_c, ARun_nil, dropE_c, inL_n, dropE_n]
  refine aw_wk (s' := ⟨[(1, .list (rows frs)), (2, dI k), (3, .ptr 0 0), (6, .ptr 8 0)], [(0, [dI l.words, dI l.s0, dI l.s1, dI l.s2, dI l.s3, .list (fls l.fl)]), (8, [.vec 24 0 2]), (24, scells [])], 40⟩) ?_ ?_
  · unfold dI
    refine wk_to [] [(0, 0), (8, 8), (24, 900)] (by kernel_rfl) (by kernel_rfl) (by kernel_rfl) (by kernel_rfl) (by kernel_rfl) ?_ ?_ <;> repeat' (first | exact trivial | exact vr_val _ | exact vr_list _ | exact vr_ptr _ _ _ rfl | exact vr_nilv _ _ _ rfl | refine And.intro ⟨_, rfl, .inl ⟨_, rfl, by decide, ?_⟩⟩ ?_ | refine And.intro ⟨_, rfl, .inr ⟨rfl, rfl, of_decide_eq_true (by kernel_rfl)⟩⟩ ?_ | apply And.intro)
  refine aw_seq (aw_region_cut [⟨some 12, .loadN 6 (.tmp 3), none, []⟩,
     ⟨some 13, .mv (.tmp 1), none, []⟩,
     ⟨some 14, .mv (.tmp 2), none, []⟩,
     ⟨some 15, .buildSl 1 1 [(.val (.int .i64 0))] [(0, 1, (.tmp 14))], none, []⟩]
     [⟨some 16, .call (.func 66) [(.tmp 12), (.tmp 13), (.tmp 15)], none, []⟩,
     ⟨some 11, .mv (.tmp 16), none, []⟩,
     ⟨some 17, .ext (.tmp 11) 0, none, []⟩,
     ⟨some 18, .ext (.tmp 11) 1, none, []⟩,
     ⟨some 8, .mv (.tmp 17), none, []⟩,
     ⟨some 7, .mv (.tmp 18), none, []⟩] ?_)
  simp (config := {maxSteps := 10000000}) (disch := first | exact okYes (by kernel_rfl) | omega) only [List.length, Nat.zero_add, Nat.reduceAdd, Nat.reduceMul, thenQ, ARun_none, AOpRun, FSt.ev, List.map, St.F, dI, aexec, eget_c, Nat.reduceBEq, ↓eget_h, cond_false, hget_c, beq_self_eq_true, hget_n, cond_true, Nat.reduceLeDiff, ↓reduceIte, List.drop, List.take, AGo_ok, St.app, putO, eput_c, eput_n, hups, Option.isSome, Bool.false_eq_true, Option.map, fillD, D.isBot, D.cells, ne_eq, not_true_eq_false, Nat.reduceGT, or_self, splice, List.nil_append, List.append_nil, hput_c, hput_n, ARun_nil]
  refine ⟨⟨[(2, dI k), (6, .ptr 8 0), (12, layD l), (13, .list (rows frs)), (15, .list (ints [(k : Int)]))], [(8, [.vec 24 0 2]), (24, scells [])], 96⟩, ?_, of_decide_eq_true (by kernel_rfl), ?_⟩
  · unfold layD layC dI
    refine wk_to [64] [(8, 8), (24, 24)] (by kernel_rfl) (by kernel_rfl) (by kernel_rfl) (by kernel_rfl) (by kernel_rfl) ?_ ?_ <;> repeat' (first | exact trivial | exact vr_val _ | exact vr_list _ | exact vr_vec _ _ _ _ rfl | exact vr_ptr _ _ _ rfl | apply vr_agg | refine vr_fl _ _ _ _ _ (by decide) rfl ?_ ?_ ?_ ?_ | refine And.intro ⟨_, rfl, .inl ⟨_, rfl, by decide, ?_⟩⟩ ?_ | apply And.intro)
    all_goals first | exact ints_one _ | exact ints_len _ | exact ints_flat _ | exact icells_in _ | exact icells_in [(k : Int)]
  simp (config := {maxSteps := 10000000}) (disch := first | exact okYes (by kernel_rfl) | omega) only [Nat.reduceSub, Nat.reduceAdd, eget_c, Nat.reduceBEq, ↓eget_h, cond_false]
  refine acallB nt (by repeat' (first | exact trivial | exact rfl | refine And.intro ?_ ?_)) (by kernel_rfl) (by kernel_rfl) (by kernel_rfl) ?_
  simp (config := {maxSteps := 10000000}) (disch := first | exact okYes (by kernel_rfl) | omega) only [Nat.reduceAdd, St.app, putO, dI, eput_c, Nat.reduceBEq, eput_n, cond_false, hups, hput_c, hput_n, List.map, List.append_nil, ARun_none, AOpRun, aexec, FSt.ev, St.F, eget_c, ↓eget_h, AGo_ok, opt1, Option.map, List.getElem?_cons_zero, List.getElem?_cons_succ, ARun_nil, dropE_c, inL_c, inL_n, beq_self_eq_true, cond_true, dropE_n]
  refine aw_seq (aw_seq (aw_region ?_))
  simp (config := {maxSteps := 10000000}) (disch := first | exact okYes (by kernel_rfl) | omega) only [thenQ, List.length, Nat.zero_add, Nat.reduceAdd, Nat.reduceMul, ARun_none, AOpRun, aexec, FSt.ev, St.F, eget_c, Nat.reduceBEq, ↓eget_h, cond_false, AGo_ok, St.app, putO, eput_c, eput_n, hups, List.map, isSh, Bool.false_eq_true, ↓reduceIte, Option.map, abin, bne_self_eq_false, ARun_nil, dropE_c, inL_c, inL_n, beq_self_eq_true, cond_true, dropE_n]
  refine aw_condF rfl (aw_skip ?_)
  refine aw_wk (s' := ⟨[(2, dI k), (6, .ptr 8 0), (8, .ptr 96 0)], [(96, tpC l frs), (8, [.vec 24 0 2]), (24, scells [])], 104⟩) ?_ ?_
  · unfold dI
    refine wk_to [] [(8, 8), (24, 24), (96, 96)] (by kernel_rfl) (by kernel_rfl) (by kernel_rfl) (by kernel_rfl) (by kernel_rfl) ?_ ?_ <;> repeat' (first | exact trivial | exact vr_val _ | exact vr_list _ | exact vr_vec _ _ _ _ rfl | exact vr_ptr _ _ _ rfl | refine And.intro ⟨_, rfl, .inl ⟨_, rfl, by decide, ?_⟩⟩ ?_ | apply And.intro)
    all_goals exact tpC_in _ _ _
  refine aw_seq (aw_seq (aw_region ?_))
  simp (config := {maxSteps := 10000000}) (disch := first | exact okYes (by kernel_rfl) | omega) only [thenQ, List.length, Nat.zero_add, Nat.reduceAdd, Nat.reduceMul, dI, ARun_none, AOpRun, aexec, FSt.ev, St.F, eget_c, Nat.reduceBEq, ↓eget_h, cond_false, AGo_ok, St.app, putO, eput_c, eput_n, hups, List.map]
  refine acallB sa (by repeat' (first | exact trivial | exact rfl | refine And.intro ?_ ?_)) (by kernel_rfl) (by kernel_rfl) (by kernel_rfl) ?_
  simp (config := {maxSteps := 10000000}) (disch := first | exact okYes (by kernel_rfl) | omega) only [Nat.reduceAdd, St.app, putO, eput_c, Nat.reduceBEq, eput_n, cond_false, hups, hput_c, hput_n, beq_self_eq_true, cond_true, List.map, List.append_nil, ARun_nil, dropE_c, inL_c, inL_n, dropE_n]
  refine aw_wk (s' := ⟨[(6, .ptr 8 0), (24, .fn 113 [] [.ptr 120 0, .ptr 121 0])], [(96, tpC l frs), (120, [.ptr 96 0]), (121, flC f), (8, [.vec 24 0 2]), (24, scells [])], 800⟩) ?_ ?_
  · refine wk_to [] [(8, 8), (24, 24), (96, 96), (120, 120), (121, 121)] (by kernel_rfl) (by kernel_rfl) (by kernel_rfl) (by kernel_rfl) (by kernel_rfl) ?_ ?_ <;> repeat' (first | exact trivial | exact vr_val _ | exact vr_list _ | exact vr_vec _ _ _ _ rfl | exact vr_ptr _ _ _ rfl | apply vr_fn | refine And.intro ⟨_, rfl, .inl ⟨_, rfl, by decide, ?_⟩⟩ ?_ | apply And.intro)
    all_goals first | exact tpC_in _ _ _ | exact flC_in _ _
  refine aw_block (aw_range [8, 96, 120, 121] [(6, .ptr 8 0)] [.bot, .bot, .bot, .bot, .bot, .bot, .ptr 8 0] kprecord_tape_samples_S1 rfl (by simp) ⟨.inl rfl, .inl rfl, .inl rfl, .inl rfl, .inl rfl, .inl rfl, .inr rfl, trivial⟩ rfl rfl (by simp) ⟨.inr ⟨rfl, .ptr _ _ (by simp)⟩, trivial⟩ (fun r hr => ?_))
  refine samples_hit hr rfl l frs h2 h1 f hfo hf [8, 96, 120, 121] (by decide) [.bot, .bot, .bot, .bot, .bot, .bot, .ptr 8 0] rfl (by intro d hd; simp at hd; rcases hd with rfl | rfl; exact .bot; exact .ptr _ _ (by simp)) (by simp) (by simp) (by simp) (fun i => [(8, [.vec 24 (smps l f frs i).length 2]), (24, scells (smps l f frs i))]) (fun i => scV_low 800 8 24 _ _ (by decide) (by decide) .nil) (fun i hi hs => ?_) (fun i v hi hs => ?_) ?_
  · have : smps l f frs (i + 1) = smps l f frs i := by rw [smps_succ, hs]; simp
    simp only [this]
  · have hgl := smps_len l f frs i
    have e : smps l f frs (i + 1) = smps l f frs i ++ [((i : Int), v)] := by rw [smps_succ, hs]
    rw [e]
    generalize smps l f frs i = L at *
    rw [← sc_snoc L ((i : Int), v)]
    have hic : (scells L).length = L.length * 2 := scells_len _
    have hit : (scells L).take (L.length * 2) = scells L := sc_all L
    have hcin : ∀ y ∈ scells L ++ [.val (.int .i64 (i : Int)), .val (.int .i64 v)], In (fun _ => False) y := by rw [sc_snoc L ((i : Int), v)]; exact scells_in _
    have hlen : (L ++ [((i : Int), v)]).length = L.length + 1 := by simp
    rw [hlen]
    unfold crecord_Read_B25 smH
    refine aw_block (aw_region ?_)
    simp (config := {maxSteps := 10000000}) (disch := first | exact okYes (by kernel_rfl) | omega) only [blockQ, List.length, Nat.zero_add, Nat.reduceAdd, Nat.reduceMul, true_and, bodyE, asgE, parE, envOf, dI, eput_c, Nat.reduceBEq, eput_n, cond_false, eget_c, ↓eget_h, ARun_none, AOpRun, aexec, Option.map, run1, FSt.ev, St.F, hget_c, ↓hget_h, List.getElem?_cons_zero, AGo_ok, St.app, putO, hups, List.map, fillD, D.isBot, Bool.false_eq_true, D.cells, ne_eq, not_true_eq_false, Nat.reduceGT, or_self, ↓reduceIte, splice, List.take, List.nil_append, List.drop, List.cons_append, List.append_nil, Option.isSome, hget_n, hput_c, hput_n, base, hic, Nat.le_refl, and_self, hit, elems, List.all, D.leaf, Bool.and_true, and_true, ups]
    refine ago_if (by omega) ?_
    simp (config := {maxSteps := 10000000}) (disch := first | exact okYes (by kernel_rfl) | omega) only [AGo_ok, Nat.reduceAdd, St.app, putO, eput_c, Nat.reduceBEq, eput_n, cond_false, hups, hput_c, hput_n, hdel_c, beq_self_eq_true, hdel_n, cond_true, List.map, ARun_none, AOpRun, aexec, FSt.ev, St.F, eget_c, ↓eget_h, hget_c, ↓hget_h, D.isBot, D.cells, List.length, Nat.zero_add, Nat.reduceLeDiff, List.all, D.leaf, Bool.and_true, and_self, ↓reduceIte, splice, List.take, List.nil_append, List.drop, List.append_nil, ARun_nil, dropE_c, inL_c, inL_n, dropE_n]
    try refine ⟨rfl, ?_⟩
    refine wk_to [] [(8, 8), (24, 1540), (96, 96), (120, 120), (121, 121), (800, 800), (808, 808), (1000, 1000)] (by kernel_rfl) (by kernel_rfl) (by kernel_rfl) (by kernel_rfl) (by kernel_rfl) ?_ ?_ <;> repeat' (first | exact trivial | exact vr_val _ | exact vr_list _ | exact vr_vec _ _ _ _ rfl | exact vr_ptr _ _ _ rfl | refine And.intro ⟨_, rfl, .inl ⟨_, rfl, by decide, ?_⟩⟩ ?_ | apply And.intro | exact vr_yrefs _ _ rfl | exact vrl_flat _ (by first | exact icells_in _ | exact rcells_in _ | exact scells_in _ | exact bcells_in _ | assumption))
    all_goals first | exact tpC_in _ _ _ | exact flC_in _ _ | assumption
  · have hgl := smps_len l f frs frs.length
    generalize smps l f frs frs.length = L at *
    unfold smH
    simp only [blockQ, thenQ]
    (have hg : (987654321 : Nat) - 987654321 = 0 := rfl; have hr := hg; repeat' (first | refine aw_seq ?_ | (refine aw_skip ?_; repeat' (first | with_reducible refine thenQ_n ?_ | with_reducible refine blockQ_n ?_ | with_reducible refine thenQ_e ?_ | with_reducible refine blockQ_t ?_ | with_reducible refine blockQ_f (by decide) ?_)) | (refine aw_exit ?_; repeat' (first | with_reducible refine thenQ_n ?_ | with_reducible refine blockQ_n ?_ | with_reducible refine thenQ_e ?_ | with_reducible refine blockQ_t ?_ | with_reducible refine blockQ_f (by decide) ?_)) | refine aw_ret ?_ | refine aw_block ?_ | refine aw_condT rfl ?_ | refine aw_condF rfl ?_ | ((first | refine aw_hide fun K hK => aw_region ?_ | refine ago_if (by omega) ?_ | skip); simp (config := {maxSteps := 10000000}) (disch := first | exact okYes (by kernel_rfl) | omega) only [List.length, Nat.zero_add, Nat.reduceAdd, Nat.reduceMul, ARun_none, AOpRun, aexec, Option.map, run1, FSt.ev, St.F, ↓eget_h, hget_c, Nat.reduceBEq, ↓hget_h, cond_false, List.getElem?_cons_zero, AGo_ok, St.app, putO, eput_c, eput_n, hups, List.map, D.isBot, eget_c, D.cells, Nat.reduceLeDiff, List.all, D.leaf, Bool.and_true, and_self, ↓reduceIte, splice, List.take, List.nil_append, List.drop, List.append_nil, hput_c, beq_self_eq_true, hput_n, cond_true, ARun_nil, dropE_c, inL_c, inL_n, dropE_n]) | (subst hK; repeat' (first | with_reducible refine thenQ_n ?_ | with_reducible refine blockQ_n ?_ | with_reducible refine thenQ_e ?_ | with_reducible refine blockQ_t ?_ | with_reducible refine blockQ_f (by decide) ?_))))
    refine end_to [24] [] (by first | exact .inl rfl | exact .inr rfl) rfl (by kernel_rfl) (by kernel_rfl) (by kernel_rfl) ?_ ?_ <;> repeat' (first | exact trivial | exact vr_val _ | apply vr_tup | refine vr_fl _ _ _ _ _ (by decide) rfl ?_ ?_ ?_ ?_ | apply And.intro)
    all_goals first | exact sps_two _ | exact sps_len _ | exact sps_flat _ | exact scells_in _
set_option maxRecDepth 100000 in
set_option maxHeartbeats 1000000 in
theorem read_err (l : Lay) (frs : List (List Int)) (x : Int) (hl : LayIn l) (he : wfE l frs [x] ≠ 0) (hf : FrIn frs) : AC Try.prog 18 [layD l, .list (rows frs), dI x] [] [] (.tup [.list (sps []), dI (wfE l frs [x])]) := by
  refine krecord_Read.ac (n0 := 0) (by simp) ⟨in_layD _ _, .list _, .val _, trivial⟩ trivial rfl ?_
  unfold crecord_Read layD layC
  have nt := withField_err l frs [x] hl hf (Nat.le_of_ble_eq_true rfl) he
  have h1 : (wfE l frs [x] != 0) = true := by simpa using he
  generalize wfE l frs [x] = E at *
  refine aw_seq (aw_region ?_)
  simp (config := {maxSteps := 10000000}) (disch := first | exact okYes (by kernel_rfl) | omega) only [thenQ, List.map, dI, List.length, Nat.zero_add, Nat.reduceAdd, Nat.reduceMul, envOf, ARun_none, AOpRun, aexec, D.isBot, FSt.ev, St.F, ↓eget_h, Bool.false_eq_true, Option.isSome, hget_n, or_self, ↓reduceIte, D.cells, AGo_ok, St.app, putO, eput_c, Nat.reduceBEq, eput_n, cond_false, hups, hput_n, hget_c, hput_c, ARun_nil, dropE_c, inL_n, dropE_n]
  refine aw_seq (aw_region ?_)
  simp (config := {maxSteps := 10000000}) (disch := first | exact okYes (by kernel_rfl) | omega) only [thenQ, List.length, Nat.zero_add, Nat.reduceAdd, Nat.reduceMul, ARun_none, AOpRun, aexec, FSt.ev, St.F, eget_c, Nat.reduceBEq, ↓eget_h, cond_false, hget_c, beq_self_eq_true, hget_n, cond_true, Nat.reduceLeDiff, ↓reduceIte, List.drop, List.take, AGo_ok, St.app, putO, eput_c, eput_n, hups, List.map, Option.isSome, Bool.false_eq_true, Option.map, fillD, D.isBot, D.cells, ne_eq, not_true_eq_false, Nat.reduceGT, or_self, splice, List.nil_append, List.append_nil, hput_c, hput_n]
  refine acall nt [48] ⟨.refl _, .refl _, vec_ints [x] (by simp) rfl rfl, trivial⟩ (.inr (.tup _ (by intro d hd; simp at hd; rcases hd with rfl | rfl <;> exact .val _))) (by intro g hg; simp at hg; subst hg; exact ⟨_, rfl⟩) (by kernel_rfl) ?_
  simp (config := {maxSteps := 10000000}) (disch := first | exact okYes (by kernel_rfl) | omega) only [Nat.reduceAdd, St.app, putO, dI, eput_c, Nat.reduceBEq, eput_n, cond_false, hups, ARun_none, AOpRun, aexec, FSt.ev, St.F, eget_c, ↓eget_h, AGo_ok, List.map, opt1, Option.map, List.getElem?_cons_zero, List.getElem?_cons_succ, beq_self_eq_true, cond_true, ARun_nil, dropE_c, inL_c, inL_n, dropE_n]
  (have hg : (987654321 : Nat) - 987654321 = 0 := rfl; have hr := hg; repeat' (first | refine aw_seq ?_ | (refine aw_skip ?_; repeat' (first | with_reducible refine thenQ_n ?_ | with_reducible refine blockQ_n ?_ | with_reducible refine thenQ_e ?_ | with_reducible refine blockQ_t ?_ | with_reducible refine blockQ_f (by decide) ?_)) | (refine aw_exit ?_; repeat' (first | with_reducible refine thenQ_n ?_ | with_reducible refine blockQ_n ?_ | with_reducible refine thenQ_e ?_ | with_reducible refine blockQ_t ?_ | with_reducible refine blockQ_f (by decide) ?_)) | refine aw_ret ?_ | refine aw_block ?_ | refine aw_condT rfl ?_ | refine aw_condF rfl ?_ | ((first | refine aw_hide fun K hK => aw_region ?_ | refine ago_if (by omega) ?_ | skip); simp (config := {maxSteps := 10000000}) (disch := first | exact okYes (by kernel_rfl) | omega) only [List.length, Nat.zero_add, Nat.reduceAdd, Nat.reduceMul, ARun_none, AOpRun, aexec, FSt.ev, St.F, eget_c, Nat.reduceBEq, ↓eget_h, cond_false, AGo_ok, St.app, putO, eput_c, eput_n, hups, List.map, isSh, Bool.false_eq_true, ↓reduceIte, Option.map, abin, h1, ARun_nil, dropE_c, inL_c, inL_n, beq_self_eq_true, cond_true, dropE_n, hget_c, ↓hget_h, D.isBot, D.cells, Nat.reduceLeDiff, List.all, D.leaf, Bool.and_true, and_self, splice, List.take, List.nil_append, List.drop, List.append_nil, hput_c, hput_n, thenQ]) | (subst hK; repeat' (first | with_reducible refine thenQ_n ?_ | with_reducible refine blockQ_n ?_ | with_reducible refine thenQ_e ?_ | with_reducible refine blockQ_t ?_ | with_reducible refine blockQ_f (by decide) ?_))))
  (refine end_to [] [] (by first | exact .inl rfl | exact .inr rfl) rfl (by kernel_rfl) (by kernel_rfl) (by kernel_rfl) ?_ ?_ <;> repeat' (first | exact trivial | exact vr_val _ | exact vr_nil | apply vr_tup | apply And.intro))
noncomputable def readR (l : Lay) (frs : List (List Int)) (x : Int) : List (Int × Int) := if wfE l frs [x] = 0 then smps l (fAt l x.toNat) frs frs.length else []
theorem read_ac (l : Lay) (frs : List (List Int)) (x : Int) (hl : LayIn l) (hf : FrIn frs) : AC Try.prog 18 [layD l, .list (rows frs), dI x] [] [] (.tup [.list (sps (readR l frs x)), dI (wfE l frs [x])]) := by
  unfold readR
  by_cases h : wfE l frs [x] = 0
  · obtain ⟨h1, h2, _, k, rfl, hk⟩ := wfE_ok h
    rw [if_pos h, h]; exact read_ok l frs k hl h1 h2 hf hk
  · rw [if_neg h]; exact read_err l frs x hl h hf
set_option maxRecDepth 100000 in
set_option maxHeartbeats 4000000 in
theorem peak_ok (l : Lay) (frs : List (List Int)) (k : Nat) (hl : LayIn l) (h1 : LayOk l) (h2 : frs.length ≤ 200) (hf : FrIn frs) (hk : k < l.fl.length) : AC Try.prog 20 [layD l, .list (rows frs), dI k] [] [] (if (pkS l (fAt l k) frs frs.length).1 < 0 then .tup [dI 0, dI 0, dI 3] else .tup [dI (pkS l (fAt l k) frs frs.length).1, dI (pkS l (fAt l k) frs frs.length).2, dI 0]) := by
  have hin : In (fun _ => False) (if (pkS l (fAt l k) frs frs.length).1 < 0 then D.tup [dI 0, dI 0, dI 3] else .tup [dI (pkS l (fAt l k) frs frs.length).1, dI (pkS l (fAt l k) frs frs.length).2, dI 0]) := by
    split <;> exact .tup _ (by intro d hd; simp at hd; rcases hd with rfl | rfl | rfl <;> exact .val _)
  refine krecord_Peak.ac (n0 := 0) (by simp) ⟨in_layD _ _, .list _, .val _, trivial⟩ trivial rfl ?_
  unfold crecord_Peak layD layC
  have hh : hasA l [(k : Int)] = true := by rw [hasA_one]; exact wI_y (by omega) (by omega)
  have nt := withField_ok l frs [(k : Int)] hl h1 h2 hf (Nat.le_of_ble_eq_true rfl) hh
  have sa := samples_ac l frs k hk (by have := h1.nf; omega)
  have hfo := fAt_ok h1 hk
  generalize fAt l k = f at *
  refine aw_seq (aw_region ?_)
  simp (config := {maxSteps := 10000000}) (disch := first | exact okYes (by kernel_rfl) | omega) only [thenQ, List.map, Int.reduceNeg, dI, List.length, Nat.zero_add, Nat.reduceAdd, Nat.reduceMul, envOf, ARun_none, AOpRun, aexec, D.isBot, FSt.ev, St.F, ↓eget_h, Bool.false_eq_true, Option.isSome, hget_n, or_self, ↓reduceIte, D.cells, AGo_ok, St.app, putO, eput_c, Nat.reduceBEq, eput_n, cond_false, hups, hput_n, hget_c, hput_c, ARun_nil, dropE_c, inL_n, dropE_n]
  refine aw_wk (s' := ⟨[(1, .list (rows frs)), (2, dI k), (3, .ptr 0 0), (6, .ptr 8 0), (7, .ptr 16 0)], [(0, [dI l.words, dI l.s0, dI l.s1, dI l.s2, dI l.s3, .list (fls l.fl)]), (8, [dI 0]), (16, [dI 0])], 40⟩) ?_ ?_
  · unfold dI
    refine wk_to [] [(0, 0), (8, 8), (16, 16)] (by kernel_rfl) (by kernel_rfl) (by kernel_rfl) (by kernel_rfl) (by kernel_rfl) ?_ ?_ <;> repeat' (first | exact trivial | exact vr_val _ | exact vr_list _ | exact vr_ptr _ _ _ rfl | refine And.intro ⟨_, rfl, .inl ⟨_, rfl, by decide, ?_⟩⟩ ?_ | apply And.intro)
  refine aw_seq (aw_region_cut [⟨some 13, .loadN 6 (.tmp 3), none, []⟩,
     ⟨some 14, .mv (.tmp 1), none, []⟩,
     ⟨some 15, .mv (.tmp 2), none, []⟩,
     ⟨some 16, .buildSl 1 1 [(.val (.int .i64 0))] [(0, 1, (.tmp 15))], none, []⟩]
     [⟨some 17, .call (.func 66) [(.tmp 13), (.tmp 14), (.tmp 16)], none, []⟩,
     ⟨some 12, .mv (.tmp 17), none, []⟩,
     ⟨some 18, .ext (.tmp 12) 0, none, []⟩,
     ⟨some 19, .ext (.tmp 12) 1, none, []⟩,
     ⟨some 9, .mv (.tmp 18), none, []⟩,
     ⟨some 8, .mv (.tmp 19), none, []⟩] ?_)
  simp (config := {maxSteps := 10000000}) (disch := first | exact okYes (by kernel_rfl) | omega) only [List.length, Nat.zero_add, Nat.reduceAdd, Nat.reduceMul, thenQ, Int.reduceNeg, ARun_none, AOpRun, FSt.ev, List.map, St.F, dI, aexec, eget_c, Nat.reduceBEq, ↓eget_h, cond_false, hget_c, beq_self_eq_true, hget_n, cond_true, Nat.reduceLeDiff, ↓reduceIte, List.drop, List.take, AGo_ok, St.app, putO, eput_c, eput_n, hups, Option.isSome, Bool.false_eq_true, Option.map, fillD, D.isBot, D.cells, ne_eq, not_true_eq_false, Nat.reduceGT, or_self, splice, List.nil_append, List.append_nil, hput_c, hput_n, ARun_nil]
  refine ⟨⟨[(2, dI k), (6, .ptr 8 0), (7, .ptr 16 0), (13, layD l), (14, .list (rows frs)), (16, .list (ints [(k : Int)]))], [(8, [dI 0]), (16, [dI 0])], 96⟩, ?_, of_decide_eq_true (by kernel_rfl), ?_⟩
  · unfold layD layC dI
    refine wk_to [64] [(8, 8), (16, 16)] (by kernel_rfl) (by kernel_rfl) (by kernel_rfl) (by kernel_rfl) (by kernel_rfl) ?_ ?_ <;> repeat' (first | exact trivial | exact vr_val _ | exact vr_list _ | exact vr_ptr _ _ _ rfl | apply vr_agg | refine vr_fl _ _ _ _ _ (by decide) rfl ?_ ?_ ?_ ?_ | refine And.intro ⟨_, rfl, .inl ⟨_, rfl, by decide, ?_⟩⟩ ?_ | apply And.intro)
    all_goals first | exact ints_one _ | exact ints_len _ | exact ints_flat _ | exact icells_in _ | exact icells_in [(k : Int)]
  simp (config := {maxSteps := 10000000}) (disch := first | exact okYes (by kernel_rfl) | omega) only [Nat.reduceSub, Int.reduceNeg, Nat.reduceAdd, eget_c, Nat.reduceBEq, ↓eget_h, cond_false]
  refine acallB nt (by repeat' (first | exact trivial | exact rfl | refine And.intro ?_ ?_)) (by kernel_rfl) (by kernel_rfl) (by kernel_rfl) ?_
  simp (config := {maxSteps := 10000000}) (disch := first | exact okYes (by kernel_rfl) | omega) only [Int.reduceNeg, Nat.reduceAdd, St.app, putO, dI, eput_c, Nat.reduceBEq, eput_n, cond_false, hups, hput_c, hput_n, List.map, List.append_nil, ARun_none, AOpRun, aexec, FSt.ev, St.F, eget_c, ↓eget_h, AGo_ok, opt1, Option.map, List.getElem?_cons_zero, List.getElem?_cons_succ, ARun_nil, dropE_c, inL_c, inL_n, beq_self_eq_true, cond_true, dropE_n]
  refine aw_seq (aw_seq (aw_region ?_))
  simp (config := {maxSteps := 10000000}) (disch := first | exact okYes (by kernel_rfl) | omega) only [thenQ, Int.reduceNeg, List.length, Nat.zero_add, Nat.reduceAdd, Nat.reduceMul, ARun_none, AOpRun, aexec, FSt.ev, St.F, eget_c, Nat.reduceBEq, ↓eget_h, cond_false, AGo_ok, St.app, putO, eput_c, eput_n, hups, List.map, isSh, Bool.false_eq_true, ↓reduceIte, Option.map, abin, bne_self_eq_false, ARun_nil, dropE_c, inL_c, inL_n, beq_self_eq_true, cond_true, dropE_n]
  refine aw_condF rfl (aw_skip ?_)
  refine aw_seq (aw_region ?_)
  simp (config := {maxSteps := 10000000}) (disch := first | exact okYes (by kernel_rfl) | omega) only [thenQ, List.length, Nat.zero_add, Nat.reduceMul, Nat.reduceAdd, Int.reduceNeg, ARun_none, AOpRun, aexec, FSt.ev, St.F, eget_c, Nat.reduceBEq, ↓eget_h, cond_false, hget_c, beq_self_eq_true, hget_n, cond_true, D.isBot, D.cells, Nat.reduceLeDiff, List.all, D.leaf, Bool.and_true, and_self, ↓reduceIte, splice, List.take, List.nil_append, List.drop, List.append_nil, AGo_ok, St.app, putO, hups, hput_c, hput_n, List.map, ARun_nil, dropE_c, inL_n, dropE_n]
  refine aw_wk (s' := ⟨[(2, dI k), (6, .ptr 8 0), (7, .ptr 16 0), (9, .ptr 96 0)], [(96, tpC l frs), (8, [dI (-1)]), (16, [dI 0])], 104⟩) ?_ ?_
  · unfold dI
    refine wk_to [] [(8, 8), (16, 16), (96, 96)] (by kernel_rfl) (by kernel_rfl) (by kernel_rfl) (by kernel_rfl) (by kernel_rfl) ?_ ?_ <;> repeat' (first | exact trivial | exact vr_val _ | exact vr_list _ | exact vr_ptr _ _ _ rfl | refine And.intro ⟨_, rfl, .inl ⟨_, rfl, by decide, ?_⟩⟩ ?_ | apply And.intro)
    all_goals exact tpC_in _ _ _
  refine aw_seq (aw_seq (aw_region ?_))
  simp (config := {maxSteps := 10000000}) (disch := first | exact okYes (by kernel_rfl) | omega) only [thenQ, List.length, Nat.zero_add, Nat.reduceAdd, Nat.reduceMul, dI, Int.reduceNeg, ARun_none, AOpRun, aexec, FSt.ev, St.F, eget_c, Nat.reduceBEq, ↓eget_h, cond_false, AGo_ok, St.app, putO, eput_c, eput_n, hups, List.map]
  refine acallB sa (by repeat' (first | exact trivial | exact rfl | refine And.intro ?_ ?_)) (by kernel_rfl) (by kernel_rfl) (by kernel_rfl) ?_
  simp (config := {maxSteps := 10000000}) (disch := first | exact okYes (by kernel_rfl) | omega) only [Nat.reduceAdd, St.app, putO, eput_c, Nat.reduceBEq, eput_n, cond_false, hups, Int.reduceNeg, hput_c, hput_n, beq_self_eq_true, cond_true, List.map, List.append_nil, ARun_nil, dropE_c, inL_c, inL_n, dropE_n]
  refine aw_wk (s' := ⟨[(6, .ptr 8 0), (7, .ptr 16 0), (25, .fn 113 [] [.ptr 120 0, .ptr 121 0])], [(96, tpC l frs), (120, [.ptr 96 0]), (121, flC f), (8, [dI (-1)]), (16, [dI 0])], 800⟩) ?_ ?_
  · unfold dI
    refine wk_to [] [(8, 8), (16, 16), (96, 96), (120, 120), (121, 121)] (by kernel_rfl) (by kernel_rfl) (by kernel_rfl) (by kernel_rfl) (by kernel_rfl) ?_ ?_ <;> repeat' (first | exact trivial | exact vr_val _ | exact vr_list _ | exact vr_ptr _ _ _ rfl | apply vr_fn | refine And.intro ⟨_, rfl, .inl ⟨_, rfl, by decide, ?_⟩⟩ ?_ | apply And.intro)
    all_goals first | exact tpC_in _ _ _ | exact flC_in _ _
  refine aw_block (aw_range [8, 16, 96, 120, 121] [(6, .ptr 8 0), (7, .ptr 16 0)] [.bot, .bot, .bot, .bot, .bot, .bot, .ptr 8 0, .ptr 16 0] kprecord_tape_samples_S1 rfl (by simp) ⟨.inl rfl, .inl rfl, .inl rfl, .inl rfl, .inl rfl, .inl rfl, .inr rfl, .inr rfl, trivial⟩ rfl rfl (by simp) ⟨.inr ⟨rfl, .ptr _ _ (by simp)⟩, .inr ⟨rfl, .ptr _ _ (by simp)⟩, trivial⟩ (fun r hr => ?_))
  refine samples_hit hr rfl l frs h2 h1 f hfo hf [8, 16, 96, 120, 121] (by decide) [.bot, .bot, .bot, .bot, .bot, .bot, .ptr 8 0, .ptr 16 0] rfl (by intro d hd; simp at hd; rcases hd with rfl | rfl | rfl; exact .bot; exact .ptr _ _ (by simp); exact .ptr _ _ (by simp)) (by simp) (by simp) (by simp) (fun i => [(8, [dI (pkS l f frs i).1]), (16, [dI (pkS l f frs i).2])])
    (fun i => .cons (by decide) (by intro d hd; simp at hd; subst hd; exact .val _) rfl (.cons (by decide) (by intro d hd; simp at hd; subst hd; exact .val _) rfl .nil)) (fun i hi hs => ?_) (fun i v hi hs => ?_) ?_
  · have : pkS l f frs (i + 1) = pkS l f frs i := by simp only [pkS, hs]
    simp only [this]
  · have e : pkS l f frs (i + 1) = if (pkS l f frs i).1 < 0 ∨ v > (pkS l f frs i).2 then ((i : Int), v) else pkS l f frs i := by simp only [pkS, hs]
    rw [e]
    generalize pkS l f frs i = p at *
    obtain ⟨a, b⟩ := p
    simp only
    unfold crecord_Peak_B26 smH
    refine aw_block (aw_seq (aw_region ?_))
    cases q1 : decide (a < 0) with
    | true =>
      rw [if_pos (.inl (of_decide_eq_true q1))]
      simp (config := {maxSteps := 10000000}) (disch := first | exact okYes (by kernel_rfl) | omega) only [thenQ, dI, List.length, Nat.zero_add, Nat.reduceAdd, Nat.reduceMul, bodyE, asgE, parE, envOf, eput_c, Nat.reduceBEq, eput_n, cond_false, eget_c, ↓eget_h, ARun_none, AOpRun, aexec, Option.map, run1, FSt.ev, St.F, hget_c, ↓hget_h, List.getElem?_cons_zero, AGo_ok, St.app, putO, hups, List.map, isSh, Bool.false_eq_true, ↓reduceIte, abin, q1, ARun_some, AG_tf, ARun_nil, dropE_c, inL_c, inL_n, beq_self_eq_true, cond_true, dropE_n]
      refine aw_condT rfl (aw_region ?_)
      simp (config := {maxSteps := 10000000}) (disch := first | exact okYes (by kernel_rfl) | omega) only [blockQ, List.length, Nat.zero_add, Nat.reduceAdd, Nat.reduceMul, true_and, ARun_none, AOpRun, aexec, FSt.ev, St.F, eget_c, Nat.reduceBEq, ↓eget_h, cond_false, AGo_ok, St.app, putO, eput_c, eput_n, hups, List.map, hget_c, ↓hget_h, D.isBot, D.cells, Nat.reduceLeDiff, List.all, D.leaf, Bool.and_true, and_self, ↓reduceIte, splice, List.take, List.nil_append, List.drop, List.append_nil, hput_c, beq_self_eq_true, hput_n, cond_true, ARun_nil, dropE_c, inL_c, inL_n, dropE_n]
      try refine ⟨rfl, ?_⟩
      refine wk_to [] [(8, 8), (16, 16), (96, 96), (120, 120), (121, 121), (800, 800), (808, 808), (1000, 1000)] (by kernel_rfl) (by kernel_rfl) (by kernel_rfl) (by kernel_rfl) (by kernel_rfl) ?_ ?_ <;> repeat' (first | exact trivial | exact vr_val _ | exact vr_list _ | exact vr_ptr _ _ _ rfl | refine And.intro ⟨_, rfl, .inl ⟨_, rfl, by decide, ?_⟩⟩ ?_ | apply And.intro | exact vr_yrefs _ _ rfl)
      all_goals first | exact tpC_in _ _ _ | exact flC_in _ _
    | false =>
      have n1 := of_decide_eq_false q1
      cases q2 : decide (v > b) with
      | true =>
        rw [if_pos (.inr (of_decide_eq_true q2))]
        simp (config := {maxSteps := 10000000}) (disch := first | exact okYes (by kernel_rfl) | omega) only [thenQ, dI, List.length, Nat.zero_add, Nat.reduceAdd, Nat.reduceMul, bodyE, asgE, parE, envOf, eput_c, Nat.reduceBEq, eput_n, cond_false, eget_c, ↓eget_h, ARun_none, AOpRun, aexec, Option.map, run1, FSt.ev, St.F, hget_c, ↓hget_h, List.getElem?_cons_zero, AGo_ok, St.app, putO, hups, List.map, isSh, Bool.false_eq_true, ↓reduceIte, abin, q1, ARun_some, AG_ff, q2, ARun_nil, dropE_c, inL_c, inL_n, beq_self_eq_true, cond_true, dropE_n]
        refine aw_condT rfl (aw_region ?_)
        simp (config := {maxSteps := 10000000}) (disch := first | exact okYes (by kernel_rfl) | omega) only [blockQ, List.length, Nat.zero_add, Nat.reduceAdd, Nat.reduceMul, true_and, ARun_none, AOpRun, aexec, FSt.ev, St.F, eget_c, Nat.reduceBEq, ↓eget_h, cond_false, AGo_ok, St.app, putO, eput_c, eput_n, hups, List.map, hget_c, ↓hget_h, D.isBot, D.cells, Nat.reduceLeDiff, List.all, D.leaf, Bool.and_true, and_self, ↓reduceIte, splice, List.take, List.nil_append, List.drop, List.append_nil, hput_c, beq_self_eq_true, hput_n, cond_true, ARun_nil, dropE_c, inL_c, inL_n, dropE_n]
        try refine ⟨rfl, ?_⟩
        refine wk_to [] [(8, 8), (16, 16), (96, 96), (120, 120), (121, 121), (800, 800), (808, 808), (1000, 1000)] (by kernel_rfl) (by kernel_rfl) (by kernel_rfl) (by kernel_rfl) (by kernel_rfl) ?_ ?_ <;> repeat' (first | exact trivial | exact vr_val _ | exact vr_list _ | exact vr_ptr _ _ _ rfl | refine And.intro ⟨_, rfl, .inl ⟨_, rfl, by decide, ?_⟩⟩ ?_ | apply And.intro | exact vr_yrefs _ _ rfl)
        all_goals first | exact tpC_in _ _ _ | exact flC_in _ _
      | false =>
        have n2 := of_decide_eq_false q2
        rw [if_neg (by rintro (h | h); exact n1 h; exact n2 h)]
        simp (config := {maxSteps := 10000000}) (disch := first | exact okYes (by kernel_rfl) | omega) only [thenQ, dI, List.length, Nat.zero_add, Nat.reduceAdd, Nat.reduceMul, bodyE, asgE, parE, envOf, eput_c, Nat.reduceBEq, eput_n, cond_false, eget_c, ↓eget_h, ARun_none, AOpRun, aexec, Option.map, run1, FSt.ev, St.F, hget_c, ↓hget_h, List.getElem?_cons_zero, AGo_ok, St.app, putO, hups, List.map, isSh, Bool.false_eq_true, ↓reduceIte, abin, q1, ARun_some, AG_ff, q2, ARun_nil, dropE_c, inL_c, inL_n, beq_self_eq_true, cond_true, dropE_n]
        refine aw_condF rfl (aw_skip ?_)
        try refine ⟨rfl, ?_⟩
        refine wk_to [] [(8, 8), (16, 16), (96, 96), (120, 120), (121, 121), (800, 800), (808, 808), (1000, 1000)] (by kernel_rfl) (by kernel_rfl) (by kernel_rfl) (by kernel_rfl) (by kernel_rfl) ?_ ?_ <;> repeat' (first | exact trivial | exact vr_val _ | exact vr_list _ | exact vr_ptr _ _ _ rfl | refine And.intro ⟨_, rfl, .inl ⟨_, rfl, by decide, ?_⟩⟩ ?_ | apply And.intro | exact vr_yrefs _ _ rfl)
        all_goals first | exact tpC_in _ _ _ | exact flC_in _ _
  · generalize pkS l f frs frs.length = p at *
    obtain ⟨a, b⟩ := p
    unfold smH
    simp only [blockQ, thenQ]
    cases q1 : decide (a < 0) with
    | true =>
      rw [if_pos (of_decide_eq_true q1)]
      (have hg : (987654321 : Nat) - 987654321 = 0 := rfl; have hr := hg; repeat' (first | refine aw_seq ?_ | (refine aw_skip ?_; repeat' (first | with_reducible refine thenQ_n ?_ | with_reducible refine blockQ_n ?_ | with_reducible refine thenQ_e ?_ | with_reducible refine blockQ_t ?_ | with_reducible refine blockQ_f (by decide) ?_)) | (refine aw_exit ?_; repeat' (first | with_reducible refine thenQ_n ?_ | with_reducible refine blockQ_n ?_ | with_reducible refine thenQ_e ?_ | with_reducible refine blockQ_t ?_ | with_reducible refine blockQ_f (by decide) ?_)) | refine aw_ret ?_ | refine aw_block ?_ | refine aw_condT rfl ?_ | refine aw_condF rfl ?_ | ((first | refine aw_hide fun K hK => aw_region ?_ | refine ago_if (by omega) ?_ | skip); simp (config := {maxSteps := 10000000}) (disch := first | exact okYes (by kernel_rfl) | omega) only [List.length, Nat.zero_add, Nat.reduceAdd, Nat.reduceMul, dI, ARun_none, AOpRun, aexec, Option.map, run1, FSt.ev, St.F, ↓eget_h, hget_c, Nat.reduceBEq, ↓hget_h, cond_false, List.getElem?_cons_zero, AGo_ok, St.app, putO, eput_c, eput_n, hups, List.map, eget_c, isSh, Bool.false_eq_true, ↓reduceIte, abin, q1, ARun_nil, dropE_c, inL_c, inL_n, beq_self_eq_true, cond_true, dropE_n, D.isBot, D.cells, Nat.reduceLeDiff, List.all, D.leaf, Bool.and_true, and_self, splice, List.take, List.nil_append, List.drop, List.append_nil, hput_c, hput_n, thenQ]) | (subst hK; repeat' (first | with_reducible refine thenQ_n ?_ | with_reducible refine blockQ_n ?_ | with_reducible refine thenQ_e ?_ | with_reducible refine blockQ_t ?_ | with_reducible refine blockQ_f (by decide) ?_))))
      (refine end_to [] [] (by first | exact .inl rfl | exact .inr rfl) rfl (by kernel_rfl) (by kernel_rfl) (by kernel_rfl) ?_ ?_ <;> repeat' (first | exact trivial | exact vr_val _ | apply vr_tup | apply And.intro))
    | false =>
      rw [if_neg (of_decide_eq_false q1)]
      (have hg : (987654321 : Nat) - 987654321 = 0 := rfl; have hr := hg; repeat' (first | refine aw_seq ?_ | (refine aw_skip ?_; repeat' (first | with_reducible refine thenQ_n ?_ | with_reducible refine blockQ_n ?_ | with_reducible refine thenQ_e ?_ | with_reducible refine blockQ_t ?_ | with_reducible refine blockQ_f (by decide) ?_)) | (refine aw_exit ?_; repeat' (first | with_reducible refine thenQ_n ?_ | with_reducible refine blockQ_n ?_ | with_reducible refine thenQ_e ?_ | with_reducible refine blockQ_t ?_ | with_reducible refine blockQ_f (by decide) ?_)) | refine aw_ret ?_ | refine aw_block ?_ | refine aw_condT rfl ?_ | refine aw_condF rfl ?_ | ((first | refine aw_hide fun K hK => aw_region ?_ | refine ago_if (by omega) ?_ | skip); simp (config := {maxSteps := 10000000}) (disch := first | exact okYes (by kernel_rfl) | omega) only [List.length, Nat.zero_add, Nat.reduceAdd, Nat.reduceMul, dI, ARun_none, AOpRun, aexec, Option.map, run1, FSt.ev, St.F, ↓eget_h, hget_c, Nat.reduceBEq, ↓hget_h, cond_false, List.getElem?_cons_zero, AGo_ok, St.app, putO, eput_c, eput_n, hups, List.map, eget_c, isSh, Bool.false_eq_true, ↓reduceIte, abin, q1, ARun_nil, dropE_c, inL_c, inL_n, beq_self_eq_true, cond_true, dropE_n, D.isBot, D.cells, Nat.reduceLeDiff, List.all, D.leaf, Bool.and_true, and_self, splice, List.take, List.nil_append, List.drop, List.append_nil, hput_c, hput_n]) | (subst hK; repeat' (first | with_reducible refine thenQ_n ?_ | with_reducible refine blockQ_n ?_ | with_reducible refine thenQ_e ?_ | with_reducible refine blockQ_t ?_ | with_reducible refine blockQ_f (by decide) ?_))))
      (refine end_to [] [] (by first | exact .inl rfl | exact .inr rfl) rfl (by kernel_rfl) (by kernel_rfl) (by kernel_rfl) ?_ ?_ <;> repeat' (first | exact trivial | exact vr_val _ | apply vr_tup | apply And.intro))
set_option maxRecDepth 100000 in
set_option maxHeartbeats 1000000 in
theorem peak_err (l : Lay) (frs : List (List Int)) (x : Int) (hl : LayIn l) (he : wfE l frs [x] ≠ 0) (hf : FrIn frs) : AC Try.prog 20 [layD l, .list (rows frs), dI x] [] [] (.tup [dI 0, dI 0, dI (wfE l frs [x])]) := by
  refine krecord_Peak.ac (n0 := 0) (by simp) ⟨in_layD _ _, .list _, .val _, trivial⟩ trivial rfl ?_
  unfold crecord_Peak layD layC
  have nt := withField_err l frs [x] hl hf (Nat.le_of_ble_eq_true rfl) he
  have h1 : (wfE l frs [x] != 0) = true := by simpa using he
  generalize wfE l frs [x] = E at *
  refine aw_seq (aw_region ?_)
  simp (config := {maxSteps := 10000000}) (disch := first | exact okYes (by kernel_rfl) | omega) only [thenQ, List.map, Int.reduceNeg, dI, List.length, Nat.zero_add, Nat.reduceAdd, Nat.reduceMul, envOf, ARun_none, AOpRun, aexec, D.isBot, FSt.ev, St.F, ↓eget_h, Bool.false_eq_true, Option.isSome, hget_n, or_self, ↓reduceIte, D.cells, AGo_ok, St.app, putO, eput_c, Nat.reduceBEq, eput_n, cond_false, hups, hput_n, hget_c, hput_c, ARun_nil, dropE_c, inL_n, dropE_n]
  refine aw_seq (aw_region ?_)
  simp (config := {maxSteps := 10000000}) (disch := first | exact okYes (by kernel_rfl) | omega) only [thenQ, Int.reduceNeg, List.length, Nat.zero_add, Nat.reduceAdd, Nat.reduceMul, ARun_none, AOpRun, aexec, FSt.ev, St.F, eget_c, Nat.reduceBEq, ↓eget_h, cond_false, hget_c, beq_self_eq_true, hget_n, cond_true, Nat.reduceLeDiff, ↓reduceIte, List.drop, List.take, AGo_ok, St.app, putO, eput_c, eput_n, hups, List.map, Option.isSome, Bool.false_eq_true, Option.map, fillD, D.isBot, D.cells, ne_eq, not_true_eq_false, Nat.reduceGT, or_self, splice, List.nil_append, List.append_nil, hput_c, hput_n]
  refine acall nt [56] ⟨.refl _, .refl _, vec_ints [x] (by simp) rfl rfl, trivial⟩ (.inr (.tup _ (by intro d hd; simp at hd; rcases hd with rfl | rfl <;> exact .val _))) (by intro g hg; simp at hg; subst hg; exact ⟨_, rfl⟩) (by kernel_rfl) ?_
  simp (config := {maxSteps := 10000000}) (disch := first | exact okYes (by kernel_rfl) | omega) only [Int.reduceNeg, Nat.reduceAdd, St.app, putO, dI, eput_c, Nat.reduceBEq, eput_n, cond_false, hups, ARun_none, AOpRun, aexec, FSt.ev, St.F, eget_c, ↓eget_h, AGo_ok, List.map, opt1, Option.map, List.getElem?_cons_zero, List.getElem?_cons_succ, beq_self_eq_true, cond_true, ARun_nil, dropE_c, inL_c, inL_n, dropE_n]
  (have hg : (987654321 : Nat) - 987654321 = 0 := rfl; have hr := hg; repeat' (first | refine aw_seq ?_ | (refine aw_skip ?_; repeat' (first | with_reducible refine thenQ_n ?_ | with_reducible refine blockQ_n ?_ | with_reducible refine thenQ_e ?_ | with_reducible refine blockQ_t ?_ | with_reducible refine blockQ_f (by decide) ?_)) | (refine aw_exit ?_; repeat' (first | with_reducible refine thenQ_n ?_ | with_reducible refine blockQ_n ?_ | with_reducible refine thenQ_e ?_ | with_reducible refine blockQ_t ?_ | with_reducible refine blockQ_f (by decide) ?_)) | refine aw_ret ?_ | refine aw_block ?_ | refine aw_condT rfl ?_ | refine aw_condF rfl ?_ | ((first | refine aw_hide fun K hK => aw_region ?_ | refine ago_if (by omega) ?_ | skip); simp (config := {maxSteps := 10000000}) (disch := first | exact okYes (by kernel_rfl) | omega) only [List.length, Nat.zero_add, Nat.reduceAdd, Nat.reduceMul, ARun_none, AOpRun, aexec, FSt.ev, St.F, eget_c, Nat.reduceBEq, ↓eget_h, cond_false, AGo_ok, St.app, putO, eput_c, eput_n, hups, List.map, isSh, Bool.false_eq_true, ↓reduceIte, Option.map, abin, h1, ARun_nil, dropE_c, inL_c, inL_n, beq_self_eq_true, cond_true, dropE_n, hget_c, ↓hget_h, D.isBot, D.cells, Nat.reduceLeDiff, List.all, D.leaf, Bool.and_true, and_self, splice, List.take, List.nil_append, List.drop, List.append_nil, hput_c, hput_n, thenQ]) | (subst hK; repeat' (first | with_reducible refine thenQ_n ?_ | with_reducible refine blockQ_n ?_ | with_reducible refine thenQ_e ?_ | with_reducible refine blockQ_t ?_ | with_reducible refine blockQ_f (by decide) ?_))))
  (refine end_to [] [] (by first | exact .inl rfl | exact .inr rfl) rfl (by kernel_rfl) (by kernel_rfl) (by kernel_rfl) ?_ ?_ <;> repeat' (first | exact trivial | exact vr_val _ | apply vr_tup | apply And.intro))
noncomputable def peakR (l : Lay) (frs : List (List Int)) (x : Int) : Int × Int × Int := if wfE l frs [x] = 0 then (if (pkS l (fAt l x.toNat) frs frs.length).1 < 0 then (0, 0, 3) else ((pkS l (fAt l x.toNat) frs frs.length).1, (pkS l (fAt l x.toNat) frs frs.length).2, 0)) else (0, 0, wfE l frs [x])
theorem peak_ac (l : Lay) (frs : List (List Int)) (x : Int) (hl : LayIn l) (hf : FrIn frs) : AC Try.prog 20 [layD l, .list (rows frs), dI x] [] [] (.tup [dI (peakR l frs x).1, dI (peakR l frs x).2.1, dI (peakR l frs x).2.2]) := by
  unfold peakR
  by_cases h : wfE l frs [x] = 0
  · obtain ⟨h1, h2, _, k, rfl, hk⟩ := wfE_ok h
    have := peak_ok l frs k hl h1 h2 hf hk
    rw [if_pos h, Int.toNat_natCast]
    by_cases hp : (pkS l (fAt l k) frs frs.length).1 < 0
    · rw [if_pos hp] at this ⊢; exact this
    · rw [if_neg hp] at this ⊢; exact this
  · rw [if_neg h]; exact peak_err l frs x hl h hf
end Go.Proofs.Ytdcodicoclecnaa
