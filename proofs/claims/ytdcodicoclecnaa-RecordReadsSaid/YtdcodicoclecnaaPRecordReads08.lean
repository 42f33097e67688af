/- Texts of the law RecordReads, part 8. No conditions. -/
import Derived.Test.YtdcodicoclecnaaPRecordReads07
import Derived.Test.YtdcodicoclecnaaRows
/- The functions' bodies, translated. Written by a program; no conditions. -/
namespace Go.Proofs.Ytdcodicoclecnaa
open Go.RowKit Lift

/-- record_Read -/
def crecord_Read_B25 : ACode :=
  (.block 1
    (.region false [⟨some 27, .load1 (.tmp 6), none, []⟩,
      ⟨some 28, .mv (.tmp 9), none, []⟩,
      ⟨some 29, .mv (.tmp 10), none, []⟩,
      ⟨some 30, .build [(.val (.int .i64 0)), (.val (.int .i64 0))] [(0, 1, (.tmp 28)), (1, 1, (.tmp 29))], none, []⟩,
      ⟨some 31, .buildSl 2 1 [(.val (.int .i64 0)), (.val (.int .i64 0))] [(0, 2, (.tmp 30))], none, []⟩,
      ⟨some 32, .app 2 16 (.tmp 27) (.tmp 31), none, []⟩,
      ⟨none, .store 1 (.tmp 6) (.tmp 32), none, []⟩] [27, 28, 29, 30, 31, 32]))
def crecord_Read : ACode :=
  (.seq
   (.region false [⟨some 3, .box (.tmp 0), none, []⟩,
     ⟨some 6, .mem [(.val (.slice none 0 0))], none, []⟩,
     ⟨some 7, .mv (.const (.int .i64 0)), none, []⟩] [])
  (.seq
   (.region false [⟨some 12, .loadN 6 (.tmp 3), none, []⟩,
     ⟨some 13, .mv (.tmp 1), none, []⟩,
     ⟨some 14, .mv (.tmp 2), none, []⟩,
     ⟨some 15, .buildSl 1 1 [(.val (.int .i64 0))] [(0, 1, (.tmp 14))], none, []⟩,
     ⟨some 16, .call (.func 66) [(.tmp 12), (.tmp 13), (.tmp 15)], none, []⟩,
     ⟨some 11, .mv (.tmp 16), none, []⟩,
     ⟨some 17, .ext (.tmp 11) 0, none, []⟩,
     ⟨some 18, .ext (.tmp 11) 1, none, []⟩,
     ⟨some 8, .mv (.tmp 17), none, []⟩,
     ⟨some 7, .mv (.tmp 18), none, []⟩] [12, 13, 14, 15, 16, 11, 17, 18])
  (.seq
   (.seq
    (.region false [⟨some 19, .mv (.tmp 7), none, []⟩,
      ⟨some 20, .bin .neq (.tmp 19) (.const (.int .i64 0)), none, []⟩] [19])
   (.cond (.tmp 20)
     (.seq
      (.region false [⟨some 21, .mv (.tmp 7), none, []⟩,
        ⟨none, .store 1 (.tmp 6) (.const (.slice none 0 0)), none, []⟩,
        ⟨some 7, .mv (.tmp 21), none, []⟩] [21])
     .ret)
     .skip))
  (.seq
   (.seq
    (.region false [⟨some 22, .mv (.tmp 8), none, []⟩,
      ⟨some 23, .mv (.tmp 2), none, []⟩,
      ⟨some 24, .call (.func 67) [(.tmp 22), (.tmp 23)], none, []⟩] [22, 23])
   (.block 0
     (.rangeFunc (.tmp 24) [25, 26] [(9, 25), (10, 26)] crecord_Read_B25)))
  (.seq
   (.region false [⟨some 33, .load1 (.tmp 6), none, []⟩,
     ⟨none, .store 1 (.tmp 6) (.tmp 33), none, []⟩,
     ⟨some 7, .mv (.const (.int .i64 0)), none, []⟩] [33])
  .ret)))))
set_option maxRecDepth 100000 in
theorem krecord_Read : IsCode Try.prog 18 34 crecord_Read [.cell1 6, .tmp 7] :=
  ⟨Try.f18, _, [25, 26, 24, 20, 0, 3, 1, 2, 7, 6, 8, 9, 10], Try.func18, rfl, by decide, rfl, by kernel_rfl, by kernel_rfl⟩
/-- record_Peak -/
def crecord_Peak_B26 : ACode :=
  (.block 1
    (.seq
     (.region false [⟨some 28, .load1 (.tmp 6), none, []⟩,
       ⟨some 29, .bin .lss (.tmp 28) (.const (.int .i64 0)), none, []⟩,
       ⟨some 30, .mv (.tmp 29), none, []⟩,
       ⟨some 31, .mv (.tmp 11), (some (some 30, false)), []⟩,
       ⟨some 32, .load1 (.tmp 7), (some (some 30, false)), []⟩,
       ⟨some 33, .bin .gtr (.tmp 31) (.tmp 32), (some (some 30, false)), []⟩,
       ⟨some 34, .pick (.tmp 30) (.const (.bool true)) (.tmp 33), none, []⟩] [28, 29, 30, 31, 32, 33])
    (.cond (.tmp 34)
      (.region false [⟨some 35, .mv (.tmp 10), none, []⟩,
        ⟨some 36, .mv (.tmp 11), none, []⟩,
        ⟨none, .store 1 (.tmp 6) (.tmp 35), none, []⟩,
        ⟨none, .store 1 (.tmp 7) (.tmp 36), none, []⟩] [35, 36])
      .skip)))
def crecord_Peak : ACode :=
  (.seq
   (.region false [⟨some 3, .box (.tmp 0), none, []⟩,
     ⟨some 6, .mem [(.val (.int .i64 0))], none, []⟩,
     ⟨some 7, .mem [(.val (.int .i64 0))], none, []⟩,
     ⟨some 8, .mv (.const (.int .i64 0)), none, []⟩] [])
  (.seq
   (.region false [⟨some 13, .loadN 6 (.tmp 3), none, []⟩,
     ⟨some 14, .mv (.tmp 1), none, []⟩,
     ⟨some 15, .mv (.tmp 2), none, []⟩,
     ⟨some 16, .buildSl 1 1 [(.val (.int .i64 0))] [(0, 1, (.tmp 15))], none, []⟩,
     ⟨some 17, .call (.func 66) [(.tmp 13), (.tmp 14), (.tmp 16)], none, []⟩,
     ⟨some 12, .mv (.tmp 17), none, []⟩,
     ⟨some 18, .ext (.tmp 12) 0, none, []⟩,
     ⟨some 19, .ext (.tmp 12) 1, none, []⟩,
     ⟨some 9, .mv (.tmp 18), none, []⟩,
     ⟨some 8, .mv (.tmp 19), none, []⟩] [13, 14, 15, 16, 17, 12, 18, 19])
  (.seq
   (.seq
    (.region false [⟨some 20, .mv (.tmp 8), none, []⟩,
      ⟨some 21, .bin .neq (.tmp 20) (.const (.int .i64 0)), none, []⟩] [20])
   (.cond (.tmp 21)
     (.seq
      (.region false [⟨some 22, .mv (.tmp 8), none, []⟩,
        ⟨none, .store 1 (.tmp 6) (.const (.int .i64 0)), none, []⟩,
        ⟨none, .store 1 (.tmp 7) (.const (.int .i64 0)), none, []⟩,
        ⟨some 8, .mv (.tmp 22), none, []⟩] [22])
     .ret)
     .skip))
  (.seq
   (.region false [⟨none, .store 1 (.tmp 6) (.const (.int .i64 (-1))), none, []⟩] [])
  (.seq
   (.seq
    (.region false [⟨some 23, .mv (.tmp 9), none, []⟩,
      ⟨some 24, .mv (.tmp 2), none, []⟩,
      ⟨some 25, .call (.func 67) [(.tmp 23), (.tmp 24)], none, []⟩] [23, 24])
   (.block 0
     (.rangeFunc (.tmp 25) [26, 27] [(10, 26), (11, 27)] crecord_Peak_B26)))
  (.seq
   (.seq
    (.region false [⟨some 37, .load1 (.tmp 6), none, []⟩,
      ⟨some 38, .bin .lss (.tmp 37) (.const (.int .i64 0)), none, []⟩] [37])
   (.cond (.tmp 38)
     (.seq
      (.region false [⟨none, .store 1 (.tmp 6) (.const (.int .i64 0)), none, []⟩,
        ⟨none, .store 1 (.tmp 7) (.const (.int .i64 0)), none, []⟩,
        ⟨some 8, .mv (.const (.int .i64 3)), none, []⟩] [])
     .ret)
     .skip))
  (.seq
   (.region true [⟨some 39, .load1 (.tmp 6), none, []⟩,
     ⟨some 40, .load1 (.tmp 7), none, []⟩,
     ⟨none, .store 1 (.tmp 6) (.tmp 39), none, [0]⟩,
     ⟨none, .store 1 (.tmp 7) (.tmp 40), none, [1, 2, 0]⟩,
     ⟨some 8, .mv (.const (.int .i64 0)), none, [3, 1, 2, 0]⟩] [39, 40])
  .ret)))))))
set_option maxRecDepth 100000 in
theorem krecord_Peak : IsCode Try.prog 20 41 crecord_Peak [.cell1 6, .cell1 7, .tmp 8] :=
  ⟨Try.f20, _, [38, 34, 26, 27, 25, 21, 0, 3, 1, 2, 8, 6, 7, 9, 11, 10], Try.func20, rfl, by decide, rfl, by kernel_rfl, by kernel_rfl⟩
/-- ref12_CopyLayout -/
def cref12_CopyLayout : ACode :=
  (.seq
   (.region false [⟨some 1, .box (.tmp 0), none, []⟩,
     ⟨some 2, .mem [(.val (.int .i64 0)), (.val (.int .i64 0)), (.val (.int .i64 0)), (.val (.int .i64 0)), (.val (.int .i64 0)), (.val (.slice none 0 0))], none, []⟩] [])
  (.seq
   (.region false [⟨some 4, .loadN 6 (.tmp 1), none, []⟩,
     ⟨some 3, .mem [(.val (.int .i64 0)), (.val (.int .i64 0)), (.val (.int .i64 0)), (.val (.int .i64 0)), (.val (.int .i64 0)), (.val (.slice none 0 0))], none, []⟩,
     ⟨none, .store 6 (.tmp 3) (.tmp 4), none, []⟩] [4])
  (.seq
   (.region false [⟨some 5, .buildSl 9 0 [] [], none, []⟩,
     ⟨some 6, .fad 5 (.tmp 1), none, []⟩,
     ⟨some 7, .load1 (.tmp 6), none, []⟩,
     ⟨some 8, .app 9 72 (.tmp 5) (.tmp 7), none, []⟩,
     ⟨some 9, .fad 5 (.tmp 3), none, []⟩,
     ⟨none, .store 1 (.tmp 9) (.tmp 8), none, []⟩] [5, 6, 7, 8, 9])
  (.seq
   (.region false [⟨some 10, .loadN 6 (.tmp 3), none, []⟩,
     ⟨none, .store 6 (.tmp 2) (.tmp 10), none, []⟩] [10])
  .ret))))
set_option maxRecDepth 100000 in
theorem kref12_CopyLayout : IsCode Try.prog 31 11 cref12_CopyLayout [.cellN 2 6] :=
  ⟨Try.f31, _, [0, 1, 3, 2], Try.func31, rfl, by decide, rfl, by kernel_rfl, by kernel_rfl⟩
/-- ref12_CopyFrames -/
def cref12_CopyFrames : ACode :=
  (.seq
   (.region false [⟨some 2, .mv (.const (.slice none 0 0)), none, []⟩] [])
  (.seq
   (.region false [⟨some 3, .mv (.const (.slice none 0 0)), none, []⟩] [])
  (.seq
   (.seq
    (.region false [⟨some 4, .mv (.const (.int .i64 0)), none, []⟩] [])
   (.block 0
     (.loop
       (.seq
        (.seq
         (.region false [⟨some 5, .mv (.tmp 4), none, []⟩,
           ⟨some 6, .mv (.tmp 0), none, []⟩,
           ⟨some 7, .len_ (.tmp 6), none, []⟩,
           ⟨some 8, .bin .lss (.tmp 5) (.tmp 7), none, []⟩] [5, 6, 7])
        (.cond (.tmp 8)
          .skip
          (.exit 0)))
       (.seq
        (.block 1
          (.region false [⟨some 11, .mv (.tmp 3), none, []⟩,
            ⟨some 12, .buildSl 1 0 [] [], none, []⟩,
            ⟨some 13, .mv (.tmp 0), none, []⟩,
            ⟨some 14, .mv (.tmp 4), none, []⟩,
            ⟨some 15, .iadS 1 (.tmp 13) (.tmp 14), none, []⟩,
            ⟨some 16, .load1 (.tmp 15), none, []⟩,
            ⟨some 17, .app 1 8 (.tmp 12) (.tmp 16), none, []⟩,
            ⟨some 18, .buildSl 1 1 [(.val (.slice none 0 0))] [(0, 1, (.tmp 17))], none, []⟩,
            ⟨some 19, .app 1 24 (.tmp 11) (.tmp 18), none, []⟩,
            ⟨some 3, .mv (.tmp 19), none, []⟩] [11, 12, 13, 14, 15, 16, 17, 18, 19]))
       (.region false [⟨some 9, .mv (.tmp 4), none, []⟩,
         ⟨some 10, .bin .add (.tmp 9) (.const (.int .i64 1)), none, []⟩,
         ⟨some 4, .mv (.tmp 10), none, []⟩] [9, 10]))))))
  (.seq
   (.region false [⟨some 20, .mv (.tmp 3), none, []⟩,
     ⟨some 2, .mv (.tmp 20), none, []⟩] [20])
  .ret))))
set_option maxRecDepth 100000 in
theorem kref12_CopyFrames : IsCode Try.prog 65 21 cref12_CopyFrames [.tmp 2] :=
  ⟨Try.f65, _, [8, 4, 0, 3, 2], Try.func65, rfl, by decide, rfl, by kernel_rfl, by kernel_rfl⟩
/-- law12_own -/
def claw12_own : ACode :=
  (.seq
   (.region false [⟨some 1, .box (.tmp 0), none, []⟩,
     ⟨some 2, .mem [(.val (.int .i64 0)), (.val (.int .i64 0)), (.val (.int .i64 0)), (.val (.int .i64 0)), (.val (.int .i64 0)), (.val (.slice none 0 0)), (.val (.slice none 0 0))], none, []⟩] [])
  (.seq
   (.region true [⟨some 3, .fad 0 (.tmp 1), none, []⟩,
     ⟨some 4, .loadN 6 (.tmp 3), none, [0]⟩,
     ⟨some 5, .call (.func 31) [(.tmp 4)], none, [1, 0]⟩,
     ⟨some 6, .fad 6 (.tmp 1), none, []⟩,
     ⟨some 7, .load1 (.tmp 6), none, [3]⟩,
     ⟨some 8, .call (.func 65) [(.tmp 7)], none, [4, 3, 2, 1, 0]⟩,
     ⟨some 9, .build [(.val (.int .i64 0)), (.val (.int .i64 0)), (.val (.int .i64 0)), (.val (.int .i64 0)), (.val (.int .i64 0)), (.val (.slice none 0 0)), (.val (.slice none 0 0))] [(0, 6, (.tmp 5)), (6, 1, (.tmp 8))], none, [2, 1, 0, 5, 4, 3]⟩,
     ⟨none, .store 7 (.tmp 2) (.tmp 9), none, [6, 2, 1, 0, 5, 4, 3]⟩] [3, 4, 5, 6, 7, 8, 9])
  .ret))
set_option maxRecDepth 100000 in
theorem klaw12_own : IsCode Try.prog 17 10 claw12_own [.cellN 2 7] :=
  ⟨Try.f17, _, [0, 1, 2], Try.func17, rfl, by decide, rfl, by kernel_rfl, by kernel_rfl⟩
/-- law12_Far -/
def claw12_Far : ACode :=
  (.seq
   (.region false [⟨some 1, .box (.tmp 0), none, []⟩,
     ⟨some 2, .mv (.const (.bool false)), none, []⟩] [])
  (.seq
   (.seq
    (.region false [⟨some 4, .fad 0 (.tmp 1), none, []⟩,
      ⟨some 5, .fad 5 (.tmp 4), none, []⟩,
      ⟨some 6, .load1 (.tmp 5), none, []⟩,
      ⟨some 7, .len_ (.tmp 6), none, []⟩,
      ⟨some 8, .bin .gtr (.tmp 7) (.const (.int .i64 20)), none, []⟩,
      ⟨some 9, .mv (.tmp 8), none, []⟩,
      ⟨some 10, .fad 6 (.tmp 1), (some (some 9, false)), []⟩,
      ⟨some 11, .load1 (.tmp 10), (some (some 9, false)), []⟩,
      ⟨some 12, .len_ (.tmp 11), (some (some 9, false)), []⟩,
      ⟨some 13, .bin .gtr (.tmp 12) (.const (.int .i64 220)), (some (some 9, false)), []⟩,
      ⟨some 14, .pick (.tmp 9) (.const (.bool true)) (.tmp 13), none, []⟩] [4, 5, 6, 7, 8, 9, 10, 11, 12, 13])
   (.cond (.tmp 14)
     (.seq
      (.region false [⟨some 2, .mv (.const (.bool true)), none, []⟩] [])
     .ret)
     .skip))
  (.seq
   (.seq
    (.region false [⟨some 3, .mv (.const (.int .i64 0)), none, []⟩] [])
   (.block 0
     (.loop
       (.seq
        (.seq
         (.region false [⟨some 15, .mv (.tmp 3), none, []⟩,
           ⟨some 16, .fad 6 (.tmp 1), none, []⟩,
           ⟨some 17, .load1 (.tmp 16), none, []⟩,
           ⟨some 18, .len_ (.tmp 17), none, []⟩,
           ⟨some 19, .bin .lss (.tmp 15) (.tmp 18), none, []⟩] [15, 16, 17, 18])
        (.cond (.tmp 19)
          .skip
          (.exit 0)))
       (.seq
        (.block 1
          (.seq
           (.region false [⟨some 22, .fad 6 (.tmp 1), none, []⟩,
             ⟨some 23, .load1 (.tmp 22), none, []⟩,
             ⟨some 24, .mv (.tmp 3), none, []⟩,
             ⟨some 25, .iadS 1 (.tmp 23) (.tmp 24), none, []⟩,
             ⟨some 26, .load1 (.tmp 25), none, []⟩,
             ⟨some 27, .len_ (.tmp 26), none, []⟩,
             ⟨some 28, .bin .gtr (.tmp 27) (.const (.int .i64 50)), none, []⟩] [22, 23, 24, 25, 26, 27])
          (.cond (.tmp 28)
            (.seq
             (.region false [⟨some 2, .mv (.const (.bool true)), none, []⟩] [])
            .ret)
            .skip)))
       (.region false [⟨some 20, .mv (.tmp 3), none, []⟩,
         ⟨some 21, .bin .add (.tmp 20) (.const (.int .i64 1)), none, []⟩,
         ⟨some 3, .mv (.tmp 21), none, []⟩] [20, 21]))))))
  (.seq
   (.region false [⟨some 2, .mv (.const (.bool false)), none, []⟩] [])
  .ret))))
set_option maxRecDepth 100000 in
theorem klaw12_Far : IsCode Try.prog 15 29 claw12_Far [.tmp 2] :=
  ⟨Try.f15, _, [28, 19, 14, 0, 1, 3, 2], Try.func15, rfl, by decide, rfl, by kernel_rfl, by kernel_rfl⟩
/-- law12_samePairs -/
def claw12_samePairs : ACode :=
  (.seq
   (.region false [⟨some 4, .mv (.const (.bool false)), none, []⟩] [])
  (.seq
   (.seq
    (.region false [⟨some 6, .mv (.tmp 0), none, []⟩,
      ⟨some 7, .len_ (.tmp 6), none, []⟩,
      ⟨some 8, .mv (.tmp 1), none, []⟩,
      ⟨some 9, .len_ (.tmp 8), none, []⟩,
      ⟨some 10, .bin .neq (.tmp 7) (.tmp 9), none, []⟩] [6, 7, 8, 9])
   (.cond (.tmp 10)
     (.seq
      (.region false [⟨some 4, .mv (.const (.bool false)), none, []⟩] [])
     .ret)
     .skip))
  (.seq
   (.seq
    (.region false [⟨some 5, .mv (.const (.int .i64 0)), none, []⟩] [])
   (.block 0
     (.loop
       (.seq
        (.seq
         (.region false [⟨some 11, .mv (.tmp 5), none, []⟩,
           ⟨some 12, .mv (.tmp 0), none, []⟩,
           ⟨some 13, .len_ (.tmp 12), none, []⟩,
           ⟨some 14, .bin .lss (.tmp 11) (.tmp 13), none, []⟩] [11, 12, 13])
        (.cond (.tmp 14)
          .skip
          (.exit 0)))
       (.seq
        (.block 1
          (.seq
           (.region true [⟨some 17, .mv (.tmp 0), none, []⟩,
             ⟨some 18, .mv (.tmp 5), none, []⟩,
             ⟨some 19, .iadS 2 (.tmp 17) (.tmp 18), none, [0, 1]⟩,
             ⟨some 20, .loadN 2 (.tmp 19), none, [2, 0, 1]⟩,
             ⟨some 21, .mv (.tmp 1), none, []⟩,
             ⟨some 22, .mv (.tmp 5), none, []⟩,
             ⟨some 23, .iadS 2 (.tmp 21) (.tmp 22), none, [4, 5]⟩,
             ⟨some 24, .loadN 2 (.tmp 23), none, [6, 4, 5]⟩,
             ⟨some 25, .eqa true [false, false] (.tmp 20) (.tmp 24), none, [3, 2, 0, 1, 7, 6, 4, 5]⟩] [17, 18, 19, 20, 21, 22, 23, 24])
          (.cond (.tmp 25)
            (.seq
             (.region false [⟨some 4, .mv (.const (.bool false)), none, []⟩] [])
            .ret)
            .skip)))
       (.region false [⟨some 15, .mv (.tmp 5), none, []⟩,
         ⟨some 16, .bin .add (.tmp 15) (.const (.int .i64 1)), none, []⟩,
         ⟨some 5, .mv (.tmp 16), none, []⟩] [15, 16]))))))
  (.seq
   (.region false [⟨some 4, .mv (.const (.bool true)), none, []⟩] [])
  .ret))))
set_option maxRecDepth 100000 in
theorem klaw12_samePairs : IsCode Try.prog 22 26 claw12_samePairs [.tmp 4] :=
  ⟨Try.f22, _, [25, 14, 10, 0, 1, 5, 4], Try.func22, rfl, by decide, rfl, by kernel_rfl, by kernel_rfl⟩
/-- law12_RecordReads -/
def claw12_RecordReads : ACode :=
  (.seq
   (.region false [⟨some 2, .box (.tmp 0), none, []⟩,
     ⟨some 4, .mv (.const (.bool false)), none, []⟩] [])
  (.seq
   (.seq
    (.region false [⟨some 18, .loadN 7 (.tmp 2), none, []⟩,
      ⟨some 19, .call (.func 15) [(.tmp 18)], none, []⟩] [18])
   (.cond (.tmp 19)
     (.seq
      (.region false [⟨some 20, .call (.func 16) [], none, []⟩,
        ⟨some 4, .mv (.tmp 20), none, []⟩] [20])
     .ret)
     .skip))
  (.seq
   (.region false [⟨some 21, .loadN 7 (.tmp 2), none, []⟩,
     ⟨some 22, .call (.func 17) [(.tmp 21)], none, []⟩,
     ⟨some 5, .mem [(.val (.int .i64 0)), (.val (.int .i64 0)), (.val (.int .i64 0)), (.val (.int .i64 0)), (.val (.int .i64 0)), (.val (.slice none 0 0)), (.val (.slice none 0 0))], none, []⟩,
     ⟨none, .store 7 (.tmp 5) (.tmp 22), none, []⟩] [21, 22])
  (.seq
   (.region false [⟨some 24, .fad 0 (.tmp 5), none, []⟩,
     ⟨some 25, .loadN 6 (.tmp 24), none, []⟩,
     ⟨some 26, .fad 6 (.tmp 5), none, []⟩,
     ⟨some 27, .load1 (.tmp 26), none, []⟩,
     ⟨some 28, .mv (.tmp 1), none, []⟩,
     ⟨some 29, .call (.func 18) [(.tmp 25), (.tmp 27), (.tmp 28)], none, []⟩,
     ⟨some 23, .mv (.tmp 29), none, []⟩,
     ⟨some 30, .ext (.tmp 23) 0, none, []⟩,
     ⟨some 31, .ext (.tmp 23) 1, none, []⟩,
     ⟨some 6, .mv (.tmp 30), none, []⟩,
     ⟨some 7, .mv (.tmp 31), none, []⟩] [24, 25, 26, 27, 28, 29, 23, 30, 31])
  (.seq
   (.region false [⟨some 33, .fad 0 (.tmp 2), none, []⟩,
     ⟨some 34, .loadN 6 (.tmp 33), none, []⟩,
     ⟨some 35, .fad 6 (.tmp 2), none, []⟩,
     ⟨some 36, .load1 (.tmp 35), none, []⟩,
     ⟨some 37, .mv (.tmp 1), none, []⟩,
     ⟨some 38, .call (.func 19) [(.tmp 34), (.tmp 36), (.tmp 37)], none, []⟩,
     ⟨some 32, .mv (.tmp 38), none, []⟩,
     ⟨some 39, .ext (.tmp 32) 0, none, []⟩,
     ⟨some 40, .ext (.tmp 32) 1, none, []⟩,
     ⟨some 8, .mv (.tmp 39), none, []⟩,
     ⟨some 9, .mv (.tmp 40), none, []⟩] [33, 34, 35, 36, 37, 38, 32, 39, 40])
  (.seq
   (.region false [⟨some 42, .fad 0 (.tmp 5), none, []⟩,
     ⟨some 43, .loadN 6 (.tmp 42), none, []⟩,
     ⟨some 44, .fad 6 (.tmp 5), none, []⟩,
     ⟨some 45, .load1 (.tmp 44), none, []⟩,
     ⟨some 46, .mv (.tmp 1), none, []⟩,
     ⟨some 47, .call (.func 20) [(.tmp 43), (.tmp 45), (.tmp 46)], none, []⟩,
     ⟨some 41, .mv (.tmp 47), none, []⟩,
     ⟨some 48, .ext (.tmp 41) 0, none, []⟩,
     ⟨some 49, .ext (.tmp 41) 1, none, []⟩,
     ⟨some 50, .ext (.tmp 41) 2, none, []⟩,
     ⟨some 10, .mv (.tmp 48), none, []⟩,
     ⟨some 11, .mv (.tmp 49), none, []⟩,
     ⟨some 12, .mv (.tmp 50), none, []⟩] [42, 43, 44, 45, 46, 47, 41, 48, 49, 50])
  (.seq
   (.region false [⟨some 52, .fad 0 (.tmp 2), none, []⟩,
     ⟨some 53, .loadN 6 (.tmp 52), none, []⟩,
     ⟨some 54, .fad 6 (.tmp 2), none, []⟩,
     ⟨some 55, .load1 (.tmp 54), none, []⟩,
     ⟨some 56, .mv (.tmp 1), none, []⟩,
     ⟨some 57, .call (.func 21) [(.tmp 53), (.tmp 55), (.tmp 56)], none, []⟩,
     ⟨some 51, .mv (.tmp 57), none, []⟩,
     ⟨some 58, .ext (.tmp 51) 0, none, []⟩,
     ⟨some 59, .ext (.tmp 51) 1, none, []⟩,
     ⟨some 60, .ext (.tmp 51) 2, none, []⟩,
     ⟨some 13, .mv (.tmp 58), none, []⟩,
     ⟨some 14, .mv (.tmp 59), none, []⟩,
     ⟨some 15, .mv (.tmp 60), none, []⟩] [52, 53, 54, 55, 56, 57, 51, 58, 59, 60])
  (.seq
   (.seq
    (.region false [⟨some 61, .mv (.tmp 6), none, []⟩,
      ⟨some 62, .mv (.tmp 8), none, []⟩,
      ⟨some 63, .call (.func 22) [(.tmp 61), (.tmp 62)], none, []⟩,
      ⟨some 64, .un .not (.tmp 63), none, []⟩,
      ⟨some 65, .mv (.tmp 64), none, []⟩,
      ⟨some 66, .mv (.tmp 7), (some (some 65, false)), []⟩,
      ⟨some 67, .mv (.tmp 9), (some (some 65, false)), []⟩,
      ⟨some 68, .bin .neq (.tmp 66) (.tmp 67), (some (some 65, false)), []⟩,
      ⟨some 69, .pick (.tmp 65) (.const (.bool true)) (.tmp 68), none, []⟩,
      ⟨some 70, .mv (.tmp 69), none, []⟩,
      ⟨some 71, .mv (.tmp 10), (some (some 70, false)), []⟩,
      ⟨some 72, .mv (.tmp 13), (some (some 70, false)), []⟩,
      ⟨some 73, .bin .neq (.tmp 71) (.tmp 72), (some (some 70, false)), []⟩,
      ⟨some 74, .pick (.tmp 70) (.const (.bool true)) (.tmp 73), none, []⟩,
      ⟨some 75, .mv (.tmp 74), none, []⟩,
      ⟨some 76, .mv (.tmp 11), (some (some 75, false)), []⟩,
      ⟨some 77, .mv (.tmp 14), (some (some 75, false)), []⟩,
      ⟨some 78, .bin .neq (.tmp 76) (.tmp 77), (some (some 75, false)), []⟩,
      ⟨some 79, .pick (.tmp 75) (.const (.bool true)) (.tmp 78), none, []⟩,
      ⟨some 80, .mv (.tmp 79), none, []⟩,
      ⟨some 81, .mv (.tmp 12), (some (some 80, false)), []⟩,
      ⟨some 82, .mv (.tmp 15), (some (some 80, false)), []⟩,
      ⟨some 83, .bin .neq (.tmp 81) (.tmp 82), (some (some 80, false)), []⟩,
      ⟨some 84, .pick (.tmp 80) (.const (.bool true)) (.tmp 83), none, []⟩] [61, 62, 63, 64, 65, 66, 67, 68, 69, 70, 71, 72, 73, 74, 75, 76, 77, 78, 79, 80, 81, 82, 83])
   (.cond (.tmp 84)
     (.seq
      (.region false [⟨some 4, .mv (.const (.bool false)), none, []⟩] [])
     .ret)
     .skip))
  (.seq
   (.seq
    (.region false [⟨some 85, .mv (.tmp 12), none, []⟩,
      ⟨some 86, .bin .neq (.tmp 85) (.const (.int .i64 0)), none, []⟩] [85])
   (.cond (.tmp 86)
     (.seq
      (.region false [⟨some 87, .call (.func 16) [], none, []⟩,
        ⟨some 4, .mv (.tmp 87), none, []⟩] [87])
     .ret)
     .skip))
  (.seq
   (.region false [⟨some 16, .mv (.const (.bool false)), none, []⟩] [])
  (.seq
   (.seq
    (.region false [⟨some 17, .mv (.const (.int .i64 0)), none, []⟩] [])
   (.block 0
     (.loop
       (.seq
        (.seq
         (.region false [⟨some 88, .mv (.tmp 17), none, []⟩,
           ⟨some 89, .mv (.tmp 6), none, []⟩,
           ⟨some 90, .len_ (.tmp 89), none, []⟩,
           ⟨some 91, .bin .lss (.tmp 88) (.tmp 90), none, []⟩] [88, 89, 90])
        (.cond (.tmp 91)
          .skip
          (.exit 0)))
       (.seq
        (.block 1
          (.seq
           (.region false [⟨some 94, .mv (.tmp 16), none, []⟩,
             ⟨some 95, .mv (.tmp 94), none, []⟩,
             ⟨some 96, .mv (.tmp 6), (some (some 95, false)), []⟩,
             ⟨some 97, .mv (.tmp 17), (some (some 95, false)), []⟩,
             ⟨some 98, .iadS 2 (.tmp 96) (.tmp 97), (some (some 95, false)), []⟩,
             ⟨some 99, .loadN 2 (.tmp 98), (some (some 95, false)), []⟩,
             ⟨some 100, .mv (.tmp 10), (some (some 95, false)), []⟩,
             ⟨some 101, .mv (.tmp 11), (some (some 95, false)), []⟩,
             ⟨some 102, .build [(.val (.int .i64 0)), (.val (.int .i64 0))] [(0, 1, (.tmp 100)), (1, 1, (.tmp 101))], (some (some 95, false)), []⟩,
             ⟨some 103, .eqa false [false, false] (.tmp 99) (.tmp 102), (some (some 95, false)), []⟩,
             ⟨some 104, .pick (.tmp 95) (.const (.bool true)) (.tmp 103), none, []⟩,
             ⟨some 16, .mv (.tmp 104), none, []⟩] [94, 95, 96, 97, 98, 99, 100, 101, 102, 103, 104])
          (.seq
           (.region false [⟨some 105, .mv (.tmp 6), none, []⟩,
             ⟨some 106, .mv (.tmp 17), none, []⟩,
             ⟨some 107, .iadS 2 (.tmp 105) (.tmp 106), none, []⟩,
             ⟨some 108, .iadA 2 1 (.tmp 107) (.const (.int .i64 1)), none, []⟩,
             ⟨some 109, .load1 (.tmp 108), none, []⟩,
             ⟨some 110, .mv (.tmp 11), none, []⟩,
             ⟨some 111, .bin .gtr (.tmp 109) (.tmp 110), none, []⟩] [105, 106, 107, 108, 109, 110])
          (.cond (.tmp 111)
            (.seq
             (.region false [⟨some 4, .mv (.const (.bool false)), none, []⟩] [])
            .ret)
            .skip))))
       (.region false [⟨some 92, .mv (.tmp 17), none, []⟩,
         ⟨some 93, .bin .add (.tmp 92) (.const (.int .i64 1)), none, []⟩,
         ⟨some 17, .mv (.tmp 93), none, []⟩] [92, 93]))))))
  (.seq
   (.region false [⟨some 112, .mv (.tmp 16), none, []⟩,
     ⟨some 113, .mv (.tmp 112), none, []⟩,
     ⟨some 114, .call (.func 16) [], (some (some 113, true)), []⟩,
     ⟨some 115, .pick (.tmp 113) (.tmp 114) (.const (.bool false)), none, []⟩,
     ⟨some 4, .mv (.tmp 115), none, []⟩] [112, 113, 114, 115])
  .ret))))))))))))
set_option maxRecDepth 100000 in
theorem klaw12_RecordReads : IsCode Try.prog 3 116 claw12_RecordReads [.tmp 4] :=
  ⟨Try.f3, _, [111, 91, 86, 84, 19, 0, 2, 5, 1, 6, 8, 7, 9, 10, 13, 11, 14, 12, 15, 17, 16, 4], Try.func3, rfl, by decide, rfl, by kernel_rfl, by kernel_rfl⟩
end Go.Proofs.Ytdcodicoclecnaa
/- record: Read, Peak (a reference to a yield, .yref, lies in memory). No conditions. -/
set_option linter.unusedSimpArgs false
set_option linter.unusedVariables false
namespace Go.Proofs.Ytdcodicoclecnaa
open Go.RowKit Lift

def pkS (l : Lay) (f : Fl) (frs : List (List Int)) : Nat → Int × Int
  | 0 => (-1, 0)
  | i + 1 => match smp l f (frm frs i) with
    | some v => if (pkS l f frs i).1 < 0 ∨ v > (pkS l f frs i).2 then ((i : Int), v) else pkS l f frs i
    | none => pkS l f frs i
theorem scV_low (n g v : Nat) (L : List (Int × Int)) (m : Nat) (hg : g < n) (hv : v < n) {h : Hp} (h1 : LowH n h) : LowH n ((g, [.vec v m 2]) :: (v, scells L) :: h) :=
  .cons hg (by intro d hd; simp at hd; subst hd; exact .vec _ _ _ hv) rfl (.cons hv (fun d hd => (scells_in L d hd).mono fun _ h => h.elim) (scells_noY _) h1)
theorem sc_snoc (L : List (Int × Int)) (x : Int × Int) : scells L ++ [.val (.int .i64 x.1), .val (.int .i64 x.2)] = scells (L ++ [x]) := by
  rw [← sps_flat, ← sps_flat]; simp [sps]
theorem sc_all (L : List (Int × Int)) : (scells L).take (L.length * 2) = scells L := List.take_of_length_le (by rw [scells_len]; omega)
theorem hasA_one (l : Lay) (x : Int) : hasA l [x] = wI x 0 ((l.fl.length : Int) - 1) := by simp [hasA]
theorem wfE_ok {l : Lay} {frs : List (List Int)} {x : Int} (h : wfE l frs [x] = 0) : LayOk l ∧ frs.length ≤ 200 ∧ hasA l [x] = true ∧ ∃ k : Nat, x = k ∧ k < l.fl.length := by
  unfold wfE at h
  rcases tpE_cases l frs with ⟨h0, h1, h2⟩ | ⟨h0, _⟩
  · rw [if_pos h0] at h
    cases hh : hasA l [x] with
    | false => rw [hh] at h; cases h
    | true =>
      refine ⟨h1, h2, rfl, x.toNat, ?_⟩
      rw [hasA_one] at hh
      have := wI_t hh
      omega
  · rw [if_neg h0] at h; exact absurd h h0
set_option maxRecDepth 100000 in
set_option maxHeartbeats 4000000 in
theorem read_ok (l : Lay) (frs : List (List Int)) (k : Nat) (hl : LayIn l) (h1 : LayOk l) (h2 : frs.length ≤ 200) (hf : FrIn frs) (hk : k < l.fl.length) : AC Try.prog 18 [layD l, .list (rows frs), dI k] [] [] (.tup [.list (sps (smps l (fAt l k) frs frs.length)), dI 0]) := by
  refine krecord_Read.ac (n0 := 0) (by simp) ⟨in_layD _ _, .list _, .val _, trivial⟩ trivial rfl ?_
  unfold crecord_Read layD layC
  have hh : hasA l [(k : Int)] = true := by rw [hasA_one]; exact wI_y (by omega) (by omega)
  have nt := withField_ok l frs [(k : Int)] hl h1 h2 hf (Nat.le_of_ble_eq_true rfl) hh
  have sa := samples_ac l frs k hk (by have := h1.nf; omega)
  have hfo := fAt_ok h1 hk
  generalize fAt l k = f at *
  refine aw_seq (aw_region ?_)
  simp (config := {maxSteps := 10000000}) (disch := first | exact okYes (by kernel_rfl) | omega) only [thenQ, List.map, dI, List.length, Nat.zero_add, Nat.reduceAdd, Nat.reduceMul, envOf, ARun_none, AOpRun, aexec, D.isBot, FSt.ev, St.F, ↓eget_h, Bool.false_eq_true, Option.isSome, hget_n, or_self, ↓reduceIte, D.cells, AGo_ok, St.app, putO, eput_c, Nat.reduceBEq, eput_n, cond_false, hups, hput_n, hget_c, hput_c, ARun_nil, dropE_c, inL_n, dropE_n]
  refine aw_wk (s' := ⟨[(1, .list (rows frs)), (2, dI k), (3, .ptr 0 0), (6, .ptr 8 0)], [(0, [dI l.words, dI l.s0, dI l.s1, dI l.s2, dI l.s3, .list (fls l.fl)]), (8, [.vec 24 0 2]), (24, scells [])], 40⟩) ?_ ?_
  · unfold dI
    refine wk_to [] [(0, 0), (8, 8), (24, 900)] (by kernel_rfl) (by kernel_rfl) (by kernel_rfl) (by kernel_rfl) (by kernel_rfl) ?_ ?_ <;> repeat' (first | exact trivial | exact vr_val _ | exact vr_list _ | exact vr_ptr _ _ _ rfl | exact vr_nilv _ _ _ rfl | refine And.intro ⟨_, rfl, .inl ⟨_, rfl, by decide, ?_⟩⟩ ?_ | refine And.intro ⟨_, rfl, .inr ⟨rfl, rfl, of_decide_eq_true (by kernel_rfl)⟩⟩ ?_ | apply And.intro)
  refine aw_seq (aw_region_cut [⟨some 12, .loadN 6 (.tmp 3), none, []⟩,
     ⟨some 13, .mv (.tmp 1), none, []⟩,
     ⟨some 14, .mv (.tmp 2), none, []⟩,
     ⟨some 15, .buildSl 1 1 [(.val (.int .i64 0))] [(0, 1, (.tmp 14))], none, []⟩]
     [⟨some 16, .call (.func 66) [(.tmp 12), (.tmp 13), (.tmp 15)], none, []⟩,
     ⟨some 11, .mv (.tmp 16), none, []⟩,
     ⟨some 17, .ext (.tmp 11) 0, none, []⟩,
     ⟨some 18, .ext (.tmp 11) 1, none, []⟩,
     ⟨some 8, .mv (.tmp 17), none, []⟩,
     ⟨some 7, .mv (.tmp 18), none, []⟩] ?_)
  simp (config := {maxSteps := 10000000}) (disch := first | exact okYes (by kernel_rfl) | omega) only [List.length, Nat.zero_add, Nat.reduceAdd, Nat.reduceMul, thenQ, ARun_none, AOpRun, FSt.ev, List.map, St.F, dI, aexec, eget_c, Nat.reduceBEq, ↓eget_h, cond_false, hget_c, beq_self_eq_true, hget_n, cond_true, Nat.reduceLeDiff, ↓reduceIte, List.drop, List.take, AGo_ok, St.app, putO, eput_c, eput_n, hups, Option.isSome, Bool.false_eq_true, Option.map, fillD, D.isBot, D.cells, ne_eq, not_true_eq_false, Nat.reduceGT, or_self, splice, List.nil_append, List.append_nil, hput_c, hput_n, ARun_nil]
  refine ⟨⟨[(2, dI k), (6, .ptr 8 0), (12, layD l), (13, .list (rows frs)), (15, .list (ints [(k : Int)]))], [(8, [.vec 24 0 2]), (24, scells [])], 96⟩, ?_, of_decide_eq_true (by kernel_rfl), ?_⟩
  · unfold layD layC dI
    refine wk_to [64] [(8, 8), (24, 24)] (by kernel_rfl) (by kernel_rfl) (by kernel_rfl) (by kernel_rfl) (by kernel_rfl) ?_ ?_ <;> repeat' (first | exact trivial | exact vr_val _ | exact vr_list _ | exact vr_vec _ _ _ _ rfl | exact vr_ptr _ _ _ rfl | apply vr_agg | refine vr_fl _ _ _ _ _ (by decide) rfl ?_ ?_ ?_ ?_ | refine And.intro ⟨_, rfl, .inl ⟨_, rfl, by decide, ?_⟩⟩ ?_ | apply And.intro)
    all_goals first | exact ints_one _ | exact ints_len _ | exact ints_flat _ | exact icells_in _ | exact icells_in [(k : Int)]
  simp (config := {maxSteps := 10000000}) (disch := first | exact okYes (by kernel_rfl) | omega) only [Nat.reduceSub, Nat.reduceAdd, eget_c, Nat.reduceBEq, ↓eget_h, cond_false]
  refine acallB nt (by repeat' (first | exact trivial | exact rfl | refine And.intro ?_ ?_)) (by kernel_rfl) (by kernel_rfl) (by kernel_rfl) ?_
  simp (config := {maxSteps := 10000000}) (disch := first | exact okYes (by kernel_rfl) | omega) only [Nat.reduceAdd, St.app, putO, dI, eput_c, Nat.reduceBEq, eput_n, cond_false, hups, hput_c, hput_n, List.map, List.append_nil, ARun_none, AOpRun, aexec, FSt.ev, St.F, eget_c, ↓eget_h, AGo_ok, opt1, Option.map, List.getElem?_cons_zero, List.getElem?_cons_succ, ARun_nil, dropE_c, inL_c, inL_n, beq_self_eq_true, cond_true, dropE_n]
  refine aw_seq (aw_seq (aw_region ?_))
  simp (config := {maxSteps := 10000000}) (disch := first | exact okYes (by kernel_rfl) | omega) only [thenQ, List.length, Nat.zero_add, Nat.reduceAdd, Nat.reduceMul, ARun_none, AOpRun, aexec, FSt.ev, St.F, eget_c, Nat.reduceBEq, ↓eget_h, cond_false, AGo_ok, St.app, putO, eput_c, eput_n, hups, List.map, isSh, Bool.false_eq_true, ↓reduceIte, Option.map, abin, bne_self_eq_false, ARun_nil, dropE_c, inL_c, inL_n, beq_self_eq_true, cond_true, dropE_n]
  refine aw_condF rfl (aw_skip ?_)
  refine aw_wk (s' := ⟨[(2, dI k), (6, .ptr 8 0), (8, .ptr 96 0)], [(96, tpC l frs), (8, [.vec 24 0 2]), (24, scells [])], 104⟩) ?_ ?_
  · unfold dI
    refine wk_to [] [(8, 8), (24, 24), (96, 96)] (by kernel_rfl) (by kernel_rfl) (by kernel_rfl) (by kernel_rfl) (by kernel_rfl) ?_ ?_ <;> repeat' (first | exact trivial | exact vr_val _ | exact vr_list _ | exact vr_vec _ _ _ _ rfl | exact vr_ptr _ _ _ rfl | refine And.intro ⟨_, rfl, .inl ⟨_, rfl, by decide, ?_⟩⟩ ?_ | apply And.intro)
    all_goals exact tpC_in _ _ _
  refine aw_seq (aw_seq (aw_region ?_))
  simp (config := {maxSteps := 10000000}) (disch := first | exact okYes (by kernel_rfl) | omega) only [thenQ, List.length, Nat.zero_add, Nat.reduceAdd, Nat.reduceMul, dI, ARun_none, AOpRun, aexec, FSt.ev, St.F, eget_c, Nat.reduceBEq, ↓eget_h, cond_false, AGo_ok, St.app, putO, eput_c, eput_n, hups, List.map]
  refine acallB sa (by repeat' (first | exact trivial | exact rfl | refine And.intro ?_ ?_)) (by kernel_rfl) (by kernel_rfl) (by kernel_rfl) ?_
  simp (config := {maxSteps := 10000000}) (disch := first | exact okYes (by kernel_rfl) | omega) only [Nat.reduceAdd, St.app, putO, eput_c, Nat.reduceBEq, eput_n, cond_false, hups, hput_c, hput_n, beq_self_eq_true, cond_true, List.map, List.append_nil, ARun_nil, dropE_c, inL_c, inL_n, dropE_n]
  refine aw_wk (s' := ⟨[(6, .ptr 8 0), (24, .fn 113 [] [.ptr 120 0, .ptr 121 0])], [(96, tpC l frs), (120, [.ptr 96 0]), (121, flC f), (8, [.vec 24 0 2]), (24, scells [])], 800⟩) ?_ ?_
  · refine wk_to [] [(8, 8), (24, 24), (96, 96), (120, 120), (121, 121)] (by kernel_rfl) (by kernel_rfl) (by kernel_rfl) (by kernel_rfl) (by kernel_rfl) ?_ ?_ <;> repeat' (first | exact trivial | exact vr_val _ | exact vr_list _ | exact vr_vec _ _ _ _ rfl | exact vr_ptr _ _ _ rfl | apply vr_fn | refine And.intro ⟨_, rfl, .inl ⟨_, rfl, by decide, ?_⟩⟩ ?_ | apply And.intro)
    all_goals first | exact tpC_in _ _ _ | exact flC_in _ _
  refine aw_block (aw_range [8, 96, 120, 121] [(6, .ptr 8 0)] [.bot, .bot, .bot, .bot, .bot, .bot, .ptr 8 0] kprecord_tape_samples_S1 rfl (by simp) ⟨.inl rfl, .inl rfl, .inl rfl, .inl rfl, .inl rfl, .inl rfl, .inr rfl, trivial⟩ rfl rfl (by simp) ⟨.inr ⟨rfl, .ptr _ _ (by simp)⟩, trivial⟩ (fun r hr => ?_))
  refine samples_hit hr rfl l frs h2 h1 f hfo hf [8, 96, 120, 121] (by decide) [.bot, .bot, .bot, .bot, .bot, .bot, .ptr 8 0] rfl (by intro d hd; simp at hd; rcases hd with rfl | rfl; exact .bot; exact .ptr _ _ (by simp)) (by simp) (by simp) (by simp) (fun i => [(8, [.vec 24 (smps l f frs i).length 2]), (24, scells (smps l f frs i))]) (fun i => scV_low 800 8 24 _ _ (by decide) (by decide) .nil) (fun i hi hs => ?_) (fun i v hi hs => ?_) ?_
  · have : smps l f frs (i + 1) = smps l f frs i := by rw [smps_succ, hs]; simp
    simp only [this]
  · have hgl := smps_len l f frs i
    have e : smps l f frs (i + 1) = smps l f frs i ++ [((i : Int), v)] := by rw [smps_succ, hs]
    rw [e]
    generalize smps l f frs i = L at *
    rw [← sc_snoc L ((i : Int), v)]
    have hic : (scells L).length = L.length * 2 := scells_len _
    have hit : (scells L).take (L.length * 2) = scells L := sc_all L
    have hcin : ∀ y ∈ scells L ++ [.val (.int .i64 (i : Int)), .val (.int .i64 v)], In (fun _ => False) y := by rw [sc_snoc L ((i : Int), v)]; exact scells_in _
    have hlen : (L ++ [((i : Int), v)]).length = L.length + 1 := by simp
    rw [hlen]
    unfold crecord_Read_B25 smH
    refine aw_block (aw_region ?_)
    simp (config := {maxSteps := 10000000}) (disch := first | exact okYes (by kernel_rfl) | omega) only [blockQ, List.length, Nat.zero_add, Nat.reduceAdd, Nat.reduceMul, true_and, bodyE, asgE, parE, envOf, dI, eput_c, Nat.reduceBEq, eput_n, cond_false, eget_c, ↓eget_h, ARun_none, AOpRun, aexec, Option.map, run1, FSt.ev, St.F, hget_c, ↓hget_h, List.getElem?_cons_zero, AGo_ok, St.app, putO, hups, List.map, fillD, D.isBot, Bool.false_eq_true, D.cells, ne_eq, not_true_eq_false, Nat.reduceGT, or_self, ↓reduceIte, splice, List.take, List.nil_append, List.drop, List.cons_append, List.append_nil, Option.isSome, hget_n, hput_c, hput_n, base, hic, Nat.le_refl, and_self, hit, elems, List.all, D.leaf, Bool.and_true, and_true, ups]
    refine ago_if (by omega) ?_
    simp (config := {maxSteps := 10000000}) (disch := first | exact okYes (by kernel_rfl) | omega) only [AGo_ok, Nat.reduceAdd, St.app, putO, eput_c, Nat.reduceBEq, eput_n, cond_false, hups, hput_c, hput_n, hdel_c, beq_self_eq_true, hdel_n, cond_true, List.map, ARun_none, AOpRun, aexec, FSt.ev, St.F, eget_c, ↓eget_h, hget_c, ↓hget_h, D.isBot, D.cells, List.length, Nat.zero_add, Nat.reduceLeDiff, List.all, D.leaf, Bool.and_true, and_self, ↓reduceIte, splice, List.take, List.nil_append, List.drop, List.append_nil, ARun_nil, dropE_c, inL_c, inL_n, dropE_n]
    try refine ⟨rfl, ?_⟩
    refine wk_to [] [(8, 8), (24, 1540), (96, 96), (120, 120), (121, 121), (800, 800), (808, 808), (1000, 1000)] (by kernel_rfl) (by kernel_rfl) (by kernel_rfl) (by kernel_rfl) (by kernel_rfl) ?_ ?_ <;> repeat' (first | exact trivial | exact vr_val _ | exact vr_list _ | exact vr_vec _ _ _ _ rfl | exact vr_ptr _ _ _ rfl | refine And.intro ⟨_, rfl, .inl ⟨_, rfl, by decide, ?_⟩⟩ ?_ | apply And.intro | exact vr_yrefs _ _ rfl | exact vrl_flat _ (by first | exact icells_in _ | exact rcells_in _ | exact scells_in _ | exact bcells_in _ | assumption))
    all_goals first | exact tpC_in _ _ _ | exact flC_in _ _ | assumption
  · have hgl := smps_len l f frs frs.length
    generalize smps l f frs frs.length = L at *
    unfold smH
    simp only [blockQ, thenQ]
    (have hg : (987654321 : Nat) - 987654321 = 0 := rfl; have hr := hg; repeat' (first | refine aw_seq ?_ | (refine aw_skip ?_; repeat' (first | with_reducible refine thenQ_n ?_ | with_reducible refine blockQ_n ?_ | with_reducible refine thenQ_e ?_ | with_reducible refine blockQ_t ?_ | with_reducible refine blockQ_f (by decide) ?_)) | (refine aw_exit ?_; repeat' (first | with_reducible refine thenQ_n ?_ | with_reducible refine blockQ_n ?_ | with_reducible refine thenQ_e ?_ | with_reducible refine blockQ_t ?_ | with_reducible refine blockQ_f (by decide) ?_)) | refine aw_ret ?_ | refine aw_block ?_ | refine aw_condT rfl ?_ | refine aw_condF rfl ?_ | ((first | refine aw_hide fun K hK => aw_region ?_ | refine ago_if (by omega) ?_ | skip); simp (config := {maxSteps := 10000000}) (disch := first | exact okYes (by kernel_rfl) | omega) only [List.length, Nat.zero_add, Nat.reduceAdd, Nat.reduceMul, ARun_none, AOpRun, aexec, Option.map, run1, FSt.ev, St.F, ↓eget_h, hget_c, Nat.reduceBEq, ↓hget_h, cond_false, List.getElem?_cons_zero, AGo_ok, St.app, putO, eput_c, eput_n, hups, List.map, D.isBot, eget_c, D.cells, Nat.reduceLeDiff, List.all, D.leaf, Bool.and_true, and_self, ↓reduceIte, splice, List.take, List.nil_append, List.drop, List.append_nil, hput_c, beq_self_eq_true, hput_n, cond_true, ARun_nil, dropE_c, inL_c, inL_n, dropE_n]) | (subst hK; repeat' (first | with_reducible refine thenQ_n ?_ | with_reducible refine blockQ_n ?_ | with_reducible refine thenQ_e ?_ | with_reducible refine blockQ_t ?_ | with_reducible refine blockQ_f (by decide) ?_))))
    refine end_to [24] [] (by first | exact .inl rfl | exact .inr rfl) rfl (by kernel_rfl) (by kernel_rfl) (by kernel_rfl) ?_ ?_ <;> repeat' (first | exact trivial | exact vr_val _ | apply vr_tup | refine vr_fl _ _ _ _ _ (by decide) rfl ?_ ?_ ?_ ?_ | apply And.intro)
    all_goals first | exact sps_two _ | exact sps_len _ | exact sps_flat _ | exact scells_in _
set_option maxRecDepth 100000 in
set_option maxHeartbeats 1000000 in
theorem read_err (l : Lay) (frs : List (List Int)) (x : Int) (hl : LayIn l) (he : wfE l frs [x] ≠ 0) (hf : FrIn frs) : AC Try.prog 18 [layD l, .list (rows frs), dI x] [] [] (.tup [.list (sps []), dI (wfE l frs [x])]) := by
  refine krecord_Read.ac (n0 := 0) (by simp) ⟨in_layD _ _, .list _, .val _, trivial⟩ trivial rfl ?_
  unfold crecord_Read layD layC
  have nt := withField_err l frs [x] hl hf (Nat.le_of_ble_eq_true rfl) he
  have h1 : (wfE l frs [x] != 0) = true := by simpa using he
  generalize wfE l frs [x] = E at *
  refine aw_seq (aw_region ?_)
  simp (config := {maxSteps := 10000000}) (disch := first | exact okYes (by kernel_rfl) | omega) only [thenQ, List.map, dI, List.length, Nat.zero_add, Nat.reduceAdd, Nat.reduceMul, envOf, ARun_none, AOpRun, aexec, D.isBot, FSt.ev, St.F, ↓eget_h, Bool.false_eq_true, Option.isSome, hget_n, or_self, ↓reduceIte, D.cells, AGo_ok, St.app, putO, eput_c, Nat.reduceBEq, eput_n, cond_false, hups, hput_n, hget_c, hput_c, ARun_nil, dropE_c, inL_n, dropE_n]
  refine aw_seq (aw_region ?_)
  simp (config := {maxSteps := 10000000}) (disch := first | exact okYes (by kernel_rfl) | omega) only [thenQ, List.length, Nat.zero_add, Nat.reduceAdd, Nat.reduceMul, ARun_none, AOpRun, aexec, FSt.ev, St.F, eget_c, Nat.reduceBEq, ↓eget_h, cond_false, hget_c, beq_self_eq_true, hget_n, cond_true, Nat.reduceLeDiff, ↓reduceIte, List.drop, List.take, AGo_ok, St.app, putO, eput_c, eput_n, hups, List.map, Option.isSome, Bool.false_eq_true, Option.map, fillD, D.isBot, D.cells, ne_eq, not_true_eq_false, Nat.reduceGT, or_self, splice, List.nil_append, List.append_nil, hput_c, hput_n]
  refine acall nt [48] ⟨.refl _, .refl _, vec_ints [x] (by simp) rfl rfl, trivial⟩ (.inr (.tup _ (by intro d hd; simp at hd; rcases hd with rfl | rfl <;> exact .val _))) (by intro g hg; simp at hg; subst hg; exact ⟨_, rfl⟩) (by kernel_rfl) ?_
  simp (config := {maxSteps := 10000000}) (disch := first | exact okYes (by kernel_rfl) | omega) only [Nat.reduceAdd, St.app, putO, dI, eput_c, Nat.reduceBEq, eput_n, cond_false, hups, ARun_none, AOpRun, aexec, FSt.ev, St.F, eget_c, ↓eget_h, AGo_ok, List.map, opt1, Option.map, List.getElem?_cons_zero, List.getElem?_cons_succ, beq_self_eq_true, cond_true, ARun_nil, dropE_c, inL_c, inL_n, dropE_n]
  (have hg : (987654321 : Nat) - 987654321 = 0 := rfl; have hr := hg; repeat' (first | refine aw_seq ?_ | (refine aw_skip ?_; repeat' (first | with_reducible refine thenQ_n ?_ | with_reducible refine blockQ_n ?_ | with_reducible refine thenQ_e ?_ | with_reducible refine blockQ_t ?_ | with_reducible refine blockQ_f (by decide) ?_)) | (refine aw_exit ?_; repeat' (first | with_reducible refine thenQ_n ?_ | with_reducible refine blockQ_n ?_ | with_reducible refine thenQ_e ?_ | with_reducible refine blockQ_t ?_ | with_reducible refine blockQ_f (by decide) ?_)) | refine aw_ret ?_ | refine aw_block ?_ | refine aw_condT rfl ?_ | refine aw_condF rfl ?_ | ((first | refine aw_hide fun K hK => aw_region ?_ | refine ago_if (by omega) ?_ | skip); simp (config := {maxSteps := 10000000}) (disch := first | exact okYes (by kernel_rfl) | omega) only [List.length, Nat.zero_add, Nat.reduceAdd, Nat.reduceMul, ARun_none, AOpRun, aexec, FSt.ev, St.F, eget_c, Nat.reduceBEq, ↓eget_h, cond_false, AGo_ok, St.app, putO, eput_c, eput_n, hups, List.map, isSh, Bool.false_eq_true, ↓reduceIte, Option.map, abin, h1, ARun_nil, dropE_c, inL_c, inL_n, beq_self_eq_true, cond_true, dropE_n, hget_c, ↓hget_h, D.isBot, D.cells, Nat.reduceLeDiff, List.all, D.leaf, Bool.and_true, and_self, splice, List.take, List.nil_append, List.drop, List.append_nil, hput_c, hput_n, thenQ]) | (subst hK; repeat' (first | with_reducible refine thenQ_n ?_ | with_reducible refine blockQ_n ?_ | with_reducible refine thenQ_e ?_ | with_reducible refine blockQ_t ?_ | with_reducible refine blockQ_f (by decide) ?_))))
  (refine end_to [] [] (by first | exact .inl rfl | exact .inr rfl) rfl (by kernel_rfl) (by kernel_rfl) (by kernel_rfl) ?_ ?_ <;> repeat' (first | exact trivial | exact vr_val _ | exact vr_nil | apply vr_tup | apply And.intro))
noncomputable def readR (l : Lay) (frs : List (List Int)) (x : Int) : List (Int × Int) := if wfE l frs [x] = 0 then smps l (fAt l x.toNat) frs frs.length else []
theorem read_ac (l : Lay) (frs : List (List Int)) (x : Int) (hl : LayIn l) (hf : FrIn frs) : AC Try.prog 18 [layD l, .list (rows frs), dI x] [] [] (.tup [.list (sps (readR l frs x)), dI (wfE l frs [x])]) := by
  unfold readR
  by_cases h : wfE l frs [x] = 0
  · obtain ⟨h1, h2, _, k, rfl, hk⟩ := wfE_ok h
    rw [if_pos h, h]; exact read_ok l frs k hl h1 h2 hf hk
  · rw [if_neg h]; exact read_err l frs x hl h hf
set_option maxRecDepth 100000 in
set_option maxHeartbeats 4000000 in
theorem peak_ok (l : Lay) (frs : List (List Int)) (k : Nat) (hl : LayIn l) (h1 : LayOk l) (h2 : frs.length ≤ 200) (hf : FrIn frs) (hk : k < l.fl.length) : AC Try.prog 20 [layD l, .list (rows frs), dI k] [] [] (if (pkS l (fAt l k) frs frs.length).1 < 0 then .tup [dI 0, dI 0, dI 3] else .tup [dI (pkS l (fAt l k) frs frs.length).1, dI (pkS l (fAt l k) frs frs.length).2, dI 0]) := by
  have hin : In (fun _ => False) (if (pkS l (fAt l k) frs frs.length).1 < 0 then D.tup [dI 0, dI 0, dI 3] else .tup [dI (pkS l (fAt l k) frs frs.length).1, dI (pkS l (fAt l k) frs frs.length).2, dI 0]) := by
    split <;> exact .tup _ (by intro d hd; simp at hd; rcases hd with rfl | rfl | rfl <;> exact .val _)
  refine krecord_Peak.ac (n0 := 0) (by simp) ⟨in_layD _ _, .list _, .val _, trivial⟩ trivial rfl ?_
  unfold crecord_Peak layD layC
  have hh : hasA l [(k : Int)] = true := by rw [hasA_one]; exact wI_y (by omega) (by omega)
  have nt := withField_ok l frs [(k : Int)] hl h1 h2 hf (Nat.le_of_ble_eq_true rfl) hh
  have sa := samples_ac l frs k hk (by have := h1.nf; omega)
  have hfo := fAt_ok h1 hk
  generalize fAt l k = f at *
  refine aw_seq (aw_region ?_)
  simp (config := {maxSteps := 10000000}) (disch := first | exact okYes (by kernel_rfl) | omega) only [thenQ, List.map, Int.reduceNeg, dI, List.length, Nat.zero_add, Nat.reduceAdd, Nat.reduceMul, envOf, ARun_none, AOpRun, aexec, D.isBot, FSt.ev, St.F, ↓eget_h, Bool.false_eq_true, Option.isSome, hget_n, or_self, ↓reduceIte, D.cells, AGo_ok, St.app, putO, eput_c, Nat.reduceBEq, eput_n, cond_false, hups, hput_n, hget_c, hput_c, ARun_nil, dropE_c, inL_n, dropE_n]
  refine aw_wk (s' := ⟨[(1, .list (rows frs)), (2, dI k), (3, .ptr 0 0), (6, .ptr 8 0), (7, .ptr 16 0)], [(0, [dI l.words, dI l.s0, dI l.s1, dI l.s2, dI l.s3, .list (fls l.fl)]), (8, [dI 0]), (16, [dI 0])], 40⟩) ?_ ?_
  · unfold dI
    refine wk_to [] [(0, 0), (8, 8), (16, 16)] (by kernel_rfl) (by kernel_rfl) (by kernel_rfl) (by kernel_rfl) (by kernel_rfl) ?_ ?_ <;> repeat' (first | exact trivial | exact vr_val _ | exact vr_list _ | exact vr_ptr _ _ _ rfl | refine And.intro ⟨_, rfl, .inl ⟨_, rfl, by decide, ?_⟩⟩ ?_ | apply And.intro)
  refine aw_seq (aw_region_cut [⟨some 13, .loadN 6 (.tmp 3), none, []⟩,
     ⟨some 14, .mv (.tmp 1), none, []⟩,
     ⟨some 15, .mv (.tmp 2), none, []⟩,
     ⟨some 16, .buildSl 1 1 [(.val (.int .i64 0))] [(0, 1, (.tmp 15))], none, []⟩]
     [⟨some 17, .call (.func 66) [(.tmp 13), (.tmp 14), (.tmp 16)], none, []⟩,
     ⟨some 12, .mv (.tmp 17), none, []⟩,
     ⟨some 18, .ext (.tmp 12) 0, none, []⟩,
     ⟨some 19, .ext (.tmp 12) 1, none, []⟩,
     ⟨some 9, .mv (.tmp 18), none, []⟩,
     ⟨some 8, .mv (.tmp 19), none, []⟩] ?_)
  simp (config := {maxSteps := 10000000}) (disch := first | exact okYes (by kernel_rfl) | omega) only [List.length, Nat.zero_add, Nat.reduceAdd, Nat.reduceMul, thenQ, Int.reduceNeg, ARun_none, AOpRun, FSt.ev, List.map, St.F, dI, aexec, eget_c, Nat.reduceBEq, ↓eget_h, cond_false, hget_c, beq_self_eq_true, hget_n, cond_true, Nat.reduceLeDiff, ↓reduceIte, List.drop, List.take, AGo_ok, St.app, putO, eput_c, eput_n, hups, Option.isSome, Bool.false_eq_true, Option.map, fillD, D.isBot, D.cells, ne_eq, not_true_eq_false, Nat.reduceGT, or_self, splice, List.nil_append, List.append_nil, hput_c, hput_n, ARun_nil]
  refine ⟨⟨[(2, dI k), (6, .ptr 8 0), (7, .ptr 16 0), (13, layD l), (14, .list (rows frs)), (16, .list (ints [(k : Int)]))], [(8, [dI 0]), (16, [dI 0])], 96⟩, ?_, of_decide_eq_true (by kernel_rfl), ?_⟩
  · unfold layD layC dI
    refine wk_to [64] [(8, 8), (16, 16)] (by kernel_rfl) (by kernel_rfl) (by kernel_rfl) (by kernel_rfl) (by kernel_rfl) ?_ ?_ <;> repeat' (first | exact trivial | exact vr_val _ | exact vr_list _ | exact vr_ptr _ _ _ rfl | apply vr_agg | refine vr_fl _ _ _ _ _ (by decide) rfl ?_ ?_ ?_ ?_ | refine And.intro ⟨_, rfl, .inl ⟨_, rfl, by decide, ?_⟩⟩ ?_ | apply And.intro)
    all_goals first | exact ints_one _ | exact ints_len _ | exact ints_flat _ | exact icells_in _ | exact icells_in [(k : Int)]
  simp (config := {maxSteps := 10000000}) (disch := first | exact okYes (by kernel_rfl) | omega) only [Nat.reduceSub, Int.reduceNeg, Nat.reduceAdd, eget_c, Nat.reduceBEq, ↓eget_h, cond_false]
  refine acallB nt (by repeat' (first | exact trivial | exact rfl | refine And.intro ?_ ?_)) (by kernel_rfl) (by kernel_rfl) (by kernel_rfl) ?_
  simp (config := {maxSteps := 10000000}) (disch := first | exact okYes (by kernel_rfl) | omega) only [Int.reduceNeg, Nat.reduceAdd, St.app, putO, dI, eput_c, Nat.reduceBEq, eput_n, cond_false, hups, hput_c, hput_n, List.map, List.append_nil, ARun_none, AOpRun, aexec, FSt.ev, St.F, eget_c, ↓eget_h, AGo_ok, opt1, Option.map, List.getElem?_cons_zero, List.getElem?_cons_succ, ARun_nil, dropE_c, inL_c, inL_n, beq_self_eq_true, cond_true, dropE_n]
  refine aw_seq (aw_seq (aw_region ?_))
  simp (config := {maxSteps := 10000000}) (disch := first | exact okYes (by kernel_rfl) | omega) only [thenQ, Int.reduceNeg, List.length, Nat.zero_add, Nat.reduceAdd, Nat.reduceMul, ARun_none, AOpRun, aexec, FSt.ev, St.F, eget_c, Nat.reduceBEq, ↓eget_h, cond_false, AGo_ok, St.app, putO, eput_c, eput_n, hups, List.map, isSh, Bool.false_eq_true, ↓reduceIte, Option.map, abin, bne_self_eq_false, ARun_nil, dropE_c, inL_c, inL_n, beq_self_eq_true, cond_true, dropE_n]
  refine aw_condF rfl (aw_skip ?_)
  refine aw_seq (aw_region ?_)
  simp (config := {maxSteps := 10000000}) (disch := first | exact okYes (by kernel_rfl) | omega) only [thenQ, List.length, Nat.zero_add, Nat.reduceMul, Nat.reduceAdd, Int.reduceNeg, ARun_none, AOpRun, aexec, FSt.ev, St.F, eget_c, Nat.reduceBEq, ↓eget_h, cond_false, hget_c, beq_self_eq_true, hget_n, cond_true, D.isBot, D.cells, Nat.reduceLeDiff, List.all, D.leaf, Bool.and_true, and_self, ↓reduceIte, splice, List.take, List.nil_append, List.drop, List.append_nil, AGo_ok, St.app, putO, hups, hput_c, hput_n, List.map, ARun_nil, dropE_c, inL_n, dropE_n]
  refine aw_wk (s' := ⟨[(2, dI k), (6, .ptr 8 0), (7, .ptr 16 0), (9, .ptr 96 0)], [(96, tpC l frs), (8, [dI (-1)]), (16, [dI 0])], 104⟩) ?_ ?_
  · unfold dI
    refine wk_to [] [(8, 8), (16, 16), (96, 96)] (by kernel_rfl) (by kernel_rfl) (by kernel_rfl) (by kernel_rfl) (by kernel_rfl) ?_ ?_ <;> repeat' (first | exact trivial | exact vr_val _ | exact vr_list _ | exact vr_ptr _ _ _ rfl | refine And.intro ⟨_, rfl, .inl ⟨_, rfl, by decide, ?_⟩⟩ ?_ | apply And.intro)
    all_goals exact tpC_in _ _ _
  refine aw_seq (aw_seq (aw_region ?_))
  simp (config := {maxSteps := 10000000}) (disch := first | exact okYes (by kernel_rfl) | omega) only [thenQ, List.length, Nat.zero_add, Nat.reduceAdd, Nat.reduceMul, dI, Int.reduceNeg, ARun_none, AOpRun, aexec, FSt.ev, St.F, eget_c, Nat.reduceBEq, ↓eget_h, cond_false, AGo_ok, St.app, putO, eput_c, eput_n, hups, List.map]
  refine acallB sa (by repeat' (first | exact trivial | exact rfl | refine And.intro ?_ ?_)) (by kernel_rfl) (by kernel_rfl) (by kernel_rfl) ?_
  simp (config := {maxSteps := 10000000}) (disch := first | exact okYes (by kernel_rfl) | omega) only [Nat.reduceAdd, St.app, putO, eput_c, Nat.reduceBEq, eput_n, cond_false, hups, Int.reduceNeg, hput_c, hput_n, beq_self_eq_true, cond_true, List.map, List.append_nil, ARun_nil, dropE_c, inL_c, inL_n, dropE_n]
  refine aw_wk (s' := ⟨[(6, .ptr 8 0), (7, .ptr 16 0), (25, .fn 113 [] [.ptr 120 0, .ptr 121 0])], [(96, tpC l frs), (120, [.ptr 96 0]), (121, flC f), (8, [dI (-1)]), (16, [dI 0])], 800⟩) ?_ ?_
  · unfold dI
    refine wk_to [] [(8, 8), (16, 16), (96, 96), (120, 120), (121, 121)] (by kernel_rfl) (by kernel_rfl) (by kernel_rfl) (by kernel_rfl) (by kernel_rfl) ?_ ?_ <;> repeat' (first | exact trivial | exact vr_val _ | exact vr_list _ | exact vr_ptr _ _ _ rfl | apply vr_fn | refine And.intro ⟨_, rfl, .inl ⟨_, rfl, by decide, ?_⟩⟩ ?_ | apply And.intro)
    all_goals first | exact tpC_in _ _ _ | exact flC_in _ _
  refine aw_block (aw_range [8, 16, 96, 120, 121] [(6, .ptr 8 0), (7, .ptr 16 0)] [.bot, .bot, .bot, .bot, .bot, .bot, .ptr 8 0, .ptr 16 0] kprecord_tape_samples_S1 rfl (by simp) ⟨.inl rfl, .inl rfl, .inl rfl, .inl rfl, .inl rfl, .inl rfl, .inr rfl, .inr rfl, trivial⟩ rfl rfl (by simp) ⟨.inr ⟨rfl, .ptr _ _ (by simp)⟩, .inr ⟨rfl, .ptr _ _ (by simp)⟩, trivial⟩ (fun r hr => ?_))
  refine samples_hit hr rfl l frs h2 h1 f hfo hf [8, 16, 96, 120, 121] (by decide) [.bot, .bot, .bot, .bot, .bot, .bot, .ptr 8 0, .ptr 16 0] rfl (by intro d hd; simp at hd; rcases hd with rfl | rfl | rfl; exact .bot; exact .ptr _ _ (by simp); exact .ptr _ _ (by simp)) (by simp) (by simp) (by simp) (fun i => [(8, [dI (pkS l f frs i).1]), (16, [dI (pkS l f frs i).2])])
    (fun i => .cons (by decide) (by intro d hd; simp at hd; subst hd; exact .val _) rfl (.cons (by decide) (by intro d hd; simp at hd; subst hd; exact .val _) rfl .nil)) (fun i hi hs => ?_) (fun i v hi hs => ?_) ?_
  · have : pkS l f frs (i + 1) = pkS l f frs i := by simp only [pkS, hs]
    simp only [this]
  · have e : pkS l f frs (i + 1) = if (pkS l f frs i).1 < 0 ∨ v > (pkS l f frs i).2 then ((i : Int), v) else pkS l f frs i := by simp only [pkS, hs]
    rw [e]
    generalize pkS l f frs i = p at *
    obtain ⟨a, b⟩ := p
    simp only
    unfold crecord_Peak_B26 smH
    refine aw_block (aw_seq (aw_region ?_))
    cases q1 : decide (a < 0) with
    | true =>
      rw [if_pos (.inl (of_decide_eq_true q1))]
      simp (config := {maxSteps := 10000000}) (disch := first | exact okYes (by kernel_rfl) | omega) only [thenQ, dI, List.length, Nat.zero_add, Nat.reduceAdd, Nat.reduceMul, bodyE, asgE, parE, envOf, eput_c, Nat.reduceBEq, eput_n, cond_false, eget_c, ↓eget_h, ARun_none, AOpRun, aexec, Option.map, run1, FSt.ev, St.F, hget_c, ↓hget_h, List.getElem?_cons_zero, AGo_ok, St.app, putO, hups, List.map, isSh, Bool.false_eq_true, ↓reduceIte, abin, q1, ARun_some, AG_tf, ARun_nil, dropE_c, inL_c, inL_n, beq_self_eq_true, cond_true, dropE_n]
      refine aw_condT rfl (aw_region ?_)
      simp (config := {maxSteps := 10000000}) (disch := first | exact okYes (by kernel_rfl) | omega) only [blockQ, List.length, Nat.zero_add, Nat.reduceAdd, Nat.reduceMul, true_and, ARun_none, AOpRun, aexec, FSt.ev, St.F, eget_c, Nat.reduceBEq, ↓eget_h, cond_false, AGo_ok, St.app, putO, eput_c, eput_n, hups, List.map, hget_c, ↓hget_h, D.isBot, D.cells, Nat.reduceLeDiff, List.all, D.leaf, Bool.and_true, and_self, ↓reduceIte, splice, List.take, List.nil_append, List.drop, List.append_nil, hput_c, beq_self_eq_true, hput_n, cond_true, ARun_nil, dropE_c, inL_c, inL_n, dropE_n]
      try refine ⟨rfl, ?_⟩
      refine wk_to [] [(8, 8), (16, 16), (96, 96), (120, 120), (121, 121), (800, 800), (808, 808), (1000, 1000)] (by kernel_rfl) (by kernel_rfl) (by kernel_rfl) (by kernel_rfl) (by kernel_rfl) ?_ ?_ <;> repeat' (first | exact trivial | exact vr_val _ | exact vr_list _ | exact vr_ptr _ _ _ rfl | refine And.intro ⟨_, rfl, .inl ⟨_, rfl, by decide, ?_⟩⟩ ?_ | apply And.intro | exact vr_yrefs _ _ rfl)
      all_goals first | exact tpC_in _ _ _ | exact flC_in _ _
    | false =>
      have n1 := of_decide_eq_false q1
      cases q2 : decide (v > b) with
      | true =>
        rw [if_pos (.inr (of_decide_eq_true q2))]
        simp (config := {maxSteps := 10000000}) (disch := first | exact okYes (by kernel_rfl) | omega) only [thenQ, dI, List.length, Nat.zero_add, Nat.reduceAdd, Nat.reduceMul, bodyE, asgE, parE, envOf, eput_c, Nat.reduceBEq, eput_n, cond_false, eget_c, ↓eget_h, ARun_none, AOpRun, aexec, Option.map, run1, FSt.ev, St.F, hget_c, ↓hget_h, List.getElem?_cons_zero, AGo_ok, St.app, putO, hups, List.map, isSh, Bool.false_eq_true, ↓reduceIte, abin, q1, ARun_some, AG_ff, q2, ARun_nil, dropE_c, inL_c, inL_n, beq_self_eq_true, cond_true, dropE_n]
        refine aw_condT rfl (aw_region ?_)
        simp (config := {maxSteps := 10000000}) (disch := first | exact okYes (by kernel_rfl) | omega) only [blockQ, List.length, Nat.zero_add, Nat.reduceAdd, Nat.reduceMul, true_and, ARun_none, AOpRun, aexec, FSt.ev, St.F, eget_c, Nat.reduceBEq, ↓eget_h, cond_false, AGo_ok, St.app, putO, eput_c, eput_n, hups, List.map, hget_c, ↓hget_h, D.isBot, D.cells, Nat.reduceLeDiff, List.all, D.leaf, Bool.and_true, and_self, ↓reduceIte, splice, List.take, List.nil_append, List.drop, List.append_nil, hput_c, beq_self_eq_true, hput_n, cond_true, ARun_nil, dropE_c, inL_c, inL_n, dropE_n]
        try refine ⟨rfl, ?_⟩
        refine wk_to [] [(8, 8), (16, 16), (96, 96), (120, 120), (121, 121), (800, 800), (808, 808), (1000, 1000)] (by kernel_rfl) (by kernel_rfl) (by kernel_rfl) (by kernel_rfl) (by kernel_rfl) ?_ ?_ <;> repeat' (first | exact trivial | exact vr_val _ | exact vr_list _ | exact vr_ptr _ _ _ rfl | refine And.intro ⟨_, rfl, .inl ⟨_, rfl, by decide, ?_⟩⟩ ?_ | apply And.intro | exact vr_yrefs _ _ rfl)
        all_goals first | exact tpC_in _ _ _ | exact flC_in _ _
      | false =>
        have n2 := of_decide_eq_false q2
        rw [if_neg (by rintro (h | h); exact n1 h; exact n2 h)]
        simp (config := {maxSteps := 10000000}) (disch := first | exact okYes (by kernel_rfl) | omega) only [thenQ, dI, List.length, Nat.zero_add, Nat.reduceAdd, Nat.reduceMul, bodyE, asgE, parE, envOf, eput_c, Nat.reduceBEq, eput_n, cond_false, eget_c, ↓eget_h, ARun_none, AOpRun, aexec, Option.map, run1, FSt.ev, St.F, hget_c, ↓hget_h, List.getElem?_cons_zero, AGo_ok, St.app, putO, hups, List.map, isSh, Bool.false_eq_true, ↓reduceIte, abin, q1, ARun_some, AG_ff, q2, ARun_nil, dropE_c, inL_c, inL_n, beq_self_eq_true, cond_true, dropE_n]
        refine aw_condF rfl (aw_skip ?_)
        try refine ⟨rfl, ?_⟩
        refine wk_to [] [(8, 8), (16, 16), (96, 96), (120, 120), (121, 121), (800, 800), (808, 808), (1000, 1000)] (by kernel_rfl) (by kernel_rfl) (by kernel_rfl) (by kernel_rfl) (by kernel_rfl) ?_ ?_ <;> repeat' (first | exact trivial | exact vr_val _ | exact vr_list _ | exact vr_ptr _ _ _ rfl | refine And.intro ⟨_, rfl, .inl ⟨_, rfl, by decide, ?_⟩⟩ ?_ | apply And.intro | exact vr_yrefs _ _ rfl)
        all_goals first | exact tpC_in _ _ _ | exact flC_in _ _
  · generalize pkS l f frs frs.length = p at *
    obtain ⟨a, b⟩ := p
    unfold smH
    simp only [blockQ, thenQ]
    cases q1 : decide (a < 0) with
    | true =>
      rw [if_pos (of_decide_eq_true q1)]
      (have hg : (987654321 : Nat) - 987654321 = 0 := rfl; have hr := hg; repeat' (first | refine aw_seq ?_ | (refine aw_skip ?_; repeat' (first | with_reducible refine thenQ_n ?_ | with_reducible refine blockQ_n ?_ | with_reducible refine thenQ_e ?_ | with_reducible refine blockQ_t ?_ | with_reducible refine blockQ_f (by decide) ?_)) | (refine aw_exit ?_; repeat' (first | with_reducible refine thenQ_n ?_ | with_reducible refine blockQ_n ?_ | with_reducible refine thenQ_e ?_ | with_reducible refine blockQ_t ?_ | with_reducible refine blockQ_f (by decide) ?_)) | refine aw_ret ?_ | refine aw_block ?_ | refine aw_condT rfl ?_ | refine aw_condF rfl ?_ | ((first | refine aw_hide fun K hK => aw_region ?_ | refine ago_if (by omega) ?_ | skip); simp (config := {maxSteps := 10000000}) (disch := first | exact okYes (by kernel_rfl) | omega) only [List.length, Nat.zero_add, Nat.reduceAdd, Nat.reduceMul, dI, ARun_none, AOpRun, aexec, Option.map, run1, FSt.ev, St.F, ↓eget_h, hget_c, Nat.reduceBEq, ↓hget_h, cond_false, List.getElem?_cons_zero, AGo_ok, St.app, putO, eput_c, eput_n, hups, List.map, eget_c, isSh, Bool.false_eq_true, ↓reduceIte, abin, q1, ARun_nil, dropE_c, inL_c, inL_n, beq_self_eq_true, cond_true, dropE_n, D.isBot, D.cells, Nat.reduceLeDiff, List.all, D.leaf, Bool.and_true, and_self, splice, List.take, List.nil_append, List.drop, List.append_nil, hput_c, hput_n, thenQ]) | (subst hK; repeat' (first | with_reducible refine thenQ_n ?_ | with_reducible refine blockQ_n ?_ | with_reducible refine thenQ_e ?_ | with_reducible refine blockQ_t ?_ | with_reducible refine blockQ_f (by decide) ?_))))
      (refine end_to [] [] (by first | exact .inl rfl | exact .inr rfl) rfl (by kernel_rfl) (by kernel_rfl) (by kernel_rfl) ?_ ?_ <;> repeat' (first | exact trivial | exact vr_val _ | apply vr_tup | apply And.intro))
    | false =>
      rw [if_neg (of_decide_eq_false q1)]
      (have hg : (987654321 : Nat) - 987654321 = 0 := rfl; have hr := hg; repeat' (first | refine aw_seq ?_ | (refine aw_skip ?_; repeat' (first | with_reducible refine thenQ_n ?_ | with_reducible refine blockQ_n ?_ | with_reducible refine thenQ_e ?_ | with_reducible refine blockQ_t ?_ | with_reducible refine blockQ_f (by decide) ?_)) | (refine aw_exit ?_; repeat' (first | with_reducible refine thenQ_n ?_ | with_reducible refine blockQ_n ?_ | with_reducible refine thenQ_e ?_ | with_reducible refine blockQ_t ?_ | with_reducible refine blockQ_f (by decide) ?_)) | refine aw_ret ?_ | refine aw_block ?_ | refine aw_condT rfl ?_ | refine aw_condF rfl ?_ | ((first | refine aw_hide fun K hK => aw_region ?_ | refine ago_if (by omega) ?_ | skip); simp (config := {maxSteps := 10000000}) (disch := first | exact okYes (by kernel_rfl) | omega) only [List.length, Nat.zero_add, Nat.reduceAdd, Nat.reduceMul, dI, ARun_none, AOpRun, aexec, Option.map, run1, FSt.ev, St.F, ↓eget_h, hget_c, Nat.reduceBEq, ↓hget_h, cond_false, List.getElem?_cons_zero, AGo_ok, St.app, putO, eput_c, eput_n, hups, List.map, eget_c, isSh, Bool.false_eq_true, ↓reduceIte, abin, q1, ARun_nil, dropE_c, inL_c, inL_n, beq_self_eq_true, cond_true, dropE_n, D.isBot, D.cells, Nat.reduceLeDiff, List.all, D.leaf, Bool.and_true, and_self, splice, List.take, List.nil_append, List.drop, List.append_nil, hput_c, hput_n]) | (subst hK; repeat' (first | with_reducible refine thenQ_n ?_ | with_reducible refine blockQ_n ?_ | with_reducible refine thenQ_e ?_ | with_reducible refine blockQ_t ?_ | with_reducible refine blockQ_f (by decide) ?_))))
      (refine end_to [] [] (by first | exact .inl rfl | exact .inr rfl) rfl (by kernel_rfl) (by kernel_rfl) (by kernel_rfl) ?_ ?_ <;> repeat' (first | exact trivial | exact vr_val _ | apply vr_tup | apply And.intro))
set_option maxRecDepth 100000 in
set_option maxHeartbeats 1000000 in
theorem peak_err (l : Lay) (frs : List (List Int)) (x : Int) (hl : LayIn l) (he : wfE l frs [x] ≠ 0) (hf : FrIn frs) : AC Try.prog 20 [layD l, .list (rows frs), dI x] [] [] (.tup [dI 0, dI 0, dI (wfE l frs [x])]) := by
  refine krecord_Peak.ac (n0 := 0) (by simp) ⟨in_layD _ _, .list _, .val _, trivial⟩ trivial rfl ?_
  unfold crecord_Peak layD layC
  have nt := withField_err l frs [x] hl hf (Nat.le_of_ble_eq_true rfl) he
  have h1 : (wfE l frs [x] != 0) = true := by simpa using he
  generalize wfE l frs [x] = E at *
  refine aw_seq (aw_region ?_)
  simp (config := {maxSteps := 10000000}) (disch := first | exact okYes (by kernel_rfl) | omega) only [thenQ, List.map, Int.reduceNeg, dI, List.length, Nat.zero_add, Nat.reduceAdd, Nat.reduceMul, envOf, ARun_none, AOpRun, aexec, D.isBot, FSt.ev, St.F, ↓eget_h, Bool.false_eq_true, Option.isSome, hget_n, or_self, ↓reduceIte, D.cells, AGo_ok, St.app, putO, eput_c, Nat.reduceBEq, eput_n, cond_false, hups, hput_n, hget_c, hput_c, ARun_nil, dropE_c, inL_n, dropE_n]
  refine aw_seq (aw_region ?_)
  simp (config := {maxSteps := 10000000}) (disch := first | exact okYes (by kernel_rfl) | omega) only [thenQ, Int.reduceNeg, List.length, Nat.zero_add, Nat.reduceAdd, Nat.reduceMul, ARun_none, AOpRun, aexec, FSt.ev, St.F, eget_c, Nat.reduceBEq, ↓eget_h, cond_false, hget_c, beq_self_eq_true, hget_n, cond_true, Nat.reduceLeDiff, ↓reduceIte, List.drop, List.take, AGo_ok, St.app, putO, eput_c, eput_n, hups, List.map, Option.isSome, Bool.false_eq_true, Option.map, fillD, D.isBot, D.cells, ne_eq, not_true_eq_false, Nat.reduceGT, or_self, splice, List.nil_append, List.append_nil, hput_c, hput_n]
  refine acall nt [56] ⟨.refl _, .refl _, vec_ints [x] (by simp) rfl rfl, trivial⟩ (.inr (.tup _ (by intro d hd; simp at hd; rcases hd with rfl | rfl <;> exact .val _))) (by intro g hg; simp at hg; subst hg; exact ⟨_, rfl⟩) (by kernel_rfl) ?_
  simp (config := {maxSteps := 10000000}) (disch := first | exact okYes (by kernel_rfl) | omega) only [Int.reduceNeg, Nat.reduceAdd, St.app, putO, dI, eput_c, Nat.reduceBEq, eput_n, cond_false, hups, ARun_none, AOpRun, aexec, FSt.ev, St.F, eget_c, ↓eget_h, AGo_ok, List.map, opt1, Option.map, List.getElem?_cons_zero, List.getElem?_cons_succ, beq_self_eq_true, cond_true, ARun_nil, dropE_c, inL_c, inL_n, dropE_n]
  (have hg : (987654321 : Nat) - 987654321 = 0 := rfl; have hr := hg; repeat' (first | refine aw_seq ?_ | (refine aw_skip ?_; repeat' (first | with_reducible refine thenQ_n ?_ | with_reducible refine blockQ_n ?_ | with_reducible refine thenQ_e ?_ | with_reducible refine blockQ_t ?_ | with_reducible refine blockQ_f (by decide) ?_)) | (refine aw_exit ?_; repeat' (first | with_reducible refine thenQ_n ?_ | with_reducible refine blockQ_n ?_ | with_reducible refine thenQ_e ?_ | with_reducible refine blockQ_t ?_ | with_reducible refine blockQ_f (by decide) ?_)) | refine aw_ret ?_ | refine aw_block ?_ | refine aw_condT rfl ?_ | refine aw_condF rfl ?_ | ((first | refine aw_hide fun K hK => aw_region ?_ | refine ago_if (by omega) ?_ | skip); simp (config := {maxSteps := 10000000}) (disch := first | exact okYes (by kernel_rfl) | omega) only [List.length, Nat.zero_add, Nat.reduceAdd, Nat.reduceMul, ARun_none, AOpRun, aexec, FSt.ev, St.F, eget_c, Nat.reduceBEq, ↓eget_h, cond_false, AGo_ok, St.app, putO, eput_c, eput_n, hups, List.map, isSh, Bool.false_eq_true, ↓reduceIte, Option.map, abin, h1, ARun_nil, dropE_c, inL_c, inL_n, beq_self_eq_true, cond_true, dropE_n, hget_c, ↓hget_h, D.isBot, D.cells, Nat.reduceLeDiff, List.all, D.leaf, Bool.and_true, and_self, splice, List.take, List.nil_append, List.drop, List.append_nil, hput_c, hput_n, thenQ]) | (subst hK; repeat' (first | with_reducible refine thenQ_n ?_ | with_reducible refine blockQ_n ?_ | with_reducible refine thenQ_e ?_ | with_reducible refine blockQ_t ?_ | with_reducible refine blockQ_f (by decide) ?_))))
  (refine end_to [] [] (by first | exact .inl rfl | exact .inr rfl) rfl (by kernel_rfl) (by kernel_rfl) (by kernel_rfl) ?_ ?_ <;> repeat' (first | exact trivial | exact vr_val _ | apply vr_tup | apply And.intro))
noncomputable def peakR (l : Lay) (frs : List (List Int)) (x : Int) : Int × Int × Int := if wfE l frs [x] = 0 then (if (pkS l (fAt l x.toNat) frs frs.length).1 < 0 then (0, 0, 3) else ((pkS l (fAt l x.toNat) frs frs.length).1, (pkS l (fAt l x.toNat) frs frs.length).2, 0)) else (0, 0, wfE l frs [x])
theorem peak_ac (l : Lay) (frs : List (List Int)) (x : Int) (hl : LayIn l) (hf : FrIn frs) : AC Try.prog 20 [layD l, .list (rows frs), dI x] [] [] (.tup [dI (peakR l frs x).1, dI (peakR l frs x).2.1, dI (peakR l frs x).2.2]) := by
  unfold peakR
  by_cases h : wfE l frs [x] = 0
  · obtain ⟨h1, h2, _, k, rfl, hk⟩ := wfE_ok h
    have := peak_ok l frs k hl h1 h2 hf hk
    rw [if_pos h, Int.toNat_natCast]
    by_cases hp : (pkS l (fAt l k) frs frs.length).1 < 0
    · rw [if_pos hp] at this ⊢; exact this
    · rw [if_neg hp] at this ⊢; exact this
  · rw [if_neg h]; exact peak_err l frs x hl h hf
end Go.Proofs.Ytdcodicoclecnaa
/- The document of record: Good, samples, Read, Peak. No conditions. -/
set_option linter.unusedSimpArgs false
set_option linter.unusedVariables false
namespace Go.Proofs.Ytdcodicoclecnaa
open Go Go.RowKit Lift

theorem uw_in {x : Int} (h1 : 0 ≤ x) (h2 : x < 18446744073709551616) : IntKind.u64.wrap x = x := by
  have h3 : x % 18446744073709551616 = x := Int.emod_eq_of_lt h1 h2
  unfold IntKind.wrap
  show (if (false && _) = true then _ else x % (2 ^ 64 : Int)) = x
  rw [Bool.false_and, if_neg (by simp)]
  exact h3
set_option maxHeartbeats 2000000 in
theorem checkF_ac (l : Lay) (frs : List (List Int)) (hl : LayIn l) (hf : FrIn frs) : AC Try.prog 68 [layD l, .list (rows frs)] [] [] (dI (tpE l frs)) := by
  refine kref12_CheckFrames.ac (n0 := 0) (by simp) ⟨in_layD _ _, .list _, trivial⟩ trivial rfl ?_
  unfold cref12_CheckFrames
  have ck := rcheck_ac l hl
  have hmax : maxLen = 9223372036854775807 := rfl
  have hn := hf.n
  unfold layD layC at *
  by_cases h1 : LayOk l
  · rw [layE_ok h1] at ck
    cases q : decide ((frs.length : Int) > 200) with
    | true =>
      rw [tpE_many h1 (by have := of_decide_eq_true q; omega)]
      (have hg : (987654321 : Nat) - 987654321 = 0 := rfl; have hr := hg; repeat' (first | refine aw_seq ?_ | (refine aw_skip ?_; try simp only [thenQ, blockQ, if_true, if_false, Nat.reduceEqDiff, reduceCtorEq]) | (refine aw_exit ?_; try simp only [thenQ, blockQ, if_true, if_false, Nat.reduceEqDiff, reduceCtorEq]) | refine aw_ret ?_ | refine aw_block ?_ | refine aw_condT rfl ?_ | refine aw_condF rfl ?_ | ((first | refine aw_region ?_ | refine acall0 (ck) ?_ | refine ago_if (by omega) ?_ | skip); simp (config := {maxSteps := 10000000}) (disch := first | exact okYes (by kernel_rfl) | omega) only [thenQ, List.map, dI, List.length, Nat.zero_add, Nat.reduceAdd, Nat.reduceMul, envOf, ARun_none, AOpRun, aexec, D.isBot, FSt.ev, St.F, ↓eget_h, Bool.false_eq_true, Option.isSome, hget_n, or_self, ↓reduceIte, D.cells, AGo_ok, St.app, putO, eput_c, Nat.reduceBEq, eput_n, cond_false, hups, hput_n, ARun_nil, dropE_c, inL_n, dropE_n, eget_c, hget_c, beq_self_eq_true, cond_true, Nat.reduceLeDiff, List.drop, List.take, inL_c, isSh, Option.map, abin, bne_self_eq_false, rows_len, q])))
      all_goals (refine end_to [] [] (by first | exact .inl rfl | exact .inr rfl) rfl (by kernel_rfl) (by kernel_rfl) (by kernel_rfl) ?_ ?_ <;> repeat' (first | exact trivial | exact vr_val _))
    | false =>
      rw [tpE_ok h1 (by have := of_decide_eq_false q; omega)]
      (have hg : (987654321 : Nat) - 987654321 = 0 := rfl; have hr := hg; repeat' (first | refine aw_seq ?_ | (refine aw_skip ?_; try simp only [thenQ, blockQ, if_true, if_false, Nat.reduceEqDiff, reduceCtorEq]) | (refine aw_exit ?_; try simp only [thenQ, blockQ, if_true, if_false, Nat.reduceEqDiff, reduceCtorEq]) | refine aw_ret ?_ | refine aw_block ?_ | refine aw_condT rfl ?_ | refine aw_condF rfl ?_ | ((first | refine aw_region ?_ | refine acall0 (ck) ?_ | refine ago_if (by omega) ?_ | skip); simp (config := {maxSteps := 10000000}) (disch := first | exact okYes (by kernel_rfl) | omega) only [thenQ, List.map, dI, List.length, Nat.zero_add, Nat.reduceAdd, Nat.reduceMul, envOf, ARun_none, AOpRun, aexec, D.isBot, FSt.ev, St.F, ↓eget_h, Bool.false_eq_true, Option.isSome, hget_n, or_self, ↓reduceIte, D.cells, AGo_ok, St.app, putO, eput_c, Nat.reduceBEq, eput_n, cond_false, hups, hput_n, ARun_nil, dropE_c, inL_n, dropE_n, eget_c, hget_c, beq_self_eq_true, cond_true, Nat.reduceLeDiff, List.drop, List.take, inL_c, isSh, Option.map, abin, bne_self_eq_false, rows_len, q])))
      all_goals (refine end_to [] [] (by first | exact .inl rfl | exact .inr rfl) rfl (by kernel_rfl) (by kernel_rfl) (by kernel_rfl) ?_ ?_ <;> repeat' (first | exact trivial | exact vr_val _))
  · rw [layE_no h1] at ck
    rw [tpE_no h1]
    (have hg : (987654321 : Nat) - 987654321 = 0 := rfl; have hr := hg; repeat' (first | refine aw_seq ?_ | (refine aw_skip ?_; try simp only [thenQ, blockQ, if_true, if_false, Nat.reduceEqDiff, reduceCtorEq]) | (refine aw_exit ?_; try simp only [thenQ, blockQ, if_true, if_false, Nat.reduceEqDiff, reduceCtorEq]) | refine aw_ret ?_ | refine aw_block ?_ | refine aw_condT rfl ?_ | refine aw_condF rfl ?_ | ((first | refine aw_region ?_ | refine acall0 (ck) ?_ | refine ago_if (by omega) ?_ | skip); simp (config := {maxSteps := 10000000}) (disch := first | exact okYes (by kernel_rfl) | omega) only [thenQ, List.map, dI, List.length, Nat.zero_add, Nat.reduceAdd, Nat.reduceMul, envOf, ARun_none, AOpRun, aexec, D.isBot, FSt.ev, St.F, ↓eget_h, Bool.false_eq_true, Option.isSome, hget_n, or_self, ↓reduceIte, D.cells, AGo_ok, St.app, putO, eput_c, Nat.reduceBEq, eput_n, cond_false, hups, hput_n, ARun_nil, dropE_c, inL_n, dropE_n, eget_c, hget_c, beq_self_eq_true, cond_true, Nat.reduceLeDiff, List.drop, List.take, inL_c, isSh, Option.map, abin, Int.reduceBNe])))
    all_goals (refine end_to [] [] (by first | exact .inl rfl | exact .inr rfl) rfl (by kernel_rfl) (by kernel_rfl) (by kernel_rfl) ?_ ?_ <;> repeat' (first | exact trivial | exact vr_val _))
end Go.Proofs.Ytdcodicoclecnaa
/- The document of record: samples, Read, Peak. No conditions. -/
set_option linter.unusedSimpArgs false
set_option linter.unusedVariables false
namespace Go.Proofs.Ytdcodicoclecnaa
open Go Go.RowKit Lift

set_option maxHeartbeats 2000000 in
theorem rraw_ac {w : Int} {f : Fl} (h : FOk w f) (fr : List Int) (x : Nat) (hw : f.word.toNat < fr.length) (hx : fr[f.word.toNat]?.getD 0 = (x : Int)) (hlt : x < 4096) : AC Try.prog 127 [flD f, .list (ints fr)] [] [] (dI (rawI f x)) := by
  refine kref12_raw.ac (n0 := 0) (by simp) ⟨in_flD _ _, .list _, trivial⟩ trivial rfl ?_
  unfold cref12_raw flD flC
  obtain ⟨h1, h2, h3, h4, h5, h6, h7⟩ := size_pow h
  have b1 := h.b1
  have s1 := h.s1
  have bs := h.bs
  have w1 := h.w1
  have e0 : IntKind.i64.bits = 64 := rfl
  have e1 : min f.bit.toNat IntKind.i64.bits = f.bit.toNat := by rw [e0]; omega
  have e2 : min (f.size - 1).toNat IntKind.i64.bits = f.size.toNat - 1 := by rw [e0]; omega
  have e3 : min f.size.toNat IntKind.i64.bits = f.size.toNat := by rw [e0]; omega
  have c1 : IntKind.u64.wrap f.bit = f.bit := uw_in (by omega) (by omega)
  have c2 : IntKind.u64.wrap f.size = f.size := uw_in (by omega) (by omega)
  have c3 : IntKind.u64.wrap (f.size - 1) = f.size - 1 := uw_in (by omega) (by omega)
  have p0 : 0 ≤ f.size := by omega
  have p1 : 0 ≤ f.size - 1 := by omega
  have p2 : 0 ≤ f.word := by omega
  have p3 : f.word < (fr.length : Int) := by omega
  have g1 := ints_gd fr f.word.toNat hw
  rw [hx] at g1
  have a0 : Int.fdiv (x : Int) (2 ^ f.bit.toNat) = ((x / 2 ^ f.bit.toNat : Nat) : Int) := fdiv_pow _ _
  have pp : ((2 ^ f.size.toNat : Nat) : Int) = (2 : Int) ^ f.size.toNat := by simp
  have a1 : IntKind.i64.wrap (1 * 2 ^ f.size.toNat) = ((2 ^ f.size.toNat : Nat) : Int) := by rw [Int.one_mul, ← pp]; exact wrap_in (by omega) (by omega)
  have a2 : ((2 ^ f.size.toNat : Nat) : Int) - 1 = ((2 ^ f.size.toNat - 1 : Nat) : Int) := by omega
  have a3 : IntKind.i64.wrap ((2 ^ f.size.toNat - 1 : Nat) : Int) = ((2 ^ f.size.toNat - 1 : Nat) : Int) := wrap_in (by omega) (by omega)
  have hd : x / 2 ^ f.bit.toNat ≤ x := Nat.div_le_self _ _
  have a4 : IntKind.i64.wrap ((BitVec.ofInt IntKind.i64.bits ((x / 2 ^ f.bit.toNat : Nat) : Int) &&& BitVec.ofInt IntKind.i64.bits ((2 ^ f.size.toNat - 1 : Nat) : Int)).toNat) = ((rawU f x : Nat) : Int) := by
    rw [and_nat _ _ (by omega) (by omega), and_low]; rfl
  have hr := rawU_lt h x
  have pq : ((2 ^ (f.size.toNat - 1) : Nat) : Int) = (2 : Int) ^ (f.size.toNat - 1) := by simp
  have a5 : IntKind.i64.wrap (1 * 2 ^ (f.size.toNat - 1)) = ((2 ^ (f.size.toNat - 1) : Nat) : Int) := by rw [Int.one_mul, ← pq]; exact wrap_in (by omega) (by omega)
  unfold rawI
  cases hs : f.sgn with
  | false =>
    rw [if_neg (by rintro ⟨h, _⟩; cases h)]
    (have hg : (987654321 : Nat) - 987654321 = 0 := rfl; have hr := hg; repeat' (first | refine aw_seq ?_ | (refine aw_skip ?_; try simp only [thenQ, blockQ, if_true, if_false, Nat.reduceEqDiff, reduceCtorEq]) | (refine aw_exit ?_; try simp only [thenQ, blockQ, if_true, if_false, Nat.reduceEqDiff, reduceCtorEq]) | refine aw_ret ?_ | refine aw_block ?_ | refine aw_condT rfl ?_ | refine aw_condF rfl ?_ | ((first | refine aw_region ?_ | refine ago_if (by omega) ?_ | skip); simp (config := {maxSteps := 10000000}) (disch := first | exact okYes (by kernel_rfl) | omega) only [thenQ, List.map, dI, List.length, Nat.zero_add, Nat.reduceAdd, Nat.reduceMul, envOf, dB, ARun_none, AOpRun, aexec, D.isBot, FSt.ev, St.F, ↓eget_h, Bool.false_eq_true, Option.isSome, hget_n, or_self, ↓reduceIte, D.cells, AGo_ok, St.app, putO, eput_c, Nat.reduceBEq, eput_n, cond_false, hups, hput_n, ARun_nil, dropE_c, inL_n, dropE_n, eget_c, Option.map, run1, hget_c, beq_self_eq_true, cond_true, List.getElem?_cons_zero, p2, ints_all, and_self, opt1, g1, List.getElem?_cons_succ, c1, isSh, ash, b1, e1, a0, c2, p0, e3, a1, abin, a2, a3, a4, inL_c, ARun_some, AG_ft])))
    all_goals (refine end_to [] [] (by first | exact .inl rfl | exact .inr rfl) rfl (by kernel_rfl) (by kernel_rfl) (by kernel_rfl) ?_ ?_ <;> repeat' (first | exact trivial | exact vr_val _))
  | true =>
    by_cases hh : 2 ^ (f.size.toNat - 1) ≤ rawU f x
    · have q : decide (((rawU f x : Nat) : Int) ≥ ((2 ^ (f.size.toNat - 1) : Nat) : Int)) = true := decide_eq_true (by omega)
      rw [if_pos ⟨rfl, hh⟩]
      have a6 : IntKind.i64.wrap (((rawU f x : Nat) : Int) - ((2 ^ f.size.toNat : Nat) : Int)) = ((rawU f x : Nat) : Int) - 2 ^ f.size.toNat := by rw [← pp]; exact wrap_in (by omega) (by omega)
      (have hg : (987654321 : Nat) - 987654321 = 0 := rfl; have hr := hg; repeat' (first | refine aw_seq ?_ | (refine aw_skip ?_; try simp only [thenQ, blockQ, if_true, if_false, Nat.reduceEqDiff, reduceCtorEq]) | (refine aw_exit ?_; try simp only [thenQ, blockQ, if_true, if_false, Nat.reduceEqDiff, reduceCtorEq]) | refine aw_ret ?_ | refine aw_block ?_ | refine aw_condT rfl ?_ | refine aw_condF rfl ?_ | ((first | refine aw_region ?_ | refine ago_if (by omega) ?_ | skip); simp (config := {maxSteps := 10000000}) (disch := first | exact okYes (by kernel_rfl) | omega) only [thenQ, List.map, dI, List.length, Nat.zero_add, Nat.reduceAdd, Nat.reduceMul, envOf, dB, ARun_none, AOpRun, aexec, D.isBot, FSt.ev, St.F, ↓eget_h, Bool.false_eq_true, Option.isSome, hget_n, or_self, ↓reduceIte, D.cells, AGo_ok, St.app, putO, eput_c, Nat.reduceBEq, eput_n, cond_false, hups, hput_n, ARun_nil, dropE_c, inL_n, dropE_n, eget_c, Option.map, run1, hget_c, beq_self_eq_true, cond_true, List.getElem?_cons_zero, p2, ints_all, and_self, opt1, g1, List.getElem?_cons_succ, c1, isSh, ash, b1, e1, a0, c2, p0, e3, a1, abin, a2, a3, a4, inL_c, ARun_some, AG_tt, fits, c3, p1, e2, a5, q, a6])))
      all_goals (refine end_to [] [] (by first | exact .inl rfl | exact .inr rfl) rfl (by kernel_rfl) (by kernel_rfl) (by kernel_rfl) ?_ ?_ <;> repeat' (first | exact trivial | exact vr_val _))
    · have q : decide (((rawU f x : Nat) : Int) ≥ ((2 ^ (f.size.toNat - 1) : Nat) : Int)) = false := decide_eq_false (by omega)
      rw [if_neg (by rintro ⟨_, h⟩; exact hh h)]
      (have hg : (987654321 : Nat) - 987654321 = 0 := rfl; have hr := hg; repeat' (first | refine aw_seq ?_ | (refine aw_skip ?_; try simp only [thenQ, blockQ, if_true, if_false, Nat.reduceEqDiff, reduceCtorEq]) | (refine aw_exit ?_; try simp only [thenQ, blockQ, if_true, if_false, Nat.reduceEqDiff, reduceCtorEq]) | refine aw_ret ?_ | refine aw_block ?_ | refine aw_condT rfl ?_ | refine aw_condF rfl ?_ | ((first | refine aw_region ?_ | refine ago_if (by omega) ?_ | skip); simp (config := {maxSteps := 10000000}) (disch := first | exact okYes (by kernel_rfl) | omega) only [thenQ, List.map, dI, List.length, Nat.zero_add, Nat.reduceAdd, Nat.reduceMul, envOf, dB, ARun_none, AOpRun, aexec, D.isBot, FSt.ev, St.F, ↓eget_h, Bool.false_eq_true, Option.isSome, hget_n, or_self, ↓reduceIte, D.cells, AGo_ok, St.app, putO, eput_c, Nat.reduceBEq, eput_n, cond_false, hups, hput_n, ARun_nil, dropE_c, inL_n, dropE_n, eget_c, Option.map, run1, hget_c, beq_self_eq_true, cond_true, List.getElem?_cons_zero, p2, ints_all, and_self, opt1, g1, List.getElem?_cons_succ, c1, isSh, ash, b1, e1, a0, c2, p0, e3, a1, abin, a2, a3, a4, inL_c, ARun_some, AG_tt, fits, c3, p1, e2, a5, q])))
      all_goals (refine end_to [] [] (by first | exact .inl rfl | exact .inr rfl) rfl (by kernel_rfl) (by kernel_rfl) (by kernel_rfl) ?_ ?_ <;> repeat' (first | exact trivial | exact vr_val _))
/-- the parts of a sample -/
theorem smp_parts {l : Lay} {f : Fl} {fr : List Int} (hf : FOk l.words f) (hs : 0 ≤ subF l fr) : ∃ x : Nat, f.word.toNat < fr.length ∧ fr[f.word.toNat]?.getD 0 = (x : Int) ∧ x < 4096 ∧ (inSub f (subF l fr) → smp l f fr = some (valI f (rawI f x))) := by
  obtain ⟨hfl, hfa⟩ := subF_ok hs
  have w1 := hf.w1
  have w2 := hf.w2
  have hwl : f.word.toNat < fr.length := by omega
  have h4 : wOk (fr[f.word.toNat]?.getD 0) = true := by
    rw [List.getElem?_eq_getElem hwl]
    exact List.all_eq_true.1 hfa _ (List.getElem_mem hwl)
  have h5 : 0 ≤ fr[f.word.toNat]?.getD 0 ∧ fr[f.word.toNat]?.getD 0 ≤ 4095 := by unfold wOk at h4; simpa using h4
  exact ⟨(fr[f.word.toNat]?.getD 0).toNat, hwl, (Int.toNat_of_nonneg h5.1).symm, by omega, fun h => if_pos ⟨hs, h⟩⟩
set_option maxRecDepth 100000 in
set_option maxHeartbeats 4000000 in
theorem rsample_ac (l : Lay) (f : Fl) (fr : List Int) (hw : 2 ≤ l.words) (hf : FOk l.words f) (hl : fr.length ≤ maxLen) : AC Try.prog 96 [layD l, flD f, .list (ints fr)] [] [] (.tup [dI ((smp l f fr).getD 0), dB (smp l f fr).isSome]) := by
  refine kref12_sample.ac (n0 := 0) (by simp) ⟨in_layD _ _, in_flD _ _, .list _, trivial⟩ trivial rfl ?_
  unfold cref12_sample
  have sf := subf_ac l fr hw hl
  have ev : f.every ≠ 0 := by rcases hf.ev with h | h | h <;> omega
  have sb := subF_bd l fr
  by_cases hs : 0 ≤ subF l fr
  case neg =>
    have q : decide (subF l fr < 0) = true := decide_eq_true (by omega)
    rw [show smp l f fr = none from if_neg fun h => hs h.1]
    unfold layD layC flD flC at *
    (have hg : (987654321 : Nat) - 987654321 = 0 := rfl; have hr := hg; repeat' (first | refine aw_seq ?_ | (refine aw_skip ?_; try simp only [thenQ, blockQ, if_true, if_false, Nat.reduceEqDiff, reduceCtorEq]) | (refine aw_exit ?_; try simp only [thenQ, blockQ, if_true, if_false, Nat.reduceEqDiff, reduceCtorEq]) | refine aw_ret ?_ | refine aw_block ?_ | refine aw_condT rfl ?_ | refine aw_condF rfl ?_ | ((first | refine aw_region ?_ | refine acall0 (sf) ?_ | refine ago_if (by omega) ?_ | skip); simp (config := {maxSteps := 10000000}) (disch := first | exact okYes (by kernel_rfl) | omega) only [thenQ, List.map, dI, dB, Option.isSome, List.length, Nat.zero_add, Nat.reduceAdd, Nat.reduceMul, envOf, ARun_none, AOpRun, aexec, D.isBot, FSt.ev, St.F, ↓eget_h, Bool.false_eq_true, hget_n, or_self, ↓reduceIte, D.cells, AGo_ok, St.app, putO, eput_c, Nat.reduceBEq, eput_n, cond_false, hups, hput_n, eget_c, hget_c, hput_c, ARun_nil, dropE_c, inL_n, dropE_n, beq_self_eq_true, cond_true, Nat.reduceLeDiff, List.drop, List.take, inL_c, isSh, Option.map, abin, q, ARun_some, AG_tf])))
    all_goals (refine end_to [] [] (by first | exact .inl rfl | exact .inr rfl) rfl (by kernel_rfl) (by kernel_rfl) (by kernel_rfl) ?_ ?_ <;> repeat' (first | exact trivial | exact vr_val _ | apply vr_tup | apply And.intro))
  obtain ⟨x, x1, x2, x3, x4⟩ := smp_parts hf hs
  have q : decide (subF l fr < 0) = false := decide_eq_false (by omega)
  by_cases hin : inSub f (subF l fr)
  case neg =>
    have q2 : ((subF l fr).tmod f.every != f.phase) = true := by simp only [bne_iff_ne, ne_eq]; exact hin
    rw [show smp l f fr = none from if_neg fun h => hin h.2]
    unfold layD layC flD flC at *
    (have hg : (987654321 : Nat) - 987654321 = 0 := rfl; have hr := hg; repeat' (first | refine aw_seq ?_ | (refine aw_skip ?_; try simp only [thenQ, blockQ, if_true, if_false, Nat.reduceEqDiff, reduceCtorEq]) | (refine aw_exit ?_; try simp only [thenQ, blockQ, if_true, if_false, Nat.reduceEqDiff, reduceCtorEq]) | refine aw_ret ?_ | refine aw_block ?_ | refine aw_condT rfl ?_ | refine aw_condF rfl ?_ | ((first | refine aw_region ?_ | refine acall0 (sf) ?_ | refine ago_if (by omega) ?_ | skip); simp (config := {maxSteps := 10000000}) (disch := first | exact okYes (by kernel_rfl) | omega) only [thenQ, List.map, dI, dB, Option.isSome, List.length, Nat.zero_add, Nat.reduceAdd, Nat.reduceMul, envOf, ARun_none, AOpRun, aexec, D.isBot, FSt.ev, St.F, ↓eget_h, Bool.false_eq_true, hget_n, or_self, ↓reduceIte, D.cells, AGo_ok, St.app, putO, eput_c, Nat.reduceBEq, eput_n, cond_false, hups, hput_n, eget_c, hget_c, hput_c, ARun_nil, dropE_c, inL_n, dropE_n, beq_self_eq_true, cond_true, Nat.reduceLeDiff, List.drop, List.take, inL_c, isSh, Option.map, abin, q, ARun_some, AG_ff, run1, ↓hget_h, List.getElem?_cons_succ, List.getElem?_cons_zero, ev, q2])))
    all_goals (refine end_to [] [] (by first | exact .inl rfl | exact .inr rfl) rfl (by kernel_rfl) (by kernel_rfl) (by kernel_rfl) ?_ ?_ <;> repeat' (first | exact trivial | exact vr_val _ | apply vr_tup | apply And.intro))
  have q2 : ((subF l fr).tmod f.every != f.phase) = false := by simp only [bne_eq_false_iff_eq]; exact hin
  have rr := rraw_ac hf fr x x1 x2 x3
  rw [x4 hin]
  have m1 := mul_bd hf.a1 hf.a2 (by have := hf.d1; omega : -(1000 : Int) ≤ f.den) hf.d2
  have rb := rawI_bd hf x
  have m2 := mul_bd rb.1 rb.2 hf.n1 hf.n2
  have e1 : IntKind.i64.wrap (f.add * f.den) = f.add * f.den := wrap_in (by omega) (by omega)
  have e2 : IntKind.i64.wrap (rawI f x * f.num) = rawI f x * f.num := wrap_in (by omega) (by omega)
  have e3 : IntKind.i64.wrap (f.add * f.den + rawI f x * f.num) = valI f (rawI f x) := wrap_in (by omega) (by omega)
  simp only [Option.getD_some, Option.isSome_some]
  unfold layD layC flD flC at *
  generalize rawI f x = rw at *
  (have hg : (987654321 : Nat) - 987654321 = 0 := rfl; have hr := hg; repeat' (first | refine aw_seq ?_ | (refine aw_skip ?_; try simp only [thenQ, blockQ, if_true, if_false, Nat.reduceEqDiff, reduceCtorEq]) | (refine aw_exit ?_; try simp only [thenQ, blockQ, if_true, if_false, Nat.reduceEqDiff, reduceCtorEq]) | refine aw_ret ?_ | refine aw_block ?_ | refine aw_condT rfl ?_ | refine aw_condF rfl ?_ | ((first | refine aw_region ?_ | refine acall0 (sf) ?_ | refine acall0 (rr) ?_ | refine ago_if (by omega) ?_ | skip); simp (config := {maxSteps := 10000000}) (disch := first | exact okYes (by kernel_rfl) | omega) only [thenQ, List.map, dI, dB, List.length, Nat.zero_add, Nat.reduceAdd, Nat.reduceMul, envOf, ARun_none, AOpRun, aexec, D.isBot, FSt.ev, St.F, ↓eget_h, Bool.false_eq_true, Option.isSome, hget_n, or_self, ↓reduceIte, D.cells, AGo_ok, St.app, putO, eput_c, Nat.reduceBEq, eput_n, cond_false, hups, hput_n, eget_c, hget_c, hput_c, ARun_nil, dropE_c, inL_n, dropE_n, beq_self_eq_true, cond_true, Nat.reduceLeDiff, List.drop, List.take, inL_c, isSh, Option.map, abin, q, ARun_some, AG_ff, run1, ↓hget_h, List.getElem?_cons_succ, List.getElem?_cons_zero, ev, q2, e1, e2, e3])))
  all_goals (refine end_to [] [] (by first | exact .inl rfl | exact .inr rfl) rfl (by kernel_rfl) (by kernel_rfl) (by kernel_rfl) ?_ ?_ <;> repeat' (first | exact trivial | exact vr_val _ | apply vr_tup | apply And.intro))
set_option maxRecDepth 100000 in
set_option maxHeartbeats 4000000 in
theorem rsamples_ac (l : Lay) (frs : List (List Int)) (n : Nat) (h1 : LayOk l) (h2 : frs.length ≤ 200) (hf : FrIn frs) (hn : n < l.fl.length) : AC Try.prog 70 [layD l, .list (rows frs), dI n] [] [] (.list (sps (smps l (fAt l n) frs frs.length))) := by
  refine kref12_Samples.ac (n0 := 0) (by simp) ⟨in_layD _ _, .list _, .val _, trivial⟩ trivial rfl ?_
  unfold cref12_Samples
  have rs := fun k => rsample_ac l (fAt l n) (frm frs k) h1.w1 (fAt_ok h1 hn) (hf.m k)
  have nf := h1.nf
  have g0 : (fls l.fl)[n]? = some (flC (fAt l n)) := fls_gd l.fl n hn
  have ni : (n : Int) < (l.fl.length : Int) := by omega
  have fa := fls_all l.fl
  have fl := fls_len l.fl
  generalize fAt l n = f at *
  unfold layD layC flD flC at *
  refine aw_seq (aw_region ?_)
  simp (config := {maxSteps := 10000000}) (disch := first | exact okYes (by kernel_rfl) | omega) only [thenQ, List.map, List.length, Nat.zero_add, Nat.reduceAdd, Nat.reduceMul, envOf, dI, ARun_none, AOpRun, aexec, D.isBot, FSt.ev, St.F, ↓eget_h, Bool.false_eq_true, Option.isSome, hget_n, or_self, ↓reduceIte, D.cells, AGo_ok, St.app, putO, eput_c, Nat.reduceBEq, eput_n, cond_false, hups, hput_n, ARun_nil, dropE_c, inL_n, dropE_n]
  refine aw_seq (aw_region ?_)
  simp (config := {maxSteps := 10000000}) (disch := first | exact okYes (by kernel_rfl) | omega) only [thenQ, List.length, Nat.zero_add, Nat.reduceMul, Nat.reduceAdd, ARun_none, AOpRun, aexec, FSt.ev, AGo_ok, St.app, putO, eput_c, Nat.reduceBEq, eput_n, cond_false, hups, List.map, ARun_nil, dropE_c, inL_n, dropE_n]
  refine aw_seq (aw_seq (aw_region ?_))
  simp (config := {maxSteps := 10000000}) (disch := first | exact okYes (by kernel_rfl) | omega) only [thenQ, List.length, Nat.zero_add, Nat.reduceMul, Nat.reduceAdd, ARun_none, AOpRun, aexec, FSt.ev, AGo_ok, St.app, putO, eput_c, Nat.reduceBEq, eput_n, cond_false, hups, List.map, ARun_nil, dropE_c, inL_n, dropE_n]
  refine aw_block (aw_loop (fun k : Nat => ⟨[(1, .list (rows frs)), (2, dI n), (3, .ptr 0 0), (7, .vec 40 (smps l f frs k).length 2), (8, dI k)], [(0, [dI l.words, dI l.s0, dI l.s1, dI l.s2, dI l.s3, .list (fls l.fl)]), (40, scells (smps l f frs k))], 400⟩) (fun k => k ≤ frs.length) (fun k => frs.length - k) ⟨0, by omega, ?_⟩ ?_)
  · show Wk _ _ ⟨[_, _, _, (7, .vec 40 0 2), _], [_, (40, [])], _⟩
    unfold dI
    refine wk_to [] [(0, 0), (40, 900)] (by kernel_rfl) (by kernel_rfl) (by kernel_rfl) (by kernel_rfl) (by kernel_rfl) ?_ ?_ <;> repeat' (first | exact trivial | exact vr_val _ | exact vr_list _ | exact vr_ptr _ _ _ rfl | exact vr_nilv _ _ _ rfl | refine And.intro ⟨_, rfl, .inl ⟨_, rfl, by decide, ?_⟩⟩ ?_ | refine And.intro ⟨_, rfl, .inr ⟨rfl, rfl, of_decide_eq_true (by kernel_rfl)⟩⟩ ?_ | apply And.intro)
  intro k hk
  have hgl := smps_len l f frs k
  by_cases hk2 : k < frs.length
  case neg =>
    obtain rfl : k = frs.length := by omega
    generalize smps l f frs frs.length = L at *
    (have hg : (987654321 : Nat) - 987654321 = 0 := rfl; have hr := hg; repeat' (first | refine aw_seq ?_ | (refine aw_skip ?_; try simp only [thenQ, blockQ, if_true, if_false, Nat.reduceEqDiff, reduceCtorEq]) | (refine aw_exit ?_; try simp only [thenQ, blockQ, if_true, if_false, Nat.reduceEqDiff, reduceCtorEq]) | refine aw_ret ?_ | refine aw_block ?_ | refine aw_condT rfl ?_ | refine aw_condF rfl ?_ | (refine aw_cond rfl (fun hg => ?_) (fun hg => ?_) <;> (try (have hq := hg; simp only [Bool.not_eq_true', Bool.not_eq_false', Bool.and_eq_true, Bool.and_eq_false_iff, Bool.or_eq_true, Bool.or_eq_false_iff, decide_eq_true_eq, decide_eq_false_iff_not, bne_iff_ne, beq_iff_eq, beq_eq_false_iff_ne, bne_eq_false_iff_eq, ne_eq, Int.not_lt, Int.not_le, Decidable.not_not] at hq)) <;> (try (have hr := hg; simp only [decide_eq_true_eq, decide_eq_false_iff_not] at hr)) <;> (try (exfalso; omega))) | ((first | refine aw_region ?_ | refine ago_if (by omega) ?_ | skip); simp (config := {maxSteps := 10000000}) (disch := first | exact okYes (by kernel_rfl) | omega) only [thenQ, dI, List.length, Nat.zero_add, Nat.reduceAdd, Nat.reduceMul, ARun_none, AOpRun, aexec, FSt.ev, St.F, eget_c, Nat.reduceBEq, ↓eget_h, cond_false, AGo_ok, St.app, putO, eput_c, eput_n, hups, List.map, rows_len, isSh, Bool.false_eq_true, ↓reduceIte, Option.map, abin, ARun_nil, dropE_c, inL_c, inL_n, beq_self_eq_true, cond_true, dropE_n, hr, decide_false])))
    refine end_to [40] [] (by first | exact .inl rfl | exact .inr rfl) rfl (by kernel_rfl) (by kernel_rfl) (by kernel_rfl) ?_ ?_ <;> repeat' (first | exact trivial | refine vr_fl _ _ _ _ _ (by decide) rfl ?_ ?_ ?_ ?_)
    all_goals first | exact sps_two _ | exact sps_len _ | exact sps_flat _ | exact scells_in _
  have g1 := rows_gd frs k hk2
  rw [show frs[k]?.getD [] = frm frs k from rfl] at g1
  have sf := rs k
  have e := smps_succ l f frs k
  cases hs : smp l f (frm frs k) with
  | some v =>
    rw [hs] at sf e
    simp only [Option.getD_some, Option.isSome_some] at sf e
    have hic : (scells (smps l f frs k)).length = (smps l f frs k).length * 2 := scells_len _
    have hit : (scells (smps l f frs k)).take ((smps l f frs k).length * 2) = scells (smps l f frs k) := sc_all _
    have hlen : (smps l f frs (k + 1)).length = (smps l f frs k).length + 1 := by rw [e]; simp
    have e2 : scells (smps l f frs (k + 1)) = scells (smps l f frs k) ++ [.val (.int .i64 (k : Int)), .val (.int .i64 v)] := by rw [e]; exact (sc_snoc _ ((k : Int), v)).symm
    have hcin : ∀ y ∈ scells (smps l f frs k) ++ [.val (.int .i64 (k : Int)), .val (.int .i64 v)], In (fun _ => False) y := by rw [← e2]; exact scells_in _
    generalize hL : smps l f frs k = L at *
    (have hg : (987654321 : Nat) - 987654321 = 0 := rfl; have hr := hg; repeat' (first | refine aw_seq ?_ | (refine aw_skip ?_; try simp only [thenQ, blockQ, if_true, if_false, Nat.reduceEqDiff, reduceCtorEq]) | (refine aw_exit ?_; try simp only [thenQ, blockQ, if_true, if_false, Nat.reduceEqDiff, reduceCtorEq]) | refine aw_ret ?_ | refine aw_block ?_ | refine aw_condT rfl ?_ | refine aw_condF rfl ?_ | (refine aw_cond rfl (fun hg => ?_) (fun hg => ?_) <;> (try (have hq := hg; simp only [Bool.not_eq_true', Bool.not_eq_false', Bool.and_eq_true, Bool.and_eq_false_iff, Bool.or_eq_true, Bool.or_eq_false_iff, decide_eq_true_eq, decide_eq_false_iff_not, bne_iff_ne, beq_iff_eq, beq_eq_false_iff_ne, bne_eq_false_iff_eq, ne_eq, Int.not_lt, Int.not_le, Decidable.not_not] at hq)) <;> (try (have hr := hg; simp only [decide_eq_true_eq, decide_eq_false_iff_not] at hr)) <;> (try (exfalso; omega))) | ((first | refine aw_region ?_ | refine acall0 (sf) ?_ | refine ago_if (by omega) ?_ | skip); simp (config := {maxSteps := 10000000}) (disch := first | exact okYes (by kernel_rfl) | omega) only [thenQ, dI, List.length, Nat.zero_add, Nat.reduceAdd, Nat.reduceMul, ARun_none, AOpRun, aexec, FSt.ev, St.F, eget_c, Nat.reduceBEq, ↓eget_h, cond_false, AGo_ok, St.app, putO, eput_c, eput_n, hups, List.map, rows_len, isSh, Bool.false_eq_true, ↓reduceIte, Option.map, abin, ARun_nil, dropE_c, inL_c, inL_n, beq_self_eq_true, cond_true, dropE_n, hr, decide_true, hget_c, hget_n, Nat.le_refl, List.drop, List.take, run1, List.getElem?_cons_succ, List.getElem?_cons_zero, Int.natCast_nonneg, fa, and_self, opt1, Int.toNat_natCast, g0, dB, rows_all, g1, blockQ, fillD, D.isBot, D.cells, ne_eq, not_true_eq_false, Nat.reduceGT, or_self, splice, List.nil_append, List.cons_append, List.append_nil, Option.isSome, hput_c, hput_n, base, ↓hget_h, hic, hit, elems, List.all, D.leaf, Bool.and_true, and_true, ups, hdel_c, hdel_n, fits])))
    refine ⟨k + 1, by omega, by omega, ?_⟩
    rw [e2, hlen]
    refine wk_to [] [(0, 0), (40, 608)] (by kernel_rfl) (by kernel_rfl) (by kernel_rfl) (by kernel_rfl) (by kernel_rfl) ?_ ?_ <;> repeat' (first | exact trivial | exact vr_val _ | exact vr_list _ | exact vr_vec _ _ _ _ rfl | exact vr_ptr _ _ _ rfl | refine And.intro ⟨_, rfl, .inl ⟨_, rfl, by decide, ?_⟩⟩ ?_ | apply And.intro | exact vrl_flat _ (by first | exact icells_in _ | exact rcells_in _ | exact scells_in _ | exact bcells_in _ | assumption))
  | none =>
    rw [hs] at sf e
    simp only [Option.getD_none, Option.isSome_none, List.append_nil] at sf e
    (have hg : (987654321 : Nat) - 987654321 = 0 := rfl; have hr := hg; repeat' (first | refine aw_seq ?_ | (refine aw_skip ?_; try simp only [thenQ, blockQ, if_true, if_false, Nat.reduceEqDiff, reduceCtorEq]) | (refine aw_exit ?_; try simp only [thenQ, blockQ, if_true, if_false, Nat.reduceEqDiff, reduceCtorEq]) | refine aw_ret ?_ | refine aw_block ?_ | refine aw_condT rfl ?_ | refine aw_condF rfl ?_ | (refine aw_cond rfl (fun hg => ?_) (fun hg => ?_) <;> (try (have hq := hg; simp only [Bool.not_eq_true', Bool.not_eq_false', Bool.and_eq_true, Bool.and_eq_false_iff, Bool.or_eq_true, Bool.or_eq_false_iff, decide_eq_true_eq, decide_eq_false_iff_not, bne_iff_ne, beq_iff_eq, beq_eq_false_iff_ne, bne_eq_false_iff_eq, ne_eq, Int.not_lt, Int.not_le, Decidable.not_not] at hq)) <;> (try (have hr := hg; simp only [decide_eq_true_eq, decide_eq_false_iff_not] at hr)) <;> (try (exfalso; omega))) | ((first | refine aw_region ?_ | refine acall0 (sf) ?_ | refine ago_if (by omega) ?_ | skip); simp (config := {maxSteps := 10000000}) (disch := first | exact okYes (by kernel_rfl) | omega) only [thenQ, dI, List.length, Nat.zero_add, Nat.reduceAdd, Nat.reduceMul, ARun_none, AOpRun, aexec, FSt.ev, St.F, eget_c, Nat.reduceBEq, ↓eget_h, cond_false, AGo_ok, St.app, putO, eput_c, eput_n, hups, List.map, rows_len, isSh, Bool.false_eq_true, ↓reduceIte, Option.map, abin, ARun_nil, dropE_c, inL_c, inL_n, beq_self_eq_true, cond_true, dropE_n, hr, decide_true, hget_c, hget_n, Nat.reduceLeDiff, List.drop, List.take, run1, List.getElem?_cons_succ, List.getElem?_cons_zero, Int.natCast_nonneg, fa, and_self, opt1, Int.toNat_natCast, g0, dB, rows_all, g1, fits])))
    refine ⟨k + 1, by omega, by omega, ?_⟩
    rw [e]
    refine wk_to [] [(0, 0), (40, 40)] (by kernel_rfl) (by kernel_rfl) (by kernel_rfl) (by kernel_rfl) (by kernel_rfl) ?_ ?_ <;> repeat' (first | exact trivial | exact vr_val _ | exact vr_list _ | exact vr_vec _ _ _ _ rfl | exact vr_ptr _ _ _ rfl | refine And.intro ⟨_, rfl, .inl ⟨_, rfl, by decide, ?_⟩⟩ ?_ | apply And.intro | exact vrl_flat _ (by first | exact icells_in _ | exact rcells_in _ | exact scells_in _ | exact bcells_in _ | assumption))
set_option maxRecDepth 100000 in
set_option maxHeartbeats 1000000 in
theorem rfield_ac (l : Lay) (n : Int) (hn : l.fl.length ≤ 1000) : AC Try.prog 69 [layD l, dI n] [] [] (dB (wI n 0 ((l.fl.length : Int) - 1))) := by
  refine kref12_field.ac (n0 := 0) (by simp) ⟨in_layD _ _, .val _, trivial⟩ trivial rfl ?_
  unfold cref12_field layD layC
  (have hg : (987654321 : Nat) - 987654321 = 0 := rfl; have hr := hg; repeat' (first | refine aw_seq ?_ | (refine aw_skip ?_; try simp only [thenQ, blockQ, if_true, if_false, Nat.reduceEqDiff, reduceCtorEq]) | (refine aw_exit ?_; try simp only [thenQ, blockQ, if_true, if_false, Nat.reduceEqDiff, reduceCtorEq]) | refine aw_ret ?_ | refine aw_block ?_ | refine aw_condT rfl ?_ | refine aw_condF rfl ?_ | ((first | refine aw_region ?_ | refine acall0 (from_ac _ _ _) ?_ | refine ago_if (by omega) ?_ | skip); simp (config := {maxSteps := 10000000}) (disch := first | exact okYes (by kernel_rfl) | omega) only [thenQ, List.map, dB, List.length, Nat.zero_add, Nat.reduceAdd, Nat.reduceMul, envOf, dI, ARun_none, AOpRun, aexec, D.isBot, FSt.ev, St.F, ↓eget_h, Bool.false_eq_true, Option.isSome, hget_n, or_self, ↓reduceIte, D.cells, AGo_ok, St.app, putO, eput_c, Nat.reduceBEq, eput_n, cond_false, hups, hput_n, ARun_nil, dropE_c, inL_n, dropE_n, eget_c, Option.map, run1, hget_c, beq_self_eq_true, cond_true, List.getElem?_cons_succ, List.getElem?_cons_zero, fls_len, isSh, abin, fits, inL_c])))
  all_goals (refine end_to [] [] (by first | exact .inl rfl | exact .inr rfl) rfl (by kernel_rfl) (by kernel_rfl) (by kernel_rfl) ?_ ?_ <;> repeat' (first | exact trivial | exact vr_val _))
theorem readR_no {l : Lay} {frs : List (List Int)} {x : Int} (h : wfE l frs [x] ≠ 0) : readR l frs x = [] := if_neg h
set_option maxRecDepth 100000 in
set_option maxHeartbeats 2000000 in
theorem rread_ac (l : Lay) (frs : List (List Int)) (x : Int) (hl : LayIn l) (hf : FrIn frs) : AC Try.prog 19 [layD l, .list (rows frs), dI x] [] [] (.tup [.list (sps (readR l frs x)), dI (wfE l frs [x])]) := by
  refine kref12_Read.ac (n0 := 0) (by simp) ⟨in_layD _ _, .list _, .val _, trivial⟩ trivial rfl ?_
  unfold cref12_Read
  have ck := checkF_ac l frs hl hf
  rcases tpE_cases l frs with ⟨h0, h1, h2⟩ | ⟨h0, h1⟩
  · rw [h0] at ck
    have fa := rfield_ac l x (by have := h1.nf; omega)
    have hw : wfE l frs [x] = if hasA l [x] = true then 0 else 1 := if_pos h0
    rw [hasA_one] at hw
    cases hb : wI x 0 ((l.fl.length : Int) - 1) with
    | false =>
      rw [hb] at fa hw
      rw [if_neg (by simp)] at hw
      rw [readR_no (by rw [hw]; omega), hw]
      unfold layD layC at *
      (have hg : (987654321 : Nat) - 987654321 = 0 := rfl; have hr := hg; repeat' (first | refine aw_seq ?_ | (refine aw_skip ?_; try simp only [thenQ, blockQ, if_true, if_false, Nat.reduceEqDiff, reduceCtorEq]) | (refine aw_exit ?_; try simp only [thenQ, blockQ, if_true, if_false, Nat.reduceEqDiff, reduceCtorEq]) | refine aw_ret ?_ | refine aw_block ?_ | refine aw_condT rfl ?_ | refine aw_condF rfl ?_ | ((first | refine aw_region ?_ | refine acall0 (ck) ?_ | refine acall0 (fa) ?_ | refine ago_if (by omega) ?_ | skip); simp (config := {maxSteps := 10000000}) (disch := first | exact okYes (by kernel_rfl) | omega) only [thenQ, List.map, dI, List.length, Nat.zero_add, Nat.reduceAdd, Nat.reduceMul, envOf, ARun_none, AOpRun, aexec, D.isBot, FSt.ev, St.F, ↓eget_h, Bool.false_eq_true, Option.isSome, hget_n, or_self, ↓reduceIte, D.cells, AGo_ok, St.app, putO, eput_c, Nat.reduceBEq, eput_n, cond_false, hups, hput_n, ARun_nil, dropE_c, inL_n, dropE_n, eget_c, hget_c, beq_self_eq_true, cond_true, Nat.reduceLeDiff, List.drop, List.take, inL_c, isSh, Option.map, abin, bne_self_eq_false, dB, Bool.not_false])))
      all_goals (refine end_to [] [] (by first | exact .inl rfl | exact .inr rfl) rfl (by kernel_rfl) (by kernel_rfl) (by kernel_rfl) ?_ ?_ <;> repeat' (first | exact trivial | exact vr_val _ | exact vr_nil | apply vr_tup | apply And.intro))
    | true =>
      rw [hb] at fa hw
      rw [if_pos rfl] at hw
      have hx := wI_t hb
      obtain ⟨n, rfl⟩ : ∃ n : Nat, x = n := ⟨x.toNat, by omega⟩
      have rs := rsamples_ac l frs n h1 h2 hf (by omega)
      have hr : readR l frs n = smps l (fAt l n) frs frs.length := by unfold readR; rw [if_pos hw, Int.toNat_natCast]
      rw [hr, hw]
      unfold layD layC at *
      (have hg : (987654321 : Nat) - 987654321 = 0 := rfl; have hr := hg; repeat' (first | refine aw_seq ?_ | (refine aw_skip ?_; try simp only [thenQ, blockQ, if_true, if_false, Nat.reduceEqDiff, reduceCtorEq]) | (refine aw_exit ?_; try simp only [thenQ, blockQ, if_true, if_false, Nat.reduceEqDiff, reduceCtorEq]) | refine aw_ret ?_ | refine aw_block ?_ | refine aw_condT rfl ?_ | refine aw_condF rfl ?_ | ((first | refine aw_region ?_ | refine acall0 (ck) ?_ | refine acall0 (fa) ?_ | refine acall0 (rs) ?_ | refine ago_if (by omega) ?_ | skip); simp (config := {maxSteps := 10000000}) (disch := first | exact okYes (by kernel_rfl) | omega) only [thenQ, List.map, dI, List.length, Nat.zero_add, Nat.reduceAdd, Nat.reduceMul, envOf, ARun_none, AOpRun, aexec, D.isBot, FSt.ev, St.F, ↓eget_h, Bool.false_eq_true, Option.isSome, hget_n, or_self, ↓reduceIte, D.cells, AGo_ok, St.app, putO, eput_c, Nat.reduceBEq, eput_n, cond_false, hups, hput_n, ARun_nil, dropE_c, inL_n, dropE_n, eget_c, hget_c, beq_self_eq_true, cond_true, Nat.reduceLeDiff, List.drop, List.take, inL_c, isSh, Option.map, abin, bne_self_eq_false, dB, Bool.not_true])))
      all_goals (refine end_to [] [] (by first | exact .inl rfl | exact .inr rfl) rfl (by kernel_rfl) (by kernel_rfl) (by kernel_rfl) ?_ ?_ <;> repeat' (first | exact trivial | exact vr_val _ | exact vr_list _ | apply vr_tup | apply And.intro))
  · have hw : wfE l frs [x] = tpE l frs := if_neg h0
    rw [readR_no (by rw [hw]; exact h0), hw]
    unfold layD layC at *
    generalize tpE l frs = E at *
    (have hg : (987654321 : Nat) - 987654321 = 0 := rfl; have hr := hg; repeat' (first | refine aw_seq ?_ | (refine aw_skip ?_; try simp only [thenQ, blockQ, if_true, if_false, Nat.reduceEqDiff, reduceCtorEq]) | (refine aw_exit ?_; try simp only [thenQ, blockQ, if_true, if_false, Nat.reduceEqDiff, reduceCtorEq]) | refine aw_ret ?_ | refine aw_block ?_ | refine aw_condT rfl ?_ | refine aw_condF rfl ?_ | ((first | refine aw_region ?_ | refine acall0 (ck) ?_ | refine ago_if (by omega) ?_ | skip); simp (config := {maxSteps := 10000000}) (disch := first | exact okYes (by kernel_rfl) | omega) only [thenQ, List.map, dI, List.length, Nat.zero_add, Nat.reduceAdd, Nat.reduceMul, envOf, ARun_none, AOpRun, aexec, D.isBot, FSt.ev, St.F, ↓eget_h, Bool.false_eq_true, Option.isSome, hget_n, or_self, ↓reduceIte, D.cells, AGo_ok, St.app, putO, eput_c, Nat.reduceBEq, eput_n, cond_false, hups, hput_n, ARun_nil, dropE_c, inL_n, dropE_n, eget_c, hget_c, beq_self_eq_true, cond_true, Nat.reduceLeDiff, List.drop, List.take, inL_c, isSh, Option.map, abin, h1])))
    all_goals (refine end_to [] [] (by first | exact .inl rfl | exact .inr rfl) rfl (by kernel_rfl) (by kernel_rfl) (by kernel_rfl) ?_ ?_ <;> repeat' (first | exact trivial | exact vr_val _ | exact vr_nil | apply vr_tup | apply And.intro))
end Go.Proofs.Ytdcodicoclecnaa
/- A safety case, in numbers. No conditions. -/
namespace Go.Proofs.Ytdcodicoclecnaa
open Go.RowKit Lift

/-- a claim -/
structure Clm where
  needs : List Int
  proofs : List Int
  any : Bool
/-- a case -/
structure Cas where
  cl : List Clm
  pf : List (Int × Int)
def clC (x : Clm) : List D := [.list (ints x.needs), .list (ints x.proofs), dB x.any]
def cls (l : List Clm) : List (List D) := l.map clC
def cl0 : Clm := ⟨[], [], false⟩
theorem cls_len (l : List Clm) : (cls l).length = l.length := by simp [cls]
theorem cls_all (l : List Clm) : (cls l).all (fun x => x.length == 3) = true := by simp [cls, clC]
theorem cls_three (l : List Clm) : ∀ e ∈ cls l, e.length = 3 := by simp [cls, clC]
theorem cls_gd (l : List Clm) (k : Nat) (h : k < l.length) : (cls l)[k]? = some (clC (l[k]?.getD cl0)) := by simp [cls, h]
/-- strictly ascending, from 0 to below a limit -/
def Asc (l : List Int) (b : Int) : Prop := ∀ i, i < l.length → 0 ≤ l[i]?.getD 0 ∧ l[i]?.getD 0 < b ∧ (0 < i → l[i - 1]?.getD 0 < l[i]?.getD 0)
def pfOk (a : Int × Int) : Prop := 0 ≤ a.1 ∧ a.1 ≤ a.2 ∧ a.2 ≤ 2000
instance (a : Int × Int) : Decidable (pfOk a) := inferInstanceAs (Decidable (_ ∧ _))
def clAt (c : Cas) (i : Nat) : Clm := c.cl[i]?.getD cl0
def pfAt (c : Cas) (i : Nat) : Int × Int := c.pf[i]?.getD (0, 0)
structure CasOk (c : Cas) : Prop where
  n1 : c.cl.length ≤ 16
  n2 : c.pf.length ≤ 12
  as : ∀ i, i < c.cl.length → Asc (clAt c i).needs i ∧ Asc (clAt c i).proofs c.pf.length
  pf : ∀ i, i < c.pf.length → pfOk (pfAt c i)
open Classical in
noncomputable def casE (c : Cas) (E : Int) : Int := if CasOk c then 0 else E
theorem casE_ok {c : Cas} {E : Int} (h : CasOk c) : casE c E = 0 := if_pos h
theorem casE_no {c : Cas} {E : Int} (h : ¬ CasOk c) : casE c E = E := if_neg h
noncomputable def clmE (c : Cas) (claim tick E A : Int) : Int := if casE c E ≠ 0 then casE c E else if 0 ≤ claim ∧ claim ≤ (c.cl.length : Int) - 1 ∧ 0 ≤ tick ∧ tick ≤ 2000 then 0 else A
/-- the proofs that count in a tick -/
def cntT (c : Cas) (tick : Int) (i : Nat) : Bool := decide (i < c.pf.length) && (decide ((pfAt c i).1 ≤ tick) && decide (tick ≤ (pfAt c i).2))
/-- whether a claim holds, those before it known -/
def clV (x : Clm) (h : List Bool) (cn : Nat → Bool) : Bool :=
  if x.any = true then x.needs.any (fun n => h[n.toNat]?.getD false) || x.proofs.any (fun n => cn n.toNat)
  else x.needs.all (fun n => h[n.toNat]?.getD false) && x.proofs.all (fun n => cn n.toNat)
def hlK (c : Cas) (cn : Nat → Bool) : Nat → List Bool
  | 0 => []
  | i + 1 => hlK c cn i ++ [clV (clAt c i) (hlK c cn i) cn]
theorem hlK_len (c : Cas) (cn : Nat → Bool) : ∀ i, (hlK c cn i).length = i
  | 0 => rfl
  | i + 1 => by simp [hlK, hlK_len c cn i]
/-- whether a claim holds with proofs -/
def holdC (c : Cas) (cl : Nat) (cn : Nat → Bool) : Bool := (hlK c cn (cl + 1))[cl]?.getD false
/-- the list that is filled, claim by claim -/
def hlF (c : Cas) (cn : Nat → Bool) (n i : Nat) : List Bool := (List.range n).map fun j => if j < i then (hlK c cn i)[j]?.getD false else false
theorem hlF_len (c : Cas) (cn : Nat → Bool) (n i : Nat) : (hlF c cn n i).length = n := by simp [hlF]
theorem hlF_get (c : Cas) (cn : Nat → Bool) (n i j : Nat) (h : j < i) (hn : j < n) : (hlF c cn n i)[j]?.getD false = (hlK c cn i)[j]?.getD false := by simp [hlF, hn, h]
theorem hlF_zero (c : Cas) (cn : Nat → Bool) (n : Nat) : hlF c cn n 0 = List.replicate n false := by
  unfold hlF
  refine List.ext_getElem (by simp) fun i h1 h2 => ?_
  simp
theorem hlF_succ (c : Cas) (cn : Nat → Bool) (n i : Nat) (h : i < n) : hlF c cn n (i + 1) = (hlF c cn n i).set i (clV (clAt c i) (hlK c cn i) cn) := by
  unfold hlF
  refine List.ext_getElem (by simp) fun j h1 h2 => ?_
  rw [List.getElem_set]
  simp only [List.getElem_map, List.getElem_range]
  have hl := hlK_len c cn i
  by_cases e : i = j
  · subst e
    rw [if_pos rfl, if_pos (by omega), hlK, List.getElem?_append_right (by omega)]
    simp [hl]
  · rw [if_neg e]
    by_cases hj : j < i
    · rw [if_pos (by omega), if_pos hj, hlK, List.getElem?_append_left (by omega)]
    · rw [if_neg (by omega), if_neg hj]
/-- only the proofs that are named count -/
theorem asc_lt {l : List Int} {b : Int} (h : Asc l b) {n : Int} (hn : n ∈ l) : 0 ≤ n ∧ n < b := by
  obtain ⟨i, hi, rfl⟩ := List.getElem_of_mem hn
  have := h i hi
  simp [hi] at this
  exact ⟨this.1, this.2.1⟩
end Go.Proofs.Ytdcodicoclecnaa
