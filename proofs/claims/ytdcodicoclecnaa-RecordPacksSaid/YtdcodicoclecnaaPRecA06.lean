/- Texts of the laws, shared part 6. No conditions. -/
import Derived.Test.YtdcodicoclecnaaPRecA05
import Derived.Test.YtdcodicoclecnaaRows
/- The functions' bodies, translated. Written by a program; no conditions. -/
namespace Go.Proofs.Ytdcodicoclecnaa
open Go.RowKit Lift

/-- ref12_Subframe -/
def cref12_Subframe : ACode :=
  (.seq
   (.region false [⟨some 2, .box (.tmp 0), none, []⟩,
     ⟨some 4, .mv (.const (.int .i64 0)), none, []⟩] [])
  (.seq
   (.seq
    (.region false [⟨some 7, .mv (.tmp 1), none, []⟩,
      ⟨some 8, .len_ (.tmp 7), none, []⟩,
      ⟨some 9, .fad 0 (.tmp 2), none, []⟩,
      ⟨some 10, .load1 (.tmp 9), none, []⟩,
      ⟨some 11, .bin .neq (.tmp 8) (.tmp 10), none, []⟩] [7, 8, 9, 10])
   (.cond (.tmp 11)
     (.seq
      (.region false [⟨some 4, .mv (.const (.int .i64 (-1))), none, []⟩] [])
     .ret)
     .skip))
  (.seq
   (.seq
    (.region false [⟨some 5, .mv (.const (.int .i64 0)), none, []⟩] [])
   (.block 0
     (.loop
       (.seq
        (.seq
         (.region false [⟨some 12, .mv (.tmp 5), none, []⟩,
           ⟨some 13, .mv (.tmp 1), none, []⟩,
           ⟨some 14, .len_ (.tmp 13), none, []⟩,
           ⟨some 15, .bin .lss (.tmp 12) (.tmp 14), none, []⟩] [12, 13, 14])
        (.cond (.tmp 15)
          .skip
          (.exit 0)))
       (.seq
        (.block 1
          (.seq
           (.region false [⟨some 18, .mv (.tmp 1), none, []⟩,
             ⟨some 19, .mv (.tmp 5), none, []⟩,
             ⟨some 20, .iadS 1 (.tmp 18) (.tmp 19), none, []⟩,
             ⟨some 21, .load1 (.tmp 20), none, []⟩,
             ⟨some 22, .call (.func 79) [(.tmp 21), (.const (.int .i64 0)), (.const (.int .i64 4095))], none, []⟩,
             ⟨some 23, .un .not (.tmp 22), none, []⟩] [18, 19, 20, 21, 22])
          (.cond (.tmp 23)
            (.seq
             (.region false [⟨some 4, .mv (.const (.int .i64 (-1))), none, []⟩] [])
            .ret)
            .skip)))
       (.region false [⟨some 16, .mv (.tmp 5), none, []⟩,
         ⟨some 17, .bin .add (.tmp 16) (.const (.int .i64 1)), none, []⟩,
         ⟨some 5, .mv (.tmp 17), none, []⟩] [16, 17]))))))
  (.seq
   (.seq
    (.region false [⟨some 6, .mv (.const (.int .i64 0)), none, []⟩] [])
   (.block 2
     (.loop
       (.seq
        (.seq
         (.region false [⟨some 24, .mv (.tmp 6), none, []⟩,
           ⟨some 25, .bin .lss (.tmp 24) (.const (.int .i64 4)), none, []⟩] [24])
        (.cond (.tmp 25)
          .skip
          (.exit 2)))
       (.seq
        (.block 3
          (.seq
           (.region true [⟨some 28, .mv (.tmp 1), none, []⟩,
             ⟨some 29, .iadS 1 (.tmp 28) (.const (.int .i64 0)), none, [0]⟩,
             ⟨some 30, .load1 (.tmp 29), none, [1, 0]⟩,
             ⟨some 31, .mv (.tmp 6), none, []⟩,
             ⟨some 32, .fad 1 (.tmp 2), none, []⟩,
             ⟨some 33, .iadA 4 1 (.tmp 32) (.tmp 31), none, [4, 3]⟩,
             ⟨some 34, .load1 (.tmp 33), none, [5, 4, 3]⟩,
             ⟨some 35, .bin .eql (.tmp 30) (.tmp 34), none, [2, 1, 0, 6, 5, 4, 3]⟩] [28, 29, 30, 31, 32, 33, 34])
          (.cond (.tmp 35)
            (.seq
             (.region false [⟨some 36, .mv (.tmp 6), none, []⟩,
               ⟨some 4, .mv (.tmp 36), none, []⟩] [36])
            .ret)
            .skip)))
       (.region false [⟨some 26, .mv (.tmp 6), none, []⟩,
         ⟨some 27, .bin .add (.tmp 26) (.const (.int .i64 1)), none, []⟩,
         ⟨some 6, .mv (.tmp 27), none, []⟩] [26, 27]))))))
  (.seq
   (.region false [⟨some 4, .mv (.const (.int .i64 (-1))), none, []⟩] [])
  .ret)))))
set_option maxRecDepth 100000 in
theorem kref12_Subframe : IsCode Try.prog 73 37 cref12_Subframe [.tmp 4] :=
  ⟨Try.f73, _, [35, 25, 23, 15, 11, 0, 1, 2, 5, 6, 4], Try.func73, rfl, by decide, rfl, by kernel_rfl, by kernel_rfl⟩
/-- ref12_CheckFrames -/
def cref12_CheckFrames : ACode :=
  (.seq
   (.region false [⟨some 2, .box (.tmp 0), none, []⟩,
     ⟨some 4, .mv (.const (.int .i64 0)), none, []⟩] [])
  (.seq
   (.region false [⟨some 6, .loadN 6 (.tmp 2), none, []⟩,
     ⟨some 7, .call (.func 28) [(.tmp 6)], none, []⟩,
     ⟨some 5, .mv (.tmp 7), none, []⟩] [6, 7])
  (.seq
   (.seq
    (.region false [⟨some 8, .mv (.tmp 5), none, []⟩,
      ⟨some 9, .bin .neq (.tmp 8) (.const (.int .i64 0)), none, []⟩] [8])
   (.cond (.tmp 9)
     (.seq
      (.region false [⟨some 10, .mv (.tmp 5), none, []⟩,
        ⟨some 4, .mv (.tmp 10), none, []⟩] [10])
     .ret)
     .skip))
  (.seq
   (.seq
    (.region false [⟨some 11, .mv (.tmp 1), none, []⟩,
      ⟨some 12, .len_ (.tmp 11), none, []⟩,
      ⟨some 13, .bin .gtr (.tmp 12) (.const (.int .i64 200)), none, []⟩] [11, 12])
   (.cond (.tmp 13)
     (.seq
      (.region false [⟨some 4, .mv (.const (.int .i64 2)), none, []⟩] [])
     .ret)
     .skip))
  (.seq
   (.region false [⟨some 4, .mv (.const (.int .i64 0)), none, []⟩] [])
  .ret)))))
set_option maxRecDepth 100000 in
theorem kref12_CheckFrames : IsCode Try.prog 68 14 cref12_CheckFrames [.tmp 4] :=
  ⟨Try.f68, _, [13, 9, 0, 2, 5, 1, 4], Try.func68, rfl, by decide, rfl, by kernel_rfl, by kernel_rfl⟩
/-- ref12_Good -/
def cref12_Good : ACode :=
  (.seq
   (.region false [⟨some 2, .box (.tmp 0), none, []⟩,
     ⟨some 4, .mv (.const (.slice none 0 0)), none, []⟩,
     ⟨some 5, .mv (.const (.int .i64 0)), none, []⟩] [])
  (.seq
   (.region false [⟨some 9, .loadN 6 (.tmp 2), none, []⟩,
     ⟨some 10, .mv (.tmp 1), none, []⟩,
     ⟨some 11, .call (.func 68) [(.tmp 9), (.tmp 10)], none, []⟩,
     ⟨some 6, .mv (.tmp 11), none, []⟩] [9, 10, 11])
  (.seq
   (.seq
    (.region false [⟨some 12, .mv (.tmp 6), none, []⟩,
      ⟨some 13, .bin .neq (.tmp 12) (.const (.int .i64 0)), none, []⟩] [12])
   (.cond (.tmp 13)
     (.seq
      (.region false [⟨some 14, .mv (.tmp 6), none, []⟩,
        ⟨some 4, .mv (.const (.slice none 0 0)), none, []⟩,
        ⟨some 5, .mv (.tmp 14), none, []⟩] [14])
     .ret)
     .skip))
  (.seq
   (.region false [⟨some 7, .mv (.const (.slice none 0 0)), none, []⟩] [])
  (.seq
   (.seq
    (.region false [⟨some 8, .mv (.const (.int .i64 0)), none, []⟩] [])
   (.block 0
     (.loop
       (.seq
        (.seq
         (.region false [⟨some 15, .mv (.tmp 8), none, []⟩,
           ⟨some 16, .mv (.tmp 1), none, []⟩,
           ⟨some 17, .len_ (.tmp 16), none, []⟩,
           ⟨some 18, .bin .lss (.tmp 15) (.tmp 17), none, []⟩] [15, 16, 17])
        (.cond (.tmp 18)
          .skip
          (.exit 0)))
       (.seq
        (.block 1
          (.seq
           (.region true [⟨some 21, .loadN 6 (.tmp 2), none, []⟩,
             ⟨some 22, .mv (.tmp 1), none, []⟩,
             ⟨some 23, .mv (.tmp 8), none, []⟩,
             ⟨some 24, .iadS 1 (.tmp 22) (.tmp 23), none, [1, 2]⟩,
             ⟨some 25, .load1 (.tmp 24), none, [3, 1, 2]⟩,
             ⟨some 26, .call (.func 73) [(.tmp 21), (.tmp 25)], none, [0, 4, 3, 1, 2]⟩,
             ⟨some 27, .bin .geq (.tmp 26) (.const (.int .i64 0)), none, [5, 0, 4, 3, 1, 2]⟩] [21, 22, 23, 24, 25, 26])
          (.cond (.tmp 27)
            (.region false [⟨some 28, .mv (.tmp 7), none, []⟩,
              ⟨some 29, .mv (.tmp 8), none, []⟩,
              ⟨some 30, .buildSl 1 1 [(.val (.int .i64 0))] [(0, 1, (.tmp 29))], none, []⟩,
              ⟨some 31, .app 1 8 (.tmp 28) (.tmp 30), none, []⟩,
              ⟨some 7, .mv (.tmp 31), none, []⟩] [28, 29, 30, 31])
            .skip)))
       (.region false [⟨some 19, .mv (.tmp 8), none, []⟩,
         ⟨some 20, .bin .add (.tmp 19) (.const (.int .i64 1)), none, []⟩,
         ⟨some 8, .mv (.tmp 20), none, []⟩] [19, 20]))))))
  (.seq
   (.region false [⟨some 32, .mv (.tmp 7), none, []⟩,
     ⟨some 4, .mv (.tmp 32), none, []⟩,
     ⟨some 5, .mv (.const (.int .i64 0)), none, []⟩] [32])
  .ret))))))
set_option maxRecDepth 100000 in
theorem kref12_Good : IsCode Try.prog 24 33 cref12_Good [.tmp 4, .tmp 5] :=
  ⟨Try.f24, _, [27, 18, 13, 0, 2, 1, 6, 8, 7, 4, 5], Try.func24, rfl, by decide, rfl, by kernel_rfl, by kernel_rfl⟩
/-- ref12_Slips -/
def cref12_Slips : ACode :=
  (.seq
   (.region false [⟨some 2, .box (.tmp 0), none, []⟩,
     ⟨some 4, .mv (.const (.slice none 0 0)), none, []⟩,
     ⟨some 5, .mv (.const (.int .i64 0)), none, []⟩] [])
  (.seq
   (.region false [⟨some 12, .loadN 6 (.tmp 2), none, []⟩,
     ⟨some 13, .mv (.tmp 1), none, []⟩,
     ⟨some 14, .call (.func 24) [(.tmp 12), (.tmp 13)], none, []⟩,
     ⟨some 11, .mv (.tmp 14), none, []⟩,
     ⟨some 15, .ext (.tmp 11) 0, none, []⟩,
     ⟨some 16, .ext (.tmp 11) 1, none, []⟩,
     ⟨some 6, .mv (.tmp 15), none, []⟩,
     ⟨some 7, .mv (.tmp 16), none, []⟩] [12, 13, 14, 11, 15, 16])
  (.seq
   (.seq
    (.region false [⟨some 17, .mv (.tmp 7), none, []⟩,
      ⟨some 18, .bin .neq (.tmp 17) (.const (.int .i64 0)), none, []⟩] [17])
   (.cond (.tmp 18)
     (.seq
      (.region false [⟨some 19, .mv (.tmp 7), none, []⟩,
        ⟨some 4, .mv (.const (.slice none 0 0)), none, []⟩,
        ⟨some 5, .mv (.tmp 19), none, []⟩] [19])
     .ret)
     .skip))
  (.seq
   (.region false [⟨some 8, .mv (.const (.slice none 0 0)), none, []⟩] [])
  (.seq
   (.seq
    (.region false [⟨some 9, .mv (.const (.int .i64 1)), none, []⟩] [])
   (.block 0
     (.loop
       (.seq
        (.seq
         (.region false [⟨some 20, .mv (.tmp 9), none, []⟩,
           ⟨some 21, .mv (.tmp 6), none, []⟩,
           ⟨some 22, .len_ (.tmp 21), none, []⟩,
           ⟨some 23, .bin .lss (.tmp 20) (.tmp 22), none, []⟩] [20, 21, 22])
        (.cond (.tmp 23)
          .skip
          (.exit 0)))
       (.seq
        (.block 1
          (.seq
           (.region true [⟨some 26, .loadN 6 (.tmp 2), none, []⟩,
             ⟨some 27, .mv (.tmp 1), none, []⟩,
             ⟨some 28, .mv (.tmp 6), none, []⟩,
             ⟨some 29, .mv (.tmp 9), none, []⟩,
             ⟨some 30, .iadS 1 (.tmp 28) (.tmp 29), none, [2, 3]⟩,
             ⟨some 31, .load1 (.tmp 30), none, [4, 2, 3]⟩,
             ⟨some 32, .iadS 1 (.tmp 27) (.tmp 31), none, [1, 5, 4, 2, 3]⟩,
             ⟨some 33, .load1 (.tmp 32), none, [6, 1, 5, 4, 2, 3]⟩,
             ⟨some 34, .call (.func 73) [(.tmp 26), (.tmp 33)], none, [0, 7, 6, 1, 5, 4, 2, 3]⟩,
             ⟨some 35, .loadN 6 (.tmp 2), none, []⟩,
             ⟨some 36, .mv (.tmp 1), none, []⟩,
             ⟨some 37, .mv (.tmp 6), none, []⟩,
             ⟨some 38, .mv (.tmp 9), none, []⟩,
             ⟨some 39, .bin .sub (.tmp 38) (.const (.int .i64 1)), none, [12]⟩,
             ⟨some 40, .iadS 1 (.tmp 37) (.tmp 39), none, [11, 13, 12]⟩,
             ⟨some 41, .load1 (.tmp 40), none, [14, 11, 13, 12]⟩,
             ⟨some 42, .iadS 1 (.tmp 36) (.tmp 41), none, [10, 15, 14, 11, 13, 12]⟩,
             ⟨some 43, .load1 (.tmp 42), none, [16, 10, 15, 14, 11, 13, 12]⟩,
             ⟨some 44, .call (.func 73) [(.tmp 35), (.tmp 43)], none, [9, 17, 16, 10, 15, 14, 11, 13, 12, 8, 0, 7, 6, 1, 5, 4, 2, 3]⟩,
             ⟨some 45, .bin .sub (.tmp 34) (.tmp 44), none, [8, 0, 7, 6, 1, 5, 4, 2, 3, 18, 9, 17, 16, 10, 15, 14, 11, 13, 12]⟩,
             ⟨some 10, .mv (.tmp 45), none, [19, 8, 0, 7, 6, 1, 5, 4, 2, 3, 18, 9, 17, 16, 10, 15, 14, 11, 13, 12]⟩] [26, 27, 28, 29, 30, 31, 32, 33, 34, 35, 36, 37, 38, 39, 40, 41, 42, 43, 44, 45])
          (.seq
           (.region true [⟨some 46, .mv (.tmp 10), none, []⟩,
             ⟨some 47, .bin .add (.tmp 46) (.const (.int .i64 4)), none, [0]⟩,
             ⟨some 48, .bin .rem (.tmp 47) (.const (.int .i64 4)), none, [1, 0]⟩,
             ⟨some 49, .mv (.tmp 6), none, []⟩,
             ⟨some 50, .mv (.tmp 9), none, []⟩,
             ⟨some 51, .iadS 1 (.tmp 49) (.tmp 50), none, [3, 4]⟩,
             ⟨some 52, .load1 (.tmp 51), none, [5, 3, 4]⟩,
             ⟨some 53, .mv (.tmp 6), none, []⟩,
             ⟨some 54, .mv (.tmp 9), none, []⟩,
             ⟨some 55, .bin .sub (.tmp 54) (.const (.int .i64 1)), none, [8]⟩,
             ⟨some 56, .iadS 1 (.tmp 53) (.tmp 55), none, [7, 9, 8]⟩,
             ⟨some 57, .load1 (.tmp 56), none, [10, 7, 9, 8]⟩,
             ⟨some 58, .bin .sub (.tmp 52) (.tmp 57), none, [6, 5, 3, 4, 11, 10, 7, 9, 8]⟩,
             ⟨some 59, .bin .rem (.tmp 58) (.const (.int .i64 4)), none, [12, 6, 5, 3, 4, 11, 10, 7, 9, 8]⟩,
             ⟨some 60, .bin .neq (.tmp 48) (.tmp 59), none, [2, 1, 0, 13, 12, 6, 5, 3, 4, 11, 10, 7, 9, 8]⟩] [46, 47, 48, 49, 50, 51, 52, 53, 54, 55, 56, 57, 58, 59])
          (.cond (.tmp 60)
            (.region false [⟨some 61, .mv (.tmp 8), none, []⟩,
              ⟨some 62, .mv (.tmp 6), none, []⟩,
              ⟨some 63, .mv (.tmp 9), none, []⟩,
              ⟨some 64, .iadS 1 (.tmp 62) (.tmp 63), none, []⟩,
              ⟨some 65, .load1 (.tmp 64), none, []⟩,
              ⟨some 66, .buildSl 1 1 [(.val (.int .i64 0))] [(0, 1, (.tmp 65))], none, []⟩,
              ⟨some 67, .app 1 8 (.tmp 61) (.tmp 66), none, []⟩,
              ⟨some 8, .mv (.tmp 67), none, []⟩] [61, 62, 63, 64, 65, 66, 67])
            .skip))))
       (.region false [⟨some 24, .mv (.tmp 9), none, []⟩,
         ⟨some 25, .bin .add (.tmp 24) (.const (.int .i64 1)), none, []⟩,
         ⟨some 9, .mv (.tmp 25), none, []⟩] [24, 25]))))))
  (.seq
   (.region false [⟨some 68, .mv (.tmp 8), none, []⟩,
     ⟨some 4, .mv (.tmp 68), none, []⟩,
     ⟨some 5, .mv (.const (.int .i64 0)), none, []⟩] [68])
  .ret))))))
set_option maxRecDepth 100000 in
theorem kref12_Slips : IsCode Try.prog 26 69 cref12_Slips [.tmp 4, .tmp 5] :=
  ⟨Try.f26, _, [60, 23, 18, 0, 2, 1, 7, 9, 6, 10, 8, 4, 5], Try.func26, rfl, by decide, rfl, by kernel_rfl, by kernel_rfl⟩
/-- ref12_raw -/
def cref12_raw : ACode :=
  (.seq
   (.region false [⟨some 2, .box (.tmp 0), none, []⟩,
     ⟨some 4, .mv (.const (.int .i64 0)), none, []⟩] [])
  (.seq
   (.region true [⟨some 6, .mv (.tmp 1), none, []⟩,
     ⟨some 7, .fad 0 (.tmp 2), none, []⟩,
     ⟨some 8, .load1 (.tmp 7), none, [1]⟩,
     ⟨some 9, .iadS 1 (.tmp 6) (.tmp 8), none, [0, 2, 1]⟩,
     ⟨some 10, .load1 (.tmp 9), none, [3, 0, 2, 1]⟩,
     ⟨some 11, .fad 1 (.tmp 2), none, []⟩,
     ⟨some 12, .load1 (.tmp 11), none, [5]⟩,
     ⟨some 13, .conv .u64 (.tmp 12), none, [6, 5]⟩,
     ⟨some 14, .bin .shr (.tmp 10) (.tmp 13), none, [4, 3, 0, 2, 1, 7, 6, 5]⟩,
     ⟨some 15, .fad 2 (.tmp 2), none, []⟩,
     ⟨some 16, .load1 (.tmp 15), none, [9]⟩,
     ⟨some 17, .conv .u64 (.tmp 16), none, [10, 9]⟩,
     ⟨some 18, .bin .shl (.const (.int .i64 1)) (.tmp 17), none, [11, 10, 9]⟩,
     ⟨some 19, .bin .sub (.tmp 18) (.const (.int .i64 1)), none, [12, 11, 10, 9]⟩,
     ⟨some 20, .bin .and (.tmp 14) (.tmp 19), none, [8, 4, 3, 0, 2, 1, 7, 6, 5, 13, 12, 11, 10, 9]⟩,
     ⟨some 5, .mv (.tmp 20), none, [14, 8, 4, 3, 0, 2, 1, 7, 6, 5, 13, 12, 11, 10, 9]⟩] [6, 7, 8, 9, 10, 11, 12, 13, 14, 15, 16, 17, 18, 19, 20])
  (.seq
   (.seq
    (.region false [⟨some 21, .fad 3 (.tmp 2), none, []⟩,
      ⟨some 22, .load1 (.tmp 21), none, []⟩,
      ⟨some 23, .mv (.tmp 22), none, []⟩,
      ⟨some 24, .mv (.tmp 5), (some (some 23, true)), []⟩,
      ⟨some 25, .fad 2 (.tmp 2), (some (some 23, true)), []⟩,
      ⟨some 26, .load1 (.tmp 25), (some (some 23, true)), []⟩,
      ⟨some 27, .bin .sub (.tmp 26) (.const (.int .i64 1)), (some (some 23, true)), []⟩,
      ⟨some 28, .conv .u64 (.tmp 27), (some (some 23, true)), []⟩,
      ⟨some 29, .bin .shl (.const (.int .i64 1)) (.tmp 28), (some (some 23, true)), []⟩,
      ⟨some 30, .bin .geq (.tmp 24) (.tmp 29), (some (some 23, true)), []⟩,
      ⟨some 31, .pick (.tmp 23) (.tmp 30) (.const (.bool false)), none, []⟩] [21, 22, 23, 24, 25, 26, 27, 28, 29, 30])
   (.cond (.tmp 31)
     (.region false [⟨some 32, .mv (.tmp 5), none, []⟩,
       ⟨some 33, .fad 2 (.tmp 2), none, []⟩,
       ⟨some 34, .load1 (.tmp 33), none, []⟩,
       ⟨some 35, .conv .u64 (.tmp 34), none, []⟩,
       ⟨some 36, .bin .shl (.const (.int .i64 1)) (.tmp 35), none, []⟩,
       ⟨some 37, .bin .sub (.tmp 32) (.tmp 36), none, []⟩,
       ⟨some 5, .mv (.tmp 37), none, []⟩] [32, 33, 34, 35, 36, 37])
     .skip))
  (.seq
   (.region false [⟨some 38, .mv (.tmp 5), none, []⟩,
     ⟨some 4, .mv (.tmp 38), none, []⟩] [38])
  .ret))))
set_option maxRecDepth 100000 in
theorem kref12_raw : IsCode Try.prog 127 39 cref12_raw [.tmp 4] :=
  ⟨Try.f127, _, [31, 0, 1, 2, 5, 4], Try.func127, rfl, by decide, rfl, by kernel_rfl, by kernel_rfl⟩
/-- ref12_sample -/
def cref12_sample : ACode :=
  (.seq
   (.region false [⟨some 3, .box (.tmp 0), none, []⟩,
     ⟨some 4, .box (.tmp 1), none, []⟩,
     ⟨some 6, .mv (.const (.int .i64 0)), none, []⟩,
     ⟨some 7, .mv (.const (.bool false)), none, []⟩] [])
  (.seq
   (.region false [⟨some 9, .loadN 6 (.tmp 3), none, []⟩,
     ⟨some 10, .mv (.tmp 2), none, []⟩,
     ⟨some 11, .call (.func 73) [(.tmp 9), (.tmp 10)], none, []⟩,
     ⟨some 8, .mv (.tmp 11), none, []⟩] [9, 10, 11])
  (.seq
   (.seq
    (.region true [⟨some 12, .mv (.tmp 8), none, []⟩,
      ⟨some 13, .bin .lss (.tmp 12) (.const (.int .i64 0)), none, [0]⟩,
      ⟨some 14, .mv (.tmp 13), none, [1, 0]⟩,
      ⟨some 15, .mv (.tmp 8), (some (some 14, false)), [2, 1, 0]⟩,
      ⟨some 16, .fad 7 (.tmp 4), (some (some 14, false)), [2, 1, 0]⟩,
      ⟨some 17, .load1 (.tmp 16), (some (some 14, false)), [4, 2, 1, 0]⟩,
      ⟨some 18, .bin .rem (.tmp 15) (.tmp 17), (some (some 14, false)), [3, 2, 1, 0, 5, 4]⟩,
      ⟨some 19, .fad 8 (.tmp 4), (some (some 14, false)), [2, 1, 0]⟩,
      ⟨some 20, .load1 (.tmp 19), (some (some 14, false)), [7, 2, 1, 0]⟩,
      ⟨some 21, .bin .neq (.tmp 18) (.tmp 20), (some (some 14, false)), [6, 3, 2, 1, 0, 5, 4, 8, 7]⟩,
      ⟨some 22, .pick (.tmp 14) (.const (.bool true)) (.tmp 21), none, [2, 1, 0, 9, 6, 3, 5, 4, 8, 7]⟩] [12, 13, 14, 15, 16, 17, 18, 19, 20, 21])
   (.cond (.tmp 22)
     (.seq
      (.region false [⟨some 6, .mv (.const (.int .i64 0)), none, []⟩,
        ⟨some 7, .mv (.const (.bool false)), none, []⟩] [])
     .ret)
     .skip))
  (.seq
   (.region true [⟨some 23, .fad 6 (.tmp 4), none, []⟩,
     ⟨some 24, .load1 (.tmp 23), none, [0]⟩,
     ⟨some 25, .fad 5 (.tmp 4), none, []⟩,
     ⟨some 26, .load1 (.tmp 25), none, [2]⟩,
     ⟨some 27, .bin .mul (.tmp 24) (.tmp 26), none, [1, 0, 3, 2]⟩,
     ⟨some 28, .loadN 9 (.tmp 4), none, []⟩,
     ⟨some 29, .mv (.tmp 2), none, []⟩,
     ⟨some 30, .call (.func 127) [(.tmp 28), (.tmp 29)], none, [5, 6]⟩,
     ⟨some 31, .fad 4 (.tmp 4), none, []⟩,
     ⟨some 32, .load1 (.tmp 31), none, [8]⟩,
     ⟨some 33, .bin .mul (.tmp 30) (.tmp 32), none, [7, 5, 6, 9, 8]⟩,
     ⟨some 34, .bin .add (.tmp 27) (.tmp 33), none, [4, 1, 0, 3, 2, 10, 7, 5, 6, 9, 8]⟩,
     ⟨some 6, .mv (.tmp 34), none, [11, 4, 1, 0, 3, 2, 10, 7, 5, 6, 9, 8]⟩,
     ⟨some 7, .mv (.const (.bool true)), none, [12, 11, 4, 1, 0, 3, 2, 10, 7, 5, 6, 9, 8]⟩] [23, 24, 25, 26, 27, 28, 29, 30, 31, 32, 33, 34])
  .ret))))
set_option maxRecDepth 100000 in
theorem kref12_sample : IsCode Try.prog 96 35 cref12_sample [.tmp 6, .tmp 7] :=
  ⟨Try.f96, _, [22, 0, 1, 3, 2, 8, 4, 6, 7], Try.func96, rfl, by decide, rfl, by kernel_rfl, by kernel_rfl⟩
/-- ref12_Samples -/
def cref12_Samples : ACode :=
  (.seq
   (.region false [⟨some 3, .box (.tmp 0), none, []⟩,
     ⟨some 6, .mv (.const (.slice none 0 0)), none, []⟩] [])
  (.seq
   (.region false [⟨some 7, .mv (.const (.slice none 0 0)), none, []⟩] [])
  (.seq
   (.seq
    (.region false [⟨some 8, .mv (.const (.int .i64 0)), none, []⟩] [])
   (.block 0
     (.loop
       (.seq
        (.seq
         (.region false [⟨some 11, .mv (.tmp 8), none, []⟩,
           ⟨some 12, .mv (.tmp 1), none, []⟩,
           ⟨some 13, .len_ (.tmp 12), none, []⟩,
           ⟨some 14, .bin .lss (.tmp 11) (.tmp 13), none, []⟩] [11, 12, 13])
        (.cond (.tmp 14)
          .skip
          (.exit 0)))
       (.seq
        (.block 1
          (.seq
           (.region true [⟨some 18, .loadN 6 (.tmp 3), none, []⟩,
             ⟨some 19, .fad 5 (.tmp 3), none, []⟩,
             ⟨some 20, .load1 (.tmp 19), none, [1]⟩,
             ⟨some 21, .mv (.tmp 2), none, []⟩,
             ⟨some 22, .iadS 9 (.tmp 20) (.tmp 21), none, [2, 1, 3]⟩,
             ⟨some 23, .loadN 9 (.tmp 22), none, [4, 2, 1, 3]⟩,
             ⟨some 24, .mv (.tmp 1), none, []⟩,
             ⟨some 25, .mv (.tmp 8), none, []⟩,
             ⟨some 26, .iadS 1 (.tmp 24) (.tmp 25), none, [6, 7]⟩,
             ⟨some 27, .load1 (.tmp 26), none, [8, 6, 7]⟩,
             ⟨some 28, .call (.func 96) [(.tmp 18), (.tmp 23), (.tmp 27)], none, [0, 5, 4, 2, 1, 3, 9, 8, 6, 7]⟩,
             ⟨some 17, .mv (.tmp 28), none, [10, 0, 5, 4, 2, 1, 3, 9, 8, 6, 7]⟩,
             ⟨some 29, .ext (.tmp 17) 0, none, [11, 10, 0, 5, 4, 2, 1, 3, 9, 8, 6, 7]⟩,
             ⟨some 30, .ext (.tmp 17) 1, none, [11, 10, 0, 5, 4, 2, 1, 3, 9, 8, 6, 7]⟩,
             ⟨some 9, .mv (.tmp 29), none, [12, 11, 10, 0, 5, 4, 2, 1, 3, 9, 8, 6, 7]⟩,
             ⟨some 10, .mv (.tmp 30), none, [13, 11, 10, 0, 5, 4, 2, 1, 3, 9, 8, 6, 7, 14, 12]⟩] [18, 19, 20, 21, 22, 23, 24, 25, 26, 27, 28, 17, 29, 30])
          (.seq
           (.region false [⟨some 31, .mv (.tmp 10), none, []⟩] [])
          (.cond (.tmp 31)
            (.region false [⟨some 32, .mv (.tmp 7), none, []⟩,
              ⟨some 33, .mv (.tmp 8), none, []⟩,
              ⟨some 34, .mv (.tmp 9), none, []⟩,
              ⟨some 35, .build [(.val (.int .i64 0)), (.val (.int .i64 0))] [(0, 1, (.tmp 33)), (1, 1, (.tmp 34))], none, []⟩,
              ⟨some 36, .buildSl 2 1 [(.val (.int .i64 0)), (.val (.int .i64 0))] [(0, 2, (.tmp 35))], none, []⟩,
              ⟨some 37, .app 2 16 (.tmp 32) (.tmp 36), none, []⟩,
              ⟨some 7, .mv (.tmp 37), none, []⟩] [32, 33, 34, 35, 36, 37])
            .skip))))
       (.region false [⟨some 15, .mv (.tmp 8), none, []⟩,
         ⟨some 16, .bin .add (.tmp 15) (.const (.int .i64 1)), none, []⟩,
         ⟨some 8, .mv (.tmp 16), none, []⟩] [15, 16]))))))
  (.seq
   (.region false [⟨some 38, .mv (.tmp 7), none, []⟩,
     ⟨some 6, .mv (.tmp 38), none, []⟩] [38])
  .ret))))
set_option maxRecDepth 100000 in
theorem kref12_Samples : IsCode Try.prog 70 39 cref12_Samples [.tmp 6] :=
  ⟨Try.f70, _, [31, 14, 0, 8, 1, 3, 2, 10, 7, 9, 6], Try.func70, rfl, by decide, rfl, by kernel_rfl, by kernel_rfl⟩
/-- ref12_field -/
def cref12_field : ACode :=
  (.seq
   (.region false [⟨some 2, .box (.tmp 0), none, []⟩,
     ⟨some 4, .mv (.const (.bool false)), none, []⟩] [])
  (.seq
   (.region false [⟨some 5, .mv (.tmp 1), none, []⟩,
     ⟨some 6, .fad 5 (.tmp 2), none, []⟩,
     ⟨some 7, .load1 (.tmp 6), none, []⟩,
     ⟨some 8, .len_ (.tmp 7), none, []⟩,
     ⟨some 9, .bin .sub (.tmp 8) (.const (.int .i64 1)), none, []⟩,
     ⟨some 10, .call (.func 79) [(.tmp 5), (.const (.int .i64 0)), (.tmp 9)], none, []⟩,
     ⟨some 4, .mv (.tmp 10), none, []⟩] [5, 6, 7, 8, 9, 10])
  .ret))
set_option maxRecDepth 100000 in
theorem kref12_field : IsCode Try.prog 69 11 cref12_field [.tmp 4] :=
  ⟨Try.f69, _, [0, 1, 2, 4], Try.func69, rfl, by decide, rfl, by kernel_rfl, by kernel_rfl⟩
/-- ref12_Read -/
def cref12_Read : ACode :=
  (.seq
   (.region false [⟨some 3, .box (.tmp 0), none, []⟩,
     ⟨some 6, .mv (.const (.slice none 0 0)), none, []⟩,
     ⟨some 7, .mv (.const (.int .i64 0)), none, []⟩] [])
  (.seq
   (.region false [⟨some 9, .loadN 6 (.tmp 3), none, []⟩,
     ⟨some 10, .mv (.tmp 1), none, []⟩,
     ⟨some 11, .call (.func 68) [(.tmp 9), (.tmp 10)], none, []⟩,
     ⟨some 8, .mv (.tmp 11), none, []⟩] [9, 10, 11])
  (.seq
   (.seq
    (.region false [⟨some 12, .mv (.tmp 8), none, []⟩,
      ⟨some 13, .bin .neq (.tmp 12) (.const (.int .i64 0)), none, []⟩] [12])
   (.cond (.tmp 13)
     (.seq
      (.region false [⟨some 14, .mv (.tmp 8), none, []⟩,
        ⟨some 6, .mv (.const (.slice none 0 0)), none, []⟩,
        ⟨some 7, .mv (.tmp 14), none, []⟩] [14])
     .ret)
     .skip))
  (.seq
   (.seq
    (.region false [⟨some 15, .loadN 6 (.tmp 3), none, []⟩,
      ⟨some 16, .mv (.tmp 2), none, []⟩,
      ⟨some 17, .call (.func 69) [(.tmp 15), (.tmp 16)], none, []⟩,
      ⟨some 18, .un .not (.tmp 17), none, []⟩] [15, 16, 17])
   (.cond (.tmp 18)
     (.seq
      (.region false [⟨some 6, .mv (.const (.slice none 0 0)), none, []⟩,
        ⟨some 7, .mv (.const (.int .i64 1)), none, []⟩] [])
     .ret)
     .skip))
  (.seq
   (.region false [⟨some 19, .loadN 6 (.tmp 3), none, []⟩,
     ⟨some 20, .mv (.tmp 1), none, []⟩,
     ⟨some 21, .mv (.tmp 2), none, []⟩,
     ⟨some 22, .call (.func 70) [(.tmp 19), (.tmp 20), (.tmp 21)], none, []⟩,
     ⟨some 6, .mv (.tmp 22), none, []⟩,
     ⟨some 7, .mv (.const (.int .i64 0)), none, []⟩] [19, 20, 21, 22])
  .ret)))))
set_option maxRecDepth 100000 in
theorem kref12_Read : IsCode Try.prog 19 23 cref12_Read [.tmp 6, .tmp 7] :=
  ⟨Try.f19, _, [18, 13, 0, 3, 1, 8, 2, 6, 7], Try.func19, rfl, by decide, rfl, by kernel_rfl, by kernel_rfl⟩
/-- ref12_Peak -/
def cref12_Peak : ACode :=
  (.seq
   (.region false [⟨some 3, .box (.tmp 0), none, []⟩,
     ⟨some 6, .mv (.const (.int .i64 0)), none, []⟩,
     ⟨some 7, .mv (.const (.int .i64 0)), none, []⟩,
     ⟨some 8, .mv (.const (.int .i64 0)), none, []⟩] [])
  (.seq
   (.region false [⟨some 14, .loadN 6 (.tmp 3), none, []⟩,
     ⟨some 15, .mv (.tmp 1), none, []⟩,
     ⟨some 16, .mv (.tmp 2), none, []⟩,
     ⟨some 17, .call (.func 19) [(.tmp 14), (.tmp 15), (.tmp 16)], none, []⟩,
     ⟨some 13, .mv (.tmp 17), none, []⟩,
     ⟨some 18, .ext (.tmp 13) 0, none, []⟩,
     ⟨some 19, .ext (.tmp 13) 1, none, []⟩,
     ⟨some 9, .mv (.tmp 18), none, []⟩,
     ⟨some 10, .mv (.tmp 19), none, []⟩] [14, 15, 16, 17, 13, 18, 19])
  (.seq
   (.seq
    (.region false [⟨some 20, .mv (.tmp 10), none, []⟩,
      ⟨some 21, .bin .neq (.tmp 20) (.const (.int .i64 0)), none, []⟩] [20])
   (.cond (.tmp 21)
     (.seq
      (.region false [⟨some 22, .mv (.tmp 10), none, []⟩,
        ⟨some 6, .mv (.const (.int .i64 0)), none, []⟩,
        ⟨some 7, .mv (.const (.int .i64 0)), none, []⟩,
        ⟨some 8, .mv (.tmp 22), none, []⟩] [22])
     .ret)
     .skip))
  (.seq
   (.seq
    (.region false [⟨some 23, .mv (.tmp 9), none, []⟩,
      ⟨some 24, .len_ (.tmp 23), none, []⟩,
      ⟨some 25, .bin .eql (.tmp 24) (.const (.int .i64 0)), none, []⟩] [23, 24])
   (.cond (.tmp 25)
     (.seq
      (.region false [⟨some 6, .mv (.const (.int .i64 0)), none, []⟩,
        ⟨some 7, .mv (.const (.int .i64 0)), none, []⟩,
        ⟨some 8, .mv (.const (.int .i64 3)), none, []⟩] [])
     .ret)
     .skip))
  (.seq
   (.region false [⟨some 26, .mv (.tmp 9), none, []⟩,
     ⟨some 27, .iadS 2 (.tmp 26) (.const (.int .i64 0)), none, []⟩,
     ⟨some 28, .loadN 2 (.tmp 27), none, []⟩,
     ⟨some 11, .mem [(.val (.int .i64 0)), (.val (.int .i64 0))], none, []⟩,
     ⟨none, .store 2 (.tmp 11) (.tmp 28), none, []⟩] [26, 27, 28])
  (.seq
   (.seq
    (.region false [⟨some 12, .mv (.const (.int .i64 0)), none, []⟩] [])
   (.block 0
     (.loop
       (.seq
        (.seq
         (.region false [⟨some 29, .mv (.tmp 12), none, []⟩,
           ⟨some 30, .mv (.tmp 9), none, []⟩,
           ⟨some 31, .len_ (.tmp 30), none, []⟩,
           ⟨some 32, .bin .lss (.tmp 29) (.tmp 31), none, []⟩] [29, 30, 31])
        (.cond (.tmp 32)
          .skip
          (.exit 0)))
       (.seq
        (.block 1
          (.seq
           (.region true [⟨some 35, .mv (.tmp 9), none, []⟩,
             ⟨some 36, .mv (.tmp 12), none, []⟩,
             ⟨some 37, .iadS 2 (.tmp 35) (.tmp 36), none, [0, 1]⟩,
             ⟨some 38, .iadA 2 1 (.tmp 37) (.const (.int .i64 1)), none, [2, 0, 1]⟩,
             ⟨some 39, .load1 (.tmp 38), none, [3, 2, 0, 1]⟩,
             ⟨some 40, .iadA 2 1 (.tmp 11) (.const (.int .i64 1)), none, []⟩,
             ⟨some 41, .load1 (.tmp 40), none, [5]⟩,
             ⟨some 42, .bin .gtr (.tmp 39) (.tmp 41), none, [4, 3, 2, 0, 1, 6, 5]⟩] [35, 36, 37, 38, 39, 40, 41])
          (.cond (.tmp 42)
            (.region false [⟨some 43, .mv (.tmp 9), none, []⟩,
              ⟨some 44, .mv (.tmp 12), none, []⟩,
              ⟨some 45, .iadS 2 (.tmp 43) (.tmp 44), none, []⟩,
              ⟨some 46, .loadN 2 (.tmp 45), none, []⟩,
              ⟨none, .store 2 (.tmp 11) (.tmp 46), none, []⟩] [43, 44, 45, 46])
            .skip)))
       (.region false [⟨some 33, .mv (.tmp 12), none, []⟩,
         ⟨some 34, .bin .add (.tmp 33) (.const (.int .i64 1)), none, []⟩,
         ⟨some 12, .mv (.tmp 34), none, []⟩] [33, 34]))))))
  (.seq
   (.region true [⟨some 47, .iadA 2 1 (.tmp 11) (.const (.int .i64 0)), none, []⟩,
     ⟨some 48, .load1 (.tmp 47), none, [0]⟩,
     ⟨some 49, .iadA 2 1 (.tmp 11) (.const (.int .i64 1)), none, []⟩,
     ⟨some 50, .load1 (.tmp 49), none, [2]⟩,
     ⟨some 6, .mv (.tmp 48), none, [1, 0]⟩,
     ⟨some 7, .mv (.tmp 50), none, [3, 2, 4, 1, 0]⟩,
     ⟨some 8, .mv (.const (.int .i64 0)), none, [5, 3, 2, 4, 1, 0]⟩] [47, 48, 49, 50])
  .ret)))))))
set_option maxRecDepth 100000 in
theorem kref12_Peak : IsCode Try.prog 21 51 cref12_Peak [.tmp 6, .tmp 7, .tmp 8] :=
  ⟨Try.f21, _, [42, 32, 25, 21, 0, 3, 1, 2, 10, 9, 12, 11, 6, 7, 8], Try.func21, rfl, by decide, rfl, by kernel_rfl, by kernel_rfl⟩
end Go.Proofs.Ytdcodicoclecnaa
/- Boxes as abstract values; what is left of a box without another one. No conditions. -/
namespace Go.Proofs.Ytdcodicoclecnaa
open Go.RowKit Lift

abbrev Bx := List (Int × Int)
def sps (b : Bx) : List (List D) := b.map fun x => [.val (.int .i64 x.1), .val (.int .i64 x.2)]
def scells : Bx → List D
  | [] => []
  | x :: b => .val (.int .i64 x.1) :: .val (.int .i64 x.2) :: scells b
def bcells (l : List Bx) : List D := l.map fun b => .list (sps b)
def lo (b : Bx) (k : Nat) : Int := (b[k]?.getD (0, 0)).1
def hi (b : Bx) (k : Nat) : Int := (b[k]?.getD (0, 0)).2
theorem sps_len (b : Bx) : (sps b).length = b.length := by simp [sps]
theorem sps_all (b : Bx) : (sps b).all (fun x => x.length == 2) = true := by simp [sps]
theorem sps_two (b : Bx) : ∀ e ∈ sps b, e.length = 2 := by intro e he; obtain ⟨x, _, rfl⟩ := List.mem_map.1 he; rfl
theorem sps_flat (b : Bx) : (sps b).flatten = scells b := by
  induction b with
  | nil => rfl
  | cons x b ih => simp [sps, scells] at ih ⊢; exact ih
theorem scells_len (b : Bx) : (scells b).length = b.length * 2 := by
  induction b with
  | nil => rfl
  | cons x b ih => simp [scells, ih]; omega
theorem scells_mem {b : Bx} : ∀ {d : D}, d ∈ scells b → ∃ n, d = .val (.int .i64 n) := by
  induction b with
  | nil => intro d h; simp [scells] at h
  | cons x b ih =>
    intro d h
    simp only [scells, List.mem_cons] at h
    rcases h with rfl | rfl | h
    · exact ⟨_, rfl⟩
    · exact ⟨_, rfl⟩
    · exact ih h
theorem scells_in (b : Bx) : ∀ d ∈ scells b, In (fun _ => False) d := fun d hd => by obtain ⟨n, rfl⟩ := scells_mem hd; exact .val _
theorem bcells_in (l : List Bx) : ∀ d ∈ bcells l, In (fun _ => False) d := by
  intro d hd; obtain ⟨x, _, rfl⟩ := List.mem_map.1 hd; exact .list _
theorem scells_noY (b : Bx) : (scells b).all (noY 9) = true := List.all_eq_true.2 fun d hd => by obtain ⟨n, rfl⟩ := scells_mem hd; rfl
theorem sps_gd (b : Bx) (k : Nat) (h : k < b.length) : (sps b)[k]? = some [.val (.int .i64 (lo b k)), .val (.int .i64 (hi b k))] := by simp [sps, lo, hi, h]
/-! ### what the functions compute -/
structure OkB (b : Bx) : Prop where
  pos : 1 ≤ b.length
  len : b.length ≤ 3
  low : ∀ k, k < b.length → -1000000 ≤ lo b k
  le : ∀ k, k < b.length → lo b k ≤ hi b k
  high : ∀ k, k < b.length → hi b k ≤ 1000000
end Go.Proofs.Ytdcodicoclecnaa
/- The document of record: a frame's subframe, a sample. No conditions. -/
set_option linter.unusedSimpArgs false
set_option linter.unusedVariables false
namespace Go.Proofs.Ytdcodicoclecnaa
open Go Go.RowKit Lift

theorem idx4_at (l : Lay) (x : Int) (k : Nat) (hk : k < 4) (hn : ∀ j, j < k → x ≠ (sync l)[j]?.getD 0) (he : x = (sync l)[k]?.getD 0) : idx4 l x = k := by
  rw [← idx_sync]
  exact idx_at (l := sync l) (by simpa [sync] using hk) (fun j hj h => hn j hj h.symm) he.symm
theorem idx4_no (l : Lay) (x : Int) (hn : ∀ j, j < 4 → x ≠ (sync l)[j]?.getD 0) : idx4 l x = -1 := by
  rw [← idx_sync]
  exact idx_no fun j hj h => hn j (by simpa [sync] using hj) h.symm
set_option maxRecDepth 100000 in
set_option maxHeartbeats 4000000 in
theorem subf_ac (l : Lay) (fr : List Int) (hw : 2 ≤ l.words) (hl : fr.length ≤ maxLen) : AC Try.prog 73 [layD l, .list (ints fr)] [] [] (dI (subF l fr)) := by
  refine kref12_Subframe.ac (n0 := 0) (by simp) ⟨in_layD _ _, .list _, trivial⟩ trivial rfl ?_
  unfold cref12_Subframe layD layC
  have hmax : maxLen = 9223372036854775807 := rfl
  by_cases hlen : (fr.length : Int) = l.words
  case neg =>
    have q : ((fr.length : Int) != l.words) = true := by simpa using hlen
    rw [show subF l fr = -1 from if_neg fun h => hlen h.1]
    (have hg : (987654321 : Nat) - 987654321 = 0 := rfl; have hr := hg; repeat' (first | refine aw_seq ?_ | (refine aw_skip ?_; try simp only [thenQ, blockQ, if_true, if_false, Nat.reduceEqDiff, reduceCtorEq]) | (refine aw_exit ?_; try simp only [thenQ, blockQ, if_true, if_false, Nat.reduceEqDiff, reduceCtorEq]) | refine aw_ret ?_ | refine aw_block ?_ | refine aw_condT rfl ?_ | refine aw_condF rfl ?_ | ((first | refine aw_region ?_ | refine ago_if (by omega) ?_ | skip); simp (config := {maxSteps := 10000000}) (disch := first | exact okYes (by kernel_rfl) | omega) only [thenQ, List.map, Int.reduceNeg, dI, List.length, Nat.zero_add, Nat.reduceAdd, Nat.reduceMul, envOf, ARun_none, AOpRun, aexec, D.isBot, FSt.ev, St.F, ↓eget_h, Bool.false_eq_true, Option.isSome, hget_n, or_self, ↓reduceIte, D.cells, AGo_ok, St.app, putO, eput_c, Nat.reduceBEq, eput_n, cond_false, hups, hput_n, ARun_nil, dropE_c, inL_n, dropE_n, eget_c, ints_len, Option.map, run1, hget_c, beq_self_eq_true, cond_true, List.getElem?_cons_zero, isSh, abin, q, inL_c])))
    all_goals (refine end_to [] [] (by first | exact .inl rfl | exact .inr rfl) rfl (by kernel_rfl) (by kernel_rfl) (by kernel_rfl) ?_ ?_ <;> repeat' (first | exact trivial | exact vr_val _))
  have q : ((fr.length : Int) != l.words) = false := by simpa using hlen
  refine aw_seq (aw_region ?_)
  simp (config := {maxSteps := 10000000}) (disch := first | exact okYes (by kernel_rfl) | omega) only [thenQ, List.map, Int.reduceNeg, dI, List.length, Nat.zero_add, Nat.reduceAdd, Nat.reduceMul, envOf, ARun_none, AOpRun, aexec, D.isBot, FSt.ev, St.F, ↓eget_h, Bool.false_eq_true, Option.isSome, hget_n, or_self, ↓reduceIte, D.cells, AGo_ok, St.app, putO, eput_c, Nat.reduceBEq, eput_n, cond_false, hups, hput_n, ARun_nil, dropE_c, inL_n, dropE_n]
  refine aw_seq (aw_seq (aw_region ?_))
  simp (config := {maxSteps := 10000000}) (disch := first | exact okYes (by kernel_rfl) | omega) only [thenQ, Int.reduceNeg, List.length, Nat.zero_add, Nat.reduceAdd, Nat.reduceMul, ARun_none, AOpRun, aexec, FSt.ev, St.F, eget_c, Nat.reduceBEq, ↓eget_h, cond_false, AGo_ok, St.app, putO, eput_c, eput_n, hups, List.map, ints_len, Option.map, run1, hget_c, beq_self_eq_true, hget_n, cond_true, List.getElem?_cons_zero, isSh, Bool.false_eq_true, ↓reduceIte, abin, q, ARun_nil, dropE_c, inL_c, inL_n, dropE_n]
  refine aw_condF rfl (aw_skip ?_)
  have hall : ∀ k, (∀ j, j < k → wOk (fr[j]?.getD 0) = true) → k = fr.length → fr.all wOk = true := fun k h hk => List.all_eq_true.2 fun x hx => by
    obtain ⟨j, hj, rfl⟩ := List.getElem_of_mem hx
    have := h j (by omega)
    simpa [hj] using this
  by_cases ha : fr.all wOk = true
  case neg =>
    rw [show subF l fr = -1 from if_neg fun h => ha h.2]
    refine aw_seq (aw_seq (aw_region ?_))
    simp (config := {maxSteps := 10000000}) (disch := first | exact okYes (by kernel_rfl) | omega) only [thenQ, Int.reduceNeg, List.length, Nat.zero_add, Nat.reduceMul, Nat.reduceAdd, ARun_none, AOpRun, aexec, FSt.ev, AGo_ok, St.app, putO, eput_c, Nat.reduceBEq, eput_n, cond_false, hups, List.map, ARun_nil, dropE_c, inL_n, dropE_n]
    refine aw_block (aw_loop (fun k : Nat => ⟨[(1, .list (ints fr)), (2, .ptr 0 0), (5, dI k)], [(0, [dI l.words, dI l.s0, dI l.s1, dI l.s2, dI l.s3, .list (fls l.fl)])], 400⟩) (fun k => k ≤ fr.length ∧ ∀ j, j < k → wOk (fr[j]?.getD 0) = true) (fun k => fr.length - k) ⟨0, ⟨by omega, fun j hj => by omega⟩, ?_⟩ ?_)
    · unfold dI
      refine wk_to [] [(0, 0)] (by kernel_rfl) (by kernel_rfl) (by kernel_rfl) (by kernel_rfl) (by kernel_rfl) ?_ ?_ <;> repeat' (first | exact trivial | exact vr_val _ | exact vr_list _ | exact vr_ptr _ _ _ rfl | refine And.intro ⟨_, rfl, .inl ⟨_, rfl, by decide, ?_⟩⟩ ?_ | apply And.intro)
    rintro k ⟨hk, hin⟩
    by_cases hk2 : k < fr.length
    case neg => exact absurd (hall k hin (by omega)) ha
    have g1 := ints_gd fr k hk2
    have fa := from_ac (fr[k]?.getD 0) 0 4095
    rw [wI_w] at fa
    cases he : wOk (fr[k]?.getD 0) with
    | false =>
      rw [he] at fa
      (have hg : (987654321 : Nat) - 987654321 = 0 := rfl; have hr := hg; repeat' (first | refine aw_seq ?_ | (refine aw_skip ?_; try simp only [thenQ, blockQ, if_true, if_false, Nat.reduceEqDiff, reduceCtorEq]) | (refine aw_exit ?_; try simp only [thenQ, blockQ, if_true, if_false, Nat.reduceEqDiff, reduceCtorEq]) | refine aw_ret ?_ | refine aw_block ?_ | refine aw_condT rfl ?_ | refine aw_condF rfl ?_ | (refine aw_cond rfl (fun hg => ?_) (fun hg => ?_) <;> (try (have hq := hg; simp only [Bool.not_eq_true', Bool.not_eq_false', Bool.and_eq_true, Bool.and_eq_false_iff, Bool.or_eq_true, Bool.or_eq_false_iff, decide_eq_true_eq, decide_eq_false_iff_not, bne_iff_ne, beq_iff_eq, beq_eq_false_iff_ne, bne_eq_false_iff_eq, ne_eq, Int.not_lt, Int.not_le, Decidable.not_not] at hq)) <;> (try (have hr := hg; simp only [decide_eq_true_eq, decide_eq_false_iff_not] at hr)) <;> (try (exfalso; omega))) | ((first | refine aw_region ?_ | refine acall0 (fa) ?_ | refine ago_if (by omega) ?_ | skip); simp (config := {maxSteps := 10000000}) (disch := first | exact okYes (by kernel_rfl) | omega) only [thenQ, Int.reduceNeg, dI, List.length, Nat.zero_add, Nat.reduceAdd, Nat.reduceMul, ARun_none, AOpRun, aexec, FSt.ev, St.F, eget_c, Nat.reduceBEq, ↓eget_h, cond_false, AGo_ok, St.app, putO, eput_c, eput_n, hups, List.map, ints_len, isSh, Bool.false_eq_true, ↓reduceIte, Option.map, abin, ARun_nil, dropE_c, inL_c, inL_n, beq_self_eq_true, cond_true, dropE_n, hr, decide_true, Int.natCast_nonneg, ints_all, and_self, opt1, Int.toNat_natCast, g1, run1, List.getElem?_cons_zero, dB, Bool.not_false, blockQ])))
      all_goals (refine end_to [] [] (by first | exact .inl rfl | exact .inr rfl) rfl (by kernel_rfl) (by kernel_rfl) (by kernel_rfl) ?_ ?_ <;> repeat' (first | exact trivial | exact vr_val _))
    | true =>
      rw [he] at fa
      (have hg : (987654321 : Nat) - 987654321 = 0 := rfl; have hr := hg; repeat' (first | refine aw_seq ?_ | (refine aw_skip ?_; try simp only [thenQ, blockQ, if_true, if_false, Nat.reduceEqDiff, reduceCtorEq]) | (refine aw_exit ?_; try simp only [thenQ, blockQ, if_true, if_false, Nat.reduceEqDiff, reduceCtorEq]) | refine aw_ret ?_ | refine aw_block ?_ | refine aw_condT rfl ?_ | refine aw_condF rfl ?_ | (refine aw_cond rfl (fun hg => ?_) (fun hg => ?_) <;> (try (have hq := hg; simp only [Bool.not_eq_true', Bool.not_eq_false', Bool.and_eq_true, Bool.and_eq_false_iff, Bool.or_eq_true, Bool.or_eq_false_iff, decide_eq_true_eq, decide_eq_false_iff_not, bne_iff_ne, beq_iff_eq, beq_eq_false_iff_ne, bne_eq_false_iff_eq, ne_eq, Int.not_lt, Int.not_le, Decidable.not_not] at hq)) <;> (try (have hr := hg; simp only [decide_eq_true_eq, decide_eq_false_iff_not] at hr)) <;> (try (exfalso; omega))) | ((first | refine aw_region ?_ | refine acall0 (fa) ?_ | refine ago_if (by omega) ?_ | skip); simp (config := {maxSteps := 10000000}) (disch := first | exact okYes (by kernel_rfl) | omega) only [thenQ, Int.reduceNeg, dI, List.length, Nat.zero_add, Nat.reduceAdd, Nat.reduceMul, ARun_none, AOpRun, aexec, FSt.ev, St.F, eget_c, Nat.reduceBEq, ↓eget_h, cond_false, AGo_ok, St.app, putO, eput_c, eput_n, hups, List.map, ints_len, isSh, Bool.false_eq_true, ↓reduceIte, Option.map, abin, ARun_nil, dropE_c, inL_c, inL_n, beq_self_eq_true, cond_true, dropE_n, hr, decide_true, Int.natCast_nonneg, ints_all, and_self, opt1, Int.toNat_natCast, g1, run1, List.getElem?_cons_zero, dB, Bool.not_true, fits])))
      refine ⟨k + 1, ⟨by omega, fun j hj => ?_⟩, by omega, ?_⟩
      · rcases (by omega : j < k ∨ j = k) with h | rfl
        · exact hin j h
        · exact he
      · refine wk_to [] [(0, 0)] (by kernel_rfl) (by kernel_rfl) (by kernel_rfl) (by kernel_rfl) (by kernel_rfl) ?_ ?_ <;> repeat' (first | exact trivial | exact vr_val _ | exact vr_list _ | exact vr_ptr _ _ _ rfl | refine And.intro ⟨_, rfl, .inl ⟨_, rfl, by decide, ?_⟩⟩ ?_ | apply And.intro)
  have hsub : subF l fr = idx4 l (fr[0]?.getD 0) := if_pos ⟨hlen, ha⟩
  refine aw_cut ⟨[(1, .list (ints fr)), (2, .ptr 0 0)], [(0, [dI l.words, dI l.s0, dI l.s1, dI l.s2, dI l.s3, .list (fls l.fl)])], 600⟩ ?_ ?_
  · refine aw_seq (aw_region ?_)
    simp (config := {maxSteps := 10000000}) (disch := first | exact okYes (by kernel_rfl) | omega) only [thenQ, Int.reduceNeg, dI, List.length, Nat.zero_add, Nat.reduceMul, Nat.reduceAdd, ARun_none, AOpRun, aexec, FSt.ev, AGo_ok, St.app, putO, eput_c, Nat.reduceBEq, eput_n, cond_false, hups, List.map, ARun_nil, dropE_c, inL_n, dropE_n]
    refine aw_block (aw_loop (fun k : Nat => ⟨[(1, .list (ints fr)), (2, .ptr 0 0), (5, dI k)], [(0, [dI l.words, dI l.s0, dI l.s1, dI l.s2, dI l.s3, .list (fls l.fl)])], 400⟩) (fun k => k ≤ fr.length ) (fun k => fr.length - k) ⟨0, by omega, ?_⟩ ?_)
    · unfold dI
      refine wk_to [] [(0, 0)] (by kernel_rfl) (by kernel_rfl) (by kernel_rfl) (by kernel_rfl) (by kernel_rfl) ?_ ?_ <;> repeat' (first | exact trivial | exact vr_val _ | exact vr_list _ | exact vr_ptr _ _ _ rfl | refine And.intro ⟨_, rfl, .inl ⟨_, rfl, by decide, ?_⟩⟩ ?_ | apply And.intro)
    intro k hk
    by_cases hk2 : k < fr.length
    case neg =>
      obtain rfl : k = fr.length := by omega
      (have hg : (987654321 : Nat) - 987654321 = 0 := rfl; have hr := hg; repeat' (first | refine aw_seq ?_ | (refine aw_skip ?_; try simp only [thenQ, blockQ, if_true, if_false, Nat.reduceEqDiff, reduceCtorEq]) | (refine aw_exit ?_; try simp only [thenQ, blockQ, if_true, if_false, Nat.reduceEqDiff, reduceCtorEq]) | refine aw_ret ?_ | refine aw_block ?_ | refine aw_condT rfl ?_ | refine aw_condF rfl ?_ | (refine aw_cond rfl (fun hg => ?_) (fun hg => ?_) <;> (try (have hq := hg; simp only [Bool.not_eq_true', Bool.not_eq_false', Bool.and_eq_true, Bool.and_eq_false_iff, Bool.or_eq_true, Bool.or_eq_false_iff, decide_eq_true_eq, decide_eq_false_iff_not, bne_iff_ne, beq_iff_eq, beq_eq_false_iff_ne, bne_eq_false_iff_eq, ne_eq, Int.not_lt, Int.not_le, Decidable.not_not] at hq)) <;> (try (have hr := hg; simp only [decide_eq_true_eq, decide_eq_false_iff_not] at hr)) <;> (try (exfalso; omega))) | ((first | refine aw_region ?_ | refine ago_if (by omega) ?_ | skip); simp (config := {maxSteps := 10000000}) (disch := first | exact okYes (by kernel_rfl) | omega) only [thenQ, Int.reduceNeg, dI, List.length, Nat.zero_add, Nat.reduceAdd, Nat.reduceMul, ARun_none, AOpRun, aexec, FSt.ev, St.F, eget_c, Nat.reduceBEq, ↓eget_h, cond_false, AGo_ok, St.app, putO, eput_c, eput_n, hups, List.map, ints_len, isSh, Bool.false_eq_true, ↓reduceIte, Option.map, abin, ARun_nil, dropE_c, inL_c, inL_n, beq_self_eq_true, cond_true, dropE_n, hr, decide_false])))
      refine wk_to [] [(0, 0)] (by kernel_rfl) (by kernel_rfl) (by kernel_rfl) (by kernel_rfl) (by kernel_rfl) ?_ ?_ <;> repeat' (first | exact trivial | exact vr_val _ | exact vr_list _ | exact vr_ptr _ _ _ rfl | refine And.intro ⟨_, rfl, .inl ⟨_, rfl, by decide, ?_⟩⟩ ?_ | apply And.intro)
    have g1 := ints_gd fr k hk2
    have fa := from_ac (fr[k]?.getD 0) 0 4095
    have he : wOk (fr[k]?.getD 0) = true := by
      rw [List.getElem?_eq_getElem hk2]
      exact List.all_eq_true.1 ha _ (List.getElem_mem hk2)
    rw [wI_w, he] at fa
    (have hg : (987654321 : Nat) - 987654321 = 0 := rfl; have hr := hg; repeat' (first | refine aw_seq ?_ | (refine aw_skip ?_; try simp only [thenQ, blockQ, if_true, if_false, Nat.reduceEqDiff, reduceCtorEq]) | (refine aw_exit ?_; try simp only [thenQ, blockQ, if_true, if_false, Nat.reduceEqDiff, reduceCtorEq]) | refine aw_ret ?_ | refine aw_block ?_ | refine aw_condT rfl ?_ | refine aw_condF rfl ?_ | (refine aw_cond rfl (fun hg => ?_) (fun hg => ?_) <;> (try (have hq := hg; simp only [Bool.not_eq_true', Bool.not_eq_false', Bool.and_eq_true, Bool.and_eq_false_iff, Bool.or_eq_true, Bool.or_eq_false_iff, decide_eq_true_eq, decide_eq_false_iff_not, bne_iff_ne, beq_iff_eq, beq_eq_false_iff_ne, bne_eq_false_iff_eq, ne_eq, Int.not_lt, Int.not_le, Decidable.not_not] at hq)) <;> (try (have hr := hg; simp only [decide_eq_true_eq, decide_eq_false_iff_not] at hr)) <;> (try (exfalso; omega))) | ((first | refine aw_region ?_ | refine acall0 (fa) ?_ | refine ago_if (by omega) ?_ | skip); simp (config := {maxSteps := 10000000}) (disch := first | exact okYes (by kernel_rfl) | omega) only [thenQ, Int.reduceNeg, dI, List.length, Nat.zero_add, Nat.reduceAdd, Nat.reduceMul, ARun_none, AOpRun, aexec, FSt.ev, St.F, eget_c, Nat.reduceBEq, ↓eget_h, cond_false, AGo_ok, St.app, putO, eput_c, eput_n, hups, List.map, ints_len, isSh, Bool.false_eq_true, ↓reduceIte, Option.map, abin, ARun_nil, dropE_c, inL_c, inL_n, beq_self_eq_true, cond_true, dropE_n, hr, decide_true, Int.natCast_nonneg, ints_all, and_self, opt1, Int.toNat_natCast, g1, run1, List.getElem?_cons_zero, dB, Bool.not_true, fits])))
    refine ⟨k + 1, by omega, by omega, ?_⟩
    refine wk_to [] [(0, 0)] (by kernel_rfl) (by kernel_rfl) (by kernel_rfl) (by kernel_rfl) (by kernel_rfl) ?_ ?_ <;> repeat' (first | exact trivial | exact vr_val _ | exact vr_list _ | exact vr_ptr _ _ _ rfl | refine And.intro ⟨_, rfl, .inl ⟨_, rfl, by decide, ?_⟩⟩ ?_ | apply And.intro)
  have g0 := ints_gd fr 0 (by omega)
  have hl0 : 0 < fr.length := by omega
  rw [hsub]
  refine aw_seq (aw_seq (aw_region ?_))
  simp (config := {maxSteps := 10000000}) (disch := first | exact okYes (by kernel_rfl) | omega) only [thenQ, Int.reduceNeg, List.length, Nat.zero_add, Nat.reduceMul, Nat.reduceAdd, dI, ARun_none, AOpRun, aexec, FSt.ev, AGo_ok, St.app, putO, eput_c, Nat.reduceBEq, eput_n, cond_false, hups, List.map, ARun_nil, dropE_c, inL_n, dropE_n]
  refine aw_block (aw_loop (fun k : Nat => ⟨[(1, .list (ints fr)), (2, .ptr 0 0), (6, dI k)], [(0, [dI l.words, dI l.s0, dI l.s1, dI l.s2, dI l.s3, .list (fls l.fl)])], 800⟩) (fun k => k ≤ 4 ∧ ∀ j, j < k → fr[0]?.getD 0 ≠ (sync l)[j]?.getD 0) (fun k => 4 - k) ⟨0, ⟨by omega, fun j hj => by omega⟩, ?_⟩ ?_)
  · unfold dI
    refine wk_to [] [(0, 0)] (by kernel_rfl) (by kernel_rfl) (by kernel_rfl) (by kernel_rfl) (by kernel_rfl) ?_ ?_ <;> repeat' (first | exact trivial | exact vr_val _ | exact vr_list _ | exact vr_ptr _ _ _ rfl | refine And.intro ⟨_, rfl, .inl ⟨_, rfl, by decide, ?_⟩⟩ ?_ | apply And.intro)
  rintro k ⟨hk, hin⟩
  by_cases hk2 : k < 4
  case neg =>
    obtain rfl : k = 4 := by omega
    rw [idx4_no l _ hin]
    (have hg : (987654321 : Nat) - 987654321 = 0 := rfl; have hr := hg; repeat' (first | refine aw_seq ?_ | (refine aw_skip ?_; try simp only [thenQ, blockQ, if_true, if_false, Nat.reduceEqDiff, reduceCtorEq]) | (refine aw_exit ?_; try simp only [thenQ, blockQ, if_true, if_false, Nat.reduceEqDiff, reduceCtorEq]) | refine aw_ret ?_ | refine aw_block ?_ | refine aw_condT rfl ?_ | refine aw_condF rfl ?_ | ((first | refine aw_region ?_ | refine ago_if (by omega) ?_ | skip); simp (config := {maxSteps := 10000000}) (disch := first | exact okYes (by kernel_rfl) | omega) only [thenQ, ne_eq, hg, dI, Int.reduceNeg, List.length, Nat.zero_add, Nat.reduceAdd, Nat.reduceMul, cast_lit, ARun_none, AOpRun, aexec, FSt.ev, St.F, eget_c, Nat.reduceBEq, ↓eget_h, cond_false, AGo_ok, St.app, putO, eput_c, eput_n, hups, List.map, isSh, Bool.false_eq_true, ↓reduceIte, Option.map, abin, Int.reduceLT, decide_false, ARun_nil, dropE_c, inL_c, inL_n, beq_self_eq_true, cond_true, dropE_n])))
    all_goals (refine end_to [] [] (by first | exact .inl rfl | exact .inr rfl) rfl (by kernel_rfl) (by kernel_rfl) (by kernel_rfl) ?_ ?_ <;> repeat' (first | exact trivial | exact vr_val _))
  have gs := sync_at l k hk2
  by_cases he : fr[0]?.getD 0 = (sync l)[k]?.getD 0
  · rw [idx4_at l _ k hk2 hin he]
    have q2 : (fr[0]?.getD 0 == (sync l)[k]?.getD 0) = true := by simpa using he
    rcases (by omega : k = 0 ∨ k = 1 ∨ k = 2 ∨ k = 3) with rfl | rfl | rfl | rfl
    all_goals
      simp only [sync, List.getElem?_cons_zero, List.getElem?_cons_succ, Option.getD_some] at q2
      (have hg : (987654321 : Nat) - 987654321 = 0 := rfl; have hr := hg; repeat' (first | refine aw_seq ?_ | (refine aw_skip ?_; try simp only [thenQ, blockQ, if_true, if_false, Nat.reduceEqDiff, reduceCtorEq]) | (refine aw_exit ?_; try simp only [thenQ, blockQ, if_true, if_false, Nat.reduceEqDiff, reduceCtorEq]) | refine aw_ret ?_ | refine aw_block ?_ | refine aw_condT rfl ?_ | refine aw_condF rfl ?_ | ((first | refine aw_region ?_ | refine ago_if (by omega) ?_ | skip); simp (config := {maxSteps := 10000000}) (disch := first | exact okYes (by kernel_rfl) | omega) only [thenQ, ne_eq, Nat.reduceSub, dI, Int.reduceNeg, cast_lit, List.length, Nat.zero_add, Nat.reduceAdd, Nat.reduceMul, ARun_none, AOpRun, aexec, FSt.ev, St.F, eget_c, Nat.reduceBEq, ↓eget_h, cond_false, AGo_ok, St.app, putO, eput_c, eput_n, hups, List.map, isSh, Bool.false_eq_true, ↓reduceIte, Option.map, abin, Int.reduceLT, decide_true, ARun_nil, dropE_c, inL_c, inL_n, beq_self_eq_true, cond_true, dropE_n, Int.le_refl, ints_all, and_self, opt1, Int.toNat_zero, g0, run1, List.getElem?_cons_zero, hget_c, hget_n, List.getElem?_cons_succ, q2, blockQ, Int.reduceLE, Int.reduceToNat])))
      all_goals (refine end_to [] [] (by first | exact .inl rfl | exact .inr rfl) rfl (by kernel_rfl) (by kernel_rfl) (by kernel_rfl) ?_ ?_ <;> repeat' (first | exact trivial | exact vr_val _))
  · have q2 : (fr[0]?.getD 0 == (sync l)[k]?.getD 0) = false := by simpa using he
    have hin2 : ∀ j, j < k + 1 → fr[0]?.getD 0 ≠ (sync l)[j]?.getD 0 := fun j hj => by
      rcases (by omega : j < k ∨ j = k) with h | rfl
      · exact hin j h
      · exact he
    rcases (by omega : k = 0 ∨ k = 1 ∨ k = 2 ∨ k = 3) with rfl | rfl | rfl | rfl
    all_goals
      simp only [sync, List.getElem?_cons_zero, List.getElem?_cons_succ, Option.getD_some] at q2
      (have hg : (987654321 : Nat) - 987654321 = 0 := rfl; have hr := hg; repeat' (first | refine aw_seq ?_ | (refine aw_skip ?_; try simp only [thenQ, blockQ, if_true, if_false, Nat.reduceEqDiff, reduceCtorEq]) | (refine aw_exit ?_; try simp only [thenQ, blockQ, if_true, if_false, Nat.reduceEqDiff, reduceCtorEq]) | refine aw_ret ?_ | refine aw_block ?_ | refine aw_condT rfl ?_ | refine aw_condF rfl ?_ | ((first | refine aw_region ?_ | refine ago_if (by omega) ?_ | skip); simp (config := {maxSteps := 10000000}) (disch := first | exact okYes (by kernel_rfl) | omega) only [thenQ, ne_eq, Nat.reduceSub, dI, Int.reduceNeg, List.length, Nat.zero_add, Nat.reduceAdd, Nat.reduceMul, cast_lit, ARun_none, AOpRun, aexec, FSt.ev, St.F, eget_c, Nat.reduceBEq, ↓eget_h, cond_false, AGo_ok, St.app, putO, eput_c, eput_n, hups, List.map, isSh, Bool.false_eq_true, ↓reduceIte, Option.map, abin, Int.reduceLT, decide_true, ARun_nil, dropE_c, inL_c, inL_n, beq_self_eq_true, cond_true, dropE_n, Int.le_refl, ints_all, and_self, opt1, Int.toNat_zero, g0, run1, List.getElem?_cons_zero, hget_c, hget_n, List.getElem?_cons_succ, q2, Int.reduceAdd, fits, Int.reduceLE, Int.reduceToNat])))
      refine ⟨_, ⟨?_, hin2⟩, ?_, ?_⟩
      · omega
      · omega
      · refine wk_to [] [(0, 0)] (by kernel_rfl) (by kernel_rfl) (by kernel_rfl) (by kernel_rfl) (by kernel_rfl) ?_ ?_ <;> repeat' (first | exact trivial | exact vr_val _ | exact vr_list _ | exact vr_ptr _ _ _ rfl | refine And.intro ⟨_, rfl, .inl ⟨_, rfl, by decide, ?_⟩⟩ ?_ | apply And.intro)
end Go.Proofs.Ytdcodicoclecnaa
/- record: the check of a layout, walked. No conditions. -/
set_option linter.unusedSimpArgs false
set_option linter.unusedVariables false
namespace Go.Proofs.Ytdcodicoclecnaa
open Go.RowKit Lift

set_option maxRecDepth 100000 in
set_option maxHeartbeats 8000000 in
theorem check_ac (l : Lay) (hl : LayIn l) : AC Try.prog 27 [layD l] [] [] (dI (layE l 120)) := by
  refine krecord_Check.ac (n0 := 0) (by simp) ⟨in_layD _ _, trivial⟩ trivial rfl ?_
  unfold crecord_Check layD layC
  have hmax : maxLen = 9223372036854775807 := rfl
  have hnf := hl.nf
  cases h1 : wI l.words 2 32 with
  | false =>
    have e : layE l 120 = 120 := layE_no fun h => by have := wI_f h1; have := h.w1; have := h.w2; omega
    rw [e]
    (have hg : (987654321 : Nat) - 987654321 = 0 := rfl; have hr := hg; repeat' (first | refine aw_seq ?_ | (refine aw_skip ?_; repeat' (first | with_reducible refine thenQ_n ?_ | with_reducible refine blockQ_n ?_ | with_reducible refine thenQ_e ?_ | with_reducible refine blockQ_t ?_ | with_reducible refine blockQ_f (by decide) ?_)) | (refine aw_exit ?_; repeat' (first | with_reducible refine thenQ_n ?_ | with_reducible refine blockQ_n ?_ | with_reducible refine thenQ_e ?_ | with_reducible refine blockQ_t ?_ | with_reducible refine blockQ_f (by decide) ?_)) | refine aw_ret ?_ | refine aw_block ?_ | refine aw_condT rfl ?_ | refine aw_condF rfl ?_ | ((first | refine aw_hide fun K hK => aw_region ?_ | refine acall0 (within_ac _ _ _) ?_ | refine ago_if (by omega) ?_ | skip); simp (config := {maxSteps := 10000000}) (disch := first | exact okYes (by kernel_rfl) | omega) only [List.length, Nat.zero_add, Nat.reduceAdd, Nat.reduceMul, envOf, dI, ARun_none, AOpRun, aexec, D.isBot, FSt.ev, St.F, ↓eget_h, Bool.false_eq_true, Option.isSome, hget_n, or_self, ↓reduceIte, D.cells, AGo_ok, St.app, putO, eput_c, Nat.reduceBEq, eput_n, cond_false, hups, hput_n, List.map, ARun_nil, dropE_c, inL_n, dropE_n, eget_c, Option.map, run1, hget_c, beq_self_eq_true, cond_true, List.getElem?_cons_zero, dB, h1, Bool.not_false, ARun_some, AG_tf, inL_c, thenQ]) | (subst hK; repeat' (first | with_reducible refine thenQ_n ?_ | with_reducible refine blockQ_n ?_ | with_reducible refine thenQ_e ?_ | with_reducible refine blockQ_t ?_ | with_reducible refine blockQ_f (by decide) ?_))))
    all_goals (refine end_to [] [] (by first | exact .inl rfl | exact .inr rfl) rfl (by kernel_rfl) (by kernel_rfl) (by kernel_rfl) ?_ ?_ <;> repeat' (first | exact trivial | exact vr_val _))
  | true =>
  have w1 := wI_t h1
  by_cases h2 : l.fl.length ≤ 16
  case neg =>
    have e : layE l 120 = 120 := layE_no fun h => h2 h.nf
    have q : decide ((l.fl.length : Int) > 16) = true := decide_eq_true (by omega)
    rw [e]
    (have hg : (987654321 : Nat) - 987654321 = 0 := rfl; have hr := hg; repeat' (first | refine aw_seq ?_ | (refine aw_skip ?_; repeat' (first | with_reducible refine thenQ_n ?_ | with_reducible refine blockQ_n ?_ | with_reducible refine thenQ_e ?_ | with_reducible refine blockQ_t ?_ | with_reducible refine blockQ_f (by decide) ?_)) | (refine aw_exit ?_; repeat' (first | with_reducible refine thenQ_n ?_ | with_reducible refine blockQ_n ?_ | with_reducible refine thenQ_e ?_ | with_reducible refine blockQ_t ?_ | with_reducible refine blockQ_f (by decide) ?_)) | refine aw_ret ?_ | refine aw_block ?_ | refine aw_condT rfl ?_ | refine aw_condF rfl ?_ | ((first | refine aw_hide fun K hK => aw_region ?_ | refine acall0 (within_ac _ _ _) ?_ | refine ago_if (by omega) ?_ | skip); simp (config := {maxSteps := 10000000}) (disch := first | exact okYes (by kernel_rfl) | omega) only [List.length, Nat.zero_add, Nat.reduceAdd, Nat.reduceMul, envOf, dI, ARun_none, AOpRun, aexec, D.isBot, FSt.ev, St.F, ↓eget_h, Bool.false_eq_true, Option.isSome, hget_n, or_self, ↓reduceIte, D.cells, AGo_ok, St.app, putO, eput_c, Nat.reduceBEq, eput_n, cond_false, hups, hput_n, List.map, ARun_nil, dropE_c, inL_n, dropE_n, eget_c, Option.map, run1, hget_c, beq_self_eq_true, cond_true, List.getElem?_cons_zero, dB, h1, Bool.not_true, ARun_some, AG_ff, List.getElem?_cons_succ, fls_len, isSh, abin, q, inL_c, thenQ]) | (subst hK; repeat' (first | with_reducible refine thenQ_n ?_ | with_reducible refine blockQ_n ?_ | with_reducible refine thenQ_e ?_ | with_reducible refine blockQ_t ?_ | with_reducible refine blockQ_f (by decide) ?_))))
    all_goals (refine end_to [] [] (by first | exact .inl rfl | exact .inr rfl) rfl (by kernel_rfl) (by kernel_rfl) (by kernel_rfl) ?_ ?_ <;> repeat' (first | exact trivial | exact vr_val _))
  have q2 : decide ((l.fl.length : Int) > 16) = false := decide_eq_false (by omega)
  (have hg : (987654321 : Nat) - 987654321 = 0 := rfl; have hr := hg; repeat' (first | refine aw_seq ?_ | (refine aw_skip ?_; repeat' (first | with_reducible refine thenQ_n ?_ | with_reducible refine blockQ_n ?_ | with_reducible refine thenQ_e ?_ | with_reducible refine blockQ_t ?_ | with_reducible refine blockQ_f (by decide) ?_)) | (refine aw_exit ?_; repeat' (first | with_reducible refine thenQ_n ?_ | with_reducible refine blockQ_n ?_ | with_reducible refine thenQ_e ?_ | with_reducible refine blockQ_t ?_ | with_reducible refine blockQ_f (by decide) ?_)) | refine aw_ret ?_ | refine aw_block ?_ | refine aw_condT rfl ?_ | refine aw_condF rfl ?_ | ((first | refine aw_hide fun K hK => aw_region ?_ | refine acall0 (within_ac _ _ _) ?_ | refine ago_if (by omega) ?_ | skip); simp (config := {maxSteps := 10000000}) (disch := first | exact okYes (by kernel_rfl) | omega) only [List.length, Nat.zero_add, Nat.reduceAdd, Nat.reduceMul, envOf, dI, ARun_none, AOpRun, aexec, D.isBot, FSt.ev, St.F, ↓eget_h, Bool.false_eq_true, Option.isSome, hget_n, or_self, ↓reduceIte, D.cells, AGo_ok, St.app, putO, eput_c, Nat.reduceBEq, eput_n, cond_false, hups, hput_n, List.map, ARun_nil, dropE_c, inL_n, dropE_n, eget_c, Option.map, run1, hget_c, beq_self_eq_true, cond_true, List.getElem?_cons_zero, dB, h1, Bool.not_true, ARun_some, AG_ff, List.getElem?_cons_succ, fls_len, isSh, abin, q2, inL_c, Nat.reduceLeDiff, List.drop, List.take]) | (subst hK; repeat' (first | with_reducible refine thenQ_n ?_ | with_reducible refine blockQ_n ?_ | with_reducible refine thenQ_e ?_ | with_reducible refine blockQ_t ?_ | with_reducible refine blockQ_f (by decide) ?_))))
  refine aw_loop (fun k : Nat => ⟨[(1, .ptr 0 0), (23, .agg [dI l.s0, dI l.s1, dI l.s2, dI l.s3]), (24, dI k)], [(0, layC l)], 100⟩) (fun k => k ≤ 4 ∧ SyncOk l k) (fun k => 4 - k) ⟨0, ⟨by omega, fun j hj => by omega⟩, ?_⟩ ?_
  · refine wk_to [] [(0, 0)] (by kernel_rfl) (by kernel_rfl) (by kernel_rfl) (by kernel_rfl) (by kernel_rfl) ?_ ?_ <;> repeat' (first | exact trivial | exact vr_val _ | exact vr_list _ | exact vr_ptr _ _ _ rfl | apply vr_agg | refine And.intro ⟨_, rfl, .inl ⟨_, rfl, by decide, ?_⟩⟩ ?_ | apply And.intro)
  rintro k ⟨hk, hin⟩
  by_cases hk4 : k < 4
  · have vw := sync_view l k (by omega) (H := hget [(0, layC l)]) rfl
    have hcn := contains_ac ((sync l).take k) ((sync l)[k]?.getD 0) (by simp [sync]; omega)
    have hno := sync_no l k hk4
    have hst := sync_step hk4 hin
    have mm : (0 ≤ idxI ((sync l).take k) ((sync l)[k]?.getD 0)) ↔ (sync l)[k]?.getD 0 ∈ (sync l).take k := idx_mem
    obtain ⟨x, hx⟩ : ∃ x, (sync l)[k]?.getD 0 = x := ⟨_, rfl⟩
    have gx : ([.val (.int .i64 l.s0), .val (.int .i64 l.s1), .val (.int .i64 l.s2), .val (.int .i64 l.s3)] : List D)[k]? = some (.val (.int .i64 x)) := by
      have : ([.val (.int .i64 l.s0), .val (.int .i64 l.s1), .val (.int .i64 l.s2), .val (.int .i64 l.s3)] : List D) = (sync l).map dI := rfl
      have hk' : k < (sync l).length := by simp [sync]; omega
      rw [this, ← hx]; simp [hk', dI]
    rw [hx] at hno hst hcn mm
    obtain ⟨c, hc⟩ : ∃ c, decide (0 ≤ idxI ((sync l).take k) x) = c := ⟨_, rfl⟩
    rw [hc] at hcn
    have ki : (k : Int) < 4 := by omega
    have ki4 : (k : Int) ≤ 4 := by omega
    have l6 : (layC l).length = 6 := rfl
    cases hw : wI x 0 4095 with
    | false =>
      have e : layE l 120 = 120 := layE_no (hno (.inl hw))
      rw [e]
      (have hg : (987654321 : Nat) - 987654321 = 0 := rfl; have hr := hg; repeat' (first | refine aw_seq ?_ | (refine aw_skip ?_; try simp only [thenQ, blockQ, if_true, if_false, Nat.reduceEqDiff, reduceCtorEq]) | (refine aw_exit ?_; try simp only [thenQ, blockQ, if_true, if_false, Nat.reduceEqDiff, reduceCtorEq]) | refine aw_ret ?_ | refine aw_block ?_ | refine aw_condT rfl ?_ | refine aw_condF rfl ?_ | ((first | refine aw_region ?_ | refine acall0 (within_ac _ _ _) ?_ | refine ago_if (by omega) ?_ | skip); simp (config := {maxSteps := 10000000}) (disch := first | exact okYes (by kernel_rfl) | omega) only [thenQ, dI, List.length, Nat.zero_add, Nat.mul_one, Nat.reduceAdd, ARun_none, AOpRun, aexec, FSt.ev, St.F, eget_c, Nat.reduceBEq, ↓eget_h, cond_false, isSh, Bool.false_eq_true, ↓reduceIte, Option.map, abin, ki, decide_true, AGo_ok, St.app, putO, eput_c, eput_n, hups, List.map, ARun_nil, dropE_c, inL_n, dropE_n, Nat.reduceMul, D.isAgg, Int.natCast_nonneg, cast_lit, and_self, opt1, D.cells, Int.toNat_natCast, gx, inL_c, beq_self_eq_true, cond_true, dB, hw, Bool.not_false, ARun_some, AG_tf, blockQ])))
      all_goals (refine end_to [] [] (by first | exact .inl rfl | exact .inr rfl) rfl (by kernel_rfl) (by kernel_rfl) (by kernel_rfl) ?_ ?_ <;> repeat' (first | exact trivial | exact vr_val _))
    | true =>
      cases c with
      | true =>
        have e : layE l 120 = 120 := layE_no (hno (.inr (mm.1 (of_decide_eq_true hc))))
        rw [e]
        (have hg : (987654321 : Nat) - 987654321 = 0 := rfl; have hr := hg; repeat' (first | refine aw_seq ?_ | (refine aw_skip ?_; try simp only [thenQ, blockQ, if_true, if_false, Nat.reduceEqDiff, reduceCtorEq]) | (refine aw_exit ?_; try simp only [thenQ, blockQ, if_true, if_false, Nat.reduceEqDiff, reduceCtorEq]) | refine aw_ret ?_ | refine aw_block ?_ | refine aw_condT rfl ?_ | refine aw_condF rfl ?_ | ((first | refine aw_region ?_ | refine acall0 (within_ac _ _ _) ?_ | refine acall (hcn) [0] ⟨vw, .refl _, trivial⟩ (.inr (.val _)) (by simp only [List.mem_cons, List.not_mem_nil, or_false, forall_eq_or_imp, forall_eq]; first | exact ⟨_, rfl⟩ | exact ⟨⟨_, rfl⟩, ⟨_, rfl⟩⟩) (by kernel_rfl) ?_ | refine ago_if (by omega) ?_ | skip); simp (config := {maxSteps := 10000000}) (disch := first | exact okYes (by kernel_rfl) | omega) only [thenQ, dI, List.length, Nat.zero_add, Nat.mul_one, Nat.reduceAdd, ARun_none, AOpRun, aexec, FSt.ev, St.F, eget_c, Nat.reduceBEq, ↓eget_h, cond_false, isSh, Bool.false_eq_true, ↓reduceIte, Option.map, abin, ki, decide_true, AGo_ok, St.app, putO, eput_c, eput_n, hups, List.map, ARun_nil, dropE_c, inL_n, dropE_n, Nat.reduceMul, D.isAgg, Int.natCast_nonneg, cast_lit, and_self, opt1, D.cells, Int.toNat_natCast, gx, inL_c, beq_self_eq_true, cond_true, dB, hw, Bool.not_true, ARun_some, AG_ff, asI, hget_c, hget_n, Int.le_refl, ki4, l6, Nat.reduceLeDiff, true_or, Int.toNat_zero, Int.sub_zero, blockQ])))
        all_goals (refine end_to [] [] (by first | exact .inl rfl | exact .inr rfl) rfl (by kernel_rfl) (by kernel_rfl) (by kernel_rfl) ?_ ?_ <;> repeat' (first | exact trivial | exact vr_val _))
      | false =>
        (have hg : (987654321 : Nat) - 987654321 = 0 := rfl; have hr := hg; repeat' (first | refine aw_seq ?_ | (refine aw_skip ?_; try simp only [thenQ, blockQ, if_true, if_false, Nat.reduceEqDiff, reduceCtorEq]) | (refine aw_exit ?_; try simp only [thenQ, blockQ, if_true, if_false, Nat.reduceEqDiff, reduceCtorEq]) | refine aw_ret ?_ | refine aw_block ?_ | refine aw_condT rfl ?_ | refine aw_condF rfl ?_ | ((first | refine aw_region ?_ | refine acall0 (within_ac _ _ _) ?_ | refine acall (hcn) [0] ⟨vw, .refl _, trivial⟩ (.inr (.val _)) (by simp only [List.mem_cons, List.not_mem_nil, or_false, forall_eq_or_imp, forall_eq]; first | exact ⟨_, rfl⟩ | exact ⟨⟨_, rfl⟩, ⟨_, rfl⟩⟩) (by kernel_rfl) ?_ | refine ago_if (by omega) ?_ | skip); simp (config := {maxSteps := 10000000}) (disch := first | exact okYes (by kernel_rfl) | omega) only [thenQ, dI, List.length, Nat.zero_add, Nat.mul_one, Nat.reduceAdd, ARun_none, AOpRun, aexec, FSt.ev, St.F, eget_c, Nat.reduceBEq, ↓eget_h, cond_false, isSh, Bool.false_eq_true, ↓reduceIte, Option.map, abin, ki, decide_true, AGo_ok, St.app, putO, eput_c, eput_n, hups, List.map, ARun_nil, dropE_c, inL_n, dropE_n, Nat.reduceMul, D.isAgg, Int.natCast_nonneg, cast_lit, and_self, opt1, D.cells, Int.toNat_natCast, gx, inL_c, beq_self_eq_true, cond_true, dB, hw, Bool.not_true, ARun_some, AG_ff, asI, hget_c, hget_n, Int.le_refl, ki4, l6, Nat.reduceLeDiff, true_or, Int.toNat_zero, Int.sub_zero, fits])))
        refine ⟨k + 1, ⟨by omega, hst hw fun h => of_decide_eq_false hc (mm.2 h)⟩, by omega, ?_⟩
        refine wk_to [] [(0, 0)] (by kernel_rfl) (by kernel_rfl) (by kernel_rfl) (by kernel_rfl) (by kernel_rfl) ?_ ?_ <;> repeat' (first | exact trivial | exact vr_val _ | exact vr_list _ | exact vr_ptr _ _ _ rfl | apply vr_agg | refine And.intro ⟨_, rfl, .inl ⟨_, rfl, by decide, ?_⟩⟩ ?_ | apply And.intro)
  obtain rfl : k = 4 := by omega
  have cF : ∀ k, k < l.fl.length → (fls l.fl)[k]? = some (flC (fAt l k)) := fun k h => fls_gd l.fl k h
  (have hg : (987654321 : Nat) - 987654321 = 0 := rfl; have hr := hg; repeat' (first | refine aw_seq ?_ | (refine aw_skip ?_; repeat' (first | with_reducible refine thenQ_n ?_ | with_reducible refine blockQ_n ?_ | with_reducible refine thenQ_e ?_ | with_reducible refine blockQ_t ?_ | with_reducible refine blockQ_f (by decide) ?_)) | (refine aw_exit ?_; repeat' (first | with_reducible refine thenQ_n ?_ | with_reducible refine blockQ_n ?_ | with_reducible refine thenQ_e ?_ | with_reducible refine blockQ_t ?_ | with_reducible refine blockQ_f (by decide) ?_)) | refine aw_ret ?_ | refine aw_block ?_ | refine aw_condT rfl ?_ | refine aw_condF rfl ?_ | ((first | refine aw_hide fun K hK => aw_region ?_ | refine ago_if (by omega) ?_ | skip); simp (config := {maxSteps := 10000000}) (disch := first | exact okYes (by kernel_rfl) | omega) only [List.length, Nat.zero_add, Nat.reduceMul, Nat.reduceAdd, dI, cast_lit, layC, ARun_none, AOpRun, aexec, FSt.ev, St.F, eget_c, Nat.reduceBEq, ↓eget_h, cond_false, isSh, Bool.false_eq_true, ↓reduceIte, Option.map, abin, Int.reduceLT, decide_false, AGo_ok, St.app, putO, eput_c, eput_n, hups, List.map, ARun_nil, dropE_c, inL_n, dropE_n, run1, hget_c, beq_self_eq_true, hget_n, cond_true, List.getElem?_cons_succ, List.getElem?_cons_zero, fls_len, inL_c]) | (subst hK; repeat' (first | with_reducible refine thenQ_n ?_ | with_reducible refine blockQ_n ?_ | with_reducible refine thenQ_e ?_ | with_reducible refine blockQ_t ?_ | with_reducible refine blockQ_f (by decide) ?_))))
  refine aw_loop (fun k : Nat => ⟨[(1, .ptr 0 0), (40, .list (fls l.fl)), (41, dI l.fl.length), (42, dI k)], [(0, [dI l.words, dI l.s0, dI l.s1, dI l.s2, dI l.s3, .list (fls l.fl)])], 100⟩) (fun k => k ≤ l.fl.length ∧ ∀ j, j < k → FOk l.words (fAt l j)) (fun k => l.fl.length - k) ⟨0, ⟨by omega, fun j hj => by omega⟩, ?_⟩ ?_
  · refine wk_to [] [(0, 0)] (by kernel_rfl) (by kernel_rfl) (by kernel_rfl) (by kernel_rfl) (by kernel_rfl) ?_ ?_ <;> repeat' (first | exact trivial | exact vr_val _ | exact vr_list _ | exact vr_ptr _ _ _ rfl | refine And.intro ⟨_, rfl, .inl ⟨_, rfl, by decide, ?_⟩⟩ ?_ | apply And.intro)
  · rintro k ⟨hk, hfo⟩
    by_cases hk2 : k < l.fl.length
    · have g1 := cF k hk2
      have va := valid_ac l.words (fAt l k) w1 (hl.sz k hk2)
      cases hv : fokB l.words (fAt l k) with
      | false =>
        have e : layE l 120 = 120 := layE_no fun h => by
          have := fok_iff.2 (h.fo k hk2)
          rw [show l.fl[k]?.getD fl0 = fAt l k from rfl, hv] at this
          cases this
        rw [e]
        rw [hv] at va
        (have hg : (987654321 : Nat) - 987654321 = 0 := rfl; have hr := hg; repeat' (first | refine aw_seq ?_ | (refine aw_skip ?_; try simp only [thenQ, blockQ, if_true, if_false, Nat.reduceEqDiff, reduceCtorEq]) | (refine aw_exit ?_; try simp only [thenQ, blockQ, if_true, if_false, Nat.reduceEqDiff, reduceCtorEq]) | refine aw_ret ?_ | refine aw_block ?_ | refine aw_condT rfl ?_ | refine aw_condF rfl ?_ | (refine aw_cond rfl (fun hg => ?_) (fun hg => ?_) <;> (try (have hq := hg; simp only [Bool.not_eq_true', Bool.not_eq_false', Bool.and_eq_true, Bool.and_eq_false_iff, Bool.or_eq_true, Bool.or_eq_false_iff, decide_eq_true_eq, decide_eq_false_iff_not, bne_iff_ne, beq_iff_eq, beq_eq_false_iff_ne, bne_eq_false_iff_eq, ne_eq, Int.not_lt, Int.not_le, Decidable.not_not] at hq)) <;> (try (have hr := hg; simp only [decide_eq_true_eq, decide_eq_false_iff_not] at hr)) <;> (try (exfalso; omega))) | ((first | refine aw_region ?_ | refine acall0 (va) ?_ | refine ago_if (by omega) ?_ | skip); simp (config := {maxSteps := 10000000}) (disch := first | exact okYes (by kernel_rfl) | omega) only [thenQ, dI, List.length, Nat.zero_add, Nat.mul_one, Nat.reduceAdd, ARun_none, AOpRun, aexec, FSt.ev, St.F, eget_c, Nat.reduceBEq, ↓eget_h, cond_false, isSh, Bool.false_eq_true, ↓reduceIte, Option.map, abin, AGo_ok, St.app, putO, eput_c, eput_n, hups, List.map, ARun_nil, dropE_c, inL_n, dropE_n, Nat.reduceMul, hr, decide_true, Int.natCast_nonneg, fls_all, and_self, opt1, Int.toNat_natCast, g1, flC, dB, Nat.reduceLeDiff, List.take, Option.isSome, hget_c, hget_n, hput_c, hput_n, ↓hget_h, D.isBot, D.cells, List.all, D.leaf, Bool.and_true, splice, List.nil_append, List.drop, List.append_nil, beq_self_eq_true, cond_true, inL_c, fillD, ne_eq, not_true_eq_false, Nat.reduceGT, or_self, run1, List.getElem?_cons_zero, Bool.not_false, blockQ])))
        all_goals (refine end_to [] [] (by first | exact .inl rfl | exact .inr rfl) rfl (by kernel_rfl) (by kernel_rfl) (by kernel_rfl) ?_ ?_ <;> repeat' (first | exact trivial | exact vr_val _))
      | true =>
        rw [hv] at va
        (have hg : (987654321 : Nat) - 987654321 = 0 := rfl; have hr := hg; repeat' (first | refine aw_seq ?_ | (refine aw_skip ?_; try simp only [thenQ, blockQ, if_true, if_false, Nat.reduceEqDiff, reduceCtorEq]) | (refine aw_exit ?_; try simp only [thenQ, blockQ, if_true, if_false, Nat.reduceEqDiff, reduceCtorEq]) | refine aw_ret ?_ | refine aw_block ?_ | refine aw_condT rfl ?_ | refine aw_condF rfl ?_ | (refine aw_cond rfl (fun hg => ?_) (fun hg => ?_) <;> (try (have hq := hg; simp only [Bool.not_eq_true', Bool.not_eq_false', Bool.and_eq_true, Bool.and_eq_false_iff, Bool.or_eq_true, Bool.or_eq_false_iff, decide_eq_true_eq, decide_eq_false_iff_not, bne_iff_ne, beq_iff_eq, beq_eq_false_iff_ne, bne_eq_false_iff_eq, ne_eq, Int.not_lt, Int.not_le, Decidable.not_not] at hq)) <;> (try (have hr := hg; simp only [decide_eq_true_eq, decide_eq_false_iff_not] at hr)) <;> (try (exfalso; omega))) | ((first | refine aw_region ?_ | refine acall0 (va) ?_ | refine ago_if (by omega) ?_ | skip); simp (config := {maxSteps := 10000000}) (disch := first | exact okYes (by kernel_rfl) | omega) only [thenQ, dI, List.length, Nat.zero_add, Nat.mul_one, Nat.reduceAdd, ARun_none, AOpRun, aexec, FSt.ev, St.F, eget_c, Nat.reduceBEq, ↓eget_h, cond_false, isSh, Bool.false_eq_true, ↓reduceIte, Option.map, abin, AGo_ok, St.app, putO, eput_c, eput_n, hups, List.map, ARun_nil, dropE_c, inL_n, dropE_n, Nat.reduceMul, hr, decide_true, Int.natCast_nonneg, fls_all, and_self, opt1, Int.toNat_natCast, g1, flC, dB, Nat.reduceLeDiff, List.take, Option.isSome, hget_c, hget_n, hput_c, hput_n, ↓hget_h, D.isBot, D.cells, List.all, D.leaf, Bool.and_true, splice, List.nil_append, List.drop, List.append_nil, beq_self_eq_true, cond_true, inL_c, fillD, ne_eq, not_true_eq_false, Nat.reduceGT, or_self, run1, List.getElem?_cons_zero, Bool.not_true, fits])))
        refine ⟨k + 1, ⟨by omega, fun j hj => ?_⟩, by omega, ?_⟩
        · rcases (by omega : j < k ∨ j = k) with h | rfl
          · exact hfo j h
          · exact fok_iff.1 hv
        · refine wk_to [] [(0, 0)] (by kernel_rfl) (by kernel_rfl) (by kernel_rfl) (by kernel_rfl) (by kernel_rfl) ?_ ?_ <;> repeat' (first | exact trivial | exact vr_val _ | exact vr_list _ | exact vr_ptr _ _ _ rfl | refine And.intro ⟨_, rfl, .inl ⟨_, rfl, by decide, ?_⟩⟩ ?_ | apply And.intro)
    · obtain rfl : k = l.fl.length := by omega
      have hF : ∀ j, j < l.fl.length → FOk l.words (fAt l j) := hfo
      (have hg : (987654321 : Nat) - 987654321 = 0 := rfl; have hr := hg; repeat' (first | refine aw_seq ?_ | (refine aw_skip ?_; repeat' (first | with_reducible refine thenQ_n ?_ | with_reducible refine blockQ_n ?_ | with_reducible refine thenQ_e ?_ | with_reducible refine blockQ_t ?_ | with_reducible refine blockQ_f (by decide) ?_)) | (refine aw_exit ?_; repeat' (first | with_reducible refine thenQ_n ?_ | with_reducible refine blockQ_n ?_ | with_reducible refine thenQ_e ?_ | with_reducible refine blockQ_t ?_ | with_reducible refine blockQ_f (by decide) ?_)) | refine aw_ret ?_ | refine aw_block ?_ | refine aw_condT rfl ?_ | refine aw_condF rfl ?_ | (refine aw_cond rfl (fun hg => ?_) (fun hg => ?_) <;> (try (have hq := hg; simp only [Bool.not_eq_true', Bool.not_eq_false', Bool.and_eq_true, Bool.and_eq_false_iff, Bool.or_eq_true, Bool.or_eq_false_iff, decide_eq_true_eq, decide_eq_false_iff_not, bne_iff_ne, beq_iff_eq, beq_eq_false_iff_ne, bne_eq_false_iff_eq, ne_eq, Int.not_lt, Int.not_le, Decidable.not_not] at hq)) <;> (try (have hr := hg; simp only [decide_eq_true_eq, decide_eq_false_iff_not] at hr)) <;> (try (exfalso; omega))) | ((first | refine aw_hide fun K hK => aw_region ?_ | refine ago_if (by omega) ?_ | skip); simp (config := {maxSteps := 10000000}) (disch := first | exact okYes (by kernel_rfl) | omega) only [List.length, Nat.zero_add, Nat.reduceMul, Nat.reduceAdd, dI, ARun_none, AOpRun, aexec, FSt.ev, St.F, eget_c, Nat.reduceBEq, ↓eget_h, cond_false, isSh, Bool.false_eq_true, ↓reduceIte, Option.map, abin, AGo_ok, St.app, putO, eput_c, eput_n, hups, List.map, ARun_nil, dropE_c, inL_n, dropE_n, hr, decide_false]) | (subst hK; repeat' (first | with_reducible refine thenQ_n ?_ | with_reducible refine blockQ_n ?_ | with_reducible refine thenQ_e ?_ | with_reducible refine blockQ_t ?_ | with_reducible refine blockQ_f (by decide) ?_))))
      refine aw_loop (fun s : Nat => ⟨[(1, .ptr 0 0), (53, dI s)], [(0, [dI l.words, dI l.s0, dI l.s1, dI l.s2, dI l.s3, .list (fls l.fl)])], 100⟩) (fun s => s ≤ 4 ∧ ∀ t : Nat, t < s → UsdOk l t l.fl.length) (fun s => 4 - s) ⟨0, ⟨by omega, fun j hj => by omega⟩, ?_⟩ ?_
      · refine wk_to [] [(0, 0)] (by kernel_rfl) (by kernel_rfl) (by kernel_rfl) (by kernel_rfl) (by kernel_rfl) ?_ ?_ <;> repeat' (first | exact trivial | exact vr_val _ | exact vr_list _ | exact vr_ptr _ _ _ rfl | refine And.intro ⟨_, rfl, .inl ⟨_, rfl, by decide, ?_⟩⟩ ?_ | apply And.intro)
      rintro s ⟨hs, hus⟩
      by_cases hs4 : s < 4
      case neg =>
        obtain rfl : s = 4 := by omega
        have e : layE l 120 = 0 := layE_ok ⟨w1.1, w1.2, h2, fun k hk => (hin k hk).1, fun i hi k hk => (hin i hi).2 k hk, hF, fun i hi k hk s hs h3 h4 => hus s hs i hi k hk h3 h4⟩
        rw [e]
        (have hg : (987654321 : Nat) - 987654321 = 0 := rfl; have hr := hg; repeat' (first | refine aw_seq ?_ | (refine aw_skip ?_; repeat' (first | with_reducible refine thenQ_n ?_ | with_reducible refine blockQ_n ?_ | with_reducible refine thenQ_e ?_ | with_reducible refine blockQ_t ?_ | with_reducible refine blockQ_f (by decide) ?_)) | (refine aw_exit ?_; repeat' (first | with_reducible refine thenQ_n ?_ | with_reducible refine blockQ_n ?_ | with_reducible refine thenQ_e ?_ | with_reducible refine blockQ_t ?_ | with_reducible refine blockQ_f (by decide) ?_)) | refine aw_ret ?_ | refine aw_block ?_ | refine aw_condT rfl ?_ | refine aw_condF rfl ?_ | ((first | refine aw_hide fun K hK => aw_region ?_ | refine ago_if (by omega) ?_ | skip); simp (config := {maxSteps := 10000000}) (disch := first | exact okYes (by kernel_rfl) | omega) only [List.length, Nat.zero_add, Nat.reduceMul, Nat.reduceAdd, dI, cast_lit, ARun_none, AOpRun, aexec, FSt.ev, St.F, eget_c, Nat.reduceBEq, ↓eget_h, cond_false, isSh, Bool.false_eq_true, ↓reduceIte, Option.map, abin, Int.reduceLT, decide_false, AGo_ok, St.app, putO, eput_c, eput_n, hups, List.map, ARun_nil, dropE_c, inL_n, dropE_n]) | (subst hK; repeat' (first | with_reducible refine thenQ_n ?_ | with_reducible refine blockQ_n ?_ | with_reducible refine thenQ_e ?_ | with_reducible refine blockQ_t ?_ | with_reducible refine blockQ_f (by decide) ?_))))
        all_goals (refine end_to [] [] (by first | exact .inl rfl | exact .inr rfl) rfl (by kernel_rfl) (by kernel_rfl) (by kernel_rfl) ?_ ?_ <;> repeat' (first | exact trivial | exact vr_val _))
      have ki : (s : Int) < 4 := by omega
      have hrep : (List.replicate l.words.toNat [D.val (.int .i64 0)]).flatten = icells (usd s l 0) := by rw [rep_ic, usd_zero]
      (have hg : (987654321 : Nat) - 987654321 = 0 := rfl; have hr := hg; repeat' (first | refine aw_seq ?_ | (refine aw_skip ?_; repeat' (first | with_reducible refine thenQ_n ?_ | with_reducible refine blockQ_n ?_ | with_reducible refine thenQ_e ?_ | with_reducible refine blockQ_t ?_ | with_reducible refine blockQ_f (by decide) ?_)) | (refine aw_exit ?_; repeat' (first | with_reducible refine thenQ_n ?_ | with_reducible refine blockQ_n ?_ | with_reducible refine thenQ_e ?_ | with_reducible refine blockQ_t ?_ | with_reducible refine blockQ_f (by decide) ?_)) | refine aw_ret ?_ | refine aw_block ?_ | refine aw_condT rfl ?_ | refine aw_condF rfl ?_ | ((first | refine aw_hide fun K hK => aw_region ?_ | refine ago_if (by omega) ?_ | skip); simp (config := {maxSteps := 10000000}) (disch := first | exact okYes (by kernel_rfl) | omega) only [List.length, Nat.zero_add, Nat.reduceMul, Nat.reduceAdd, dI, ARun_none, AOpRun, aexec, FSt.ev, St.F, eget_c, Nat.reduceBEq, ↓eget_h, cond_false, isSh, Bool.false_eq_true, ↓reduceIte, Option.map, abin, ki, decide_true, AGo_ok, St.app, putO, eput_c, eput_n, hups, List.map, ARun_nil, dropE_c, inL_n, dropE_n, inL_c, beq_self_eq_true, cond_true, run1, hget_c, hget_n, List.getElem?_cons_zero, cast_lit, Option.isSome, and_true, true_and, hrep, hput_c, hput_n, List.getElem?_cons_succ, fls_len]) | (subst hK; repeat' (first | with_reducible refine thenQ_n ?_ | with_reducible refine blockQ_n ?_ | with_reducible refine thenQ_e ?_ | with_reducible refine blockQ_t ?_ | with_reducible refine blockQ_f (by decide) ?_))))
      refine aw_loop (fun k : Nat => ⟨[(1, .ptr 0 0), (7, dI s), (8, .vec 200 l.words.toNat 1), (53, dI s), (60, .list (fls l.fl)), (61, dI l.fl.length), (62, dI k)], [(0, [dI l.words, dI l.s0, dI l.s1, dI l.s2, dI l.s3, .list (fls l.fl)]), (200, icells (usd s l k))], 300⟩) (fun k => k ≤ l.fl.length ∧ UsdOk l s k) (fun k => l.fl.length - k) ⟨0, ⟨by omega, fun i hi => by omega⟩, ?_⟩ ?_
      · refine wk_to [] [(0, 0), (200, 140)] (by kernel_rfl) (by kernel_rfl) (by kernel_rfl) (by kernel_rfl) (by kernel_rfl) ?_ ?_ <;> repeat' (first | exact trivial | exact vr_val _ | exact vr_list _ | exact vr_vec _ _ _ _ rfl | exact vr_ptr _ _ _ rfl | refine And.intro ⟨_, rfl, .inl ⟨_, rfl, by decide, ?_⟩⟩ ?_ | apply And.intro | exact vrl_flat _ (by first | exact icells_in _ | exact rcells_in _ | exact scells_in _ | exact bcells_in _ | assumption))
      rintro k ⟨hk, huk⟩
      by_cases hk2 : k < l.fl.length
      case neg =>
        obtain rfl : k = l.fl.length := by omega
        (have hg : (987654321 : Nat) - 987654321 = 0 := rfl; have hr := hg; repeat' (first | refine aw_seq ?_ | (refine aw_skip ?_; repeat' (first | with_reducible refine thenQ_n ?_ | with_reducible refine blockQ_n ?_ | with_reducible refine thenQ_e ?_ | with_reducible refine blockQ_t ?_ | with_reducible refine blockQ_f (by decide) ?_)) | (refine aw_exit ?_; repeat' (first | with_reducible refine thenQ_n ?_ | with_reducible refine blockQ_n ?_ | with_reducible refine thenQ_e ?_ | with_reducible refine blockQ_t ?_ | with_reducible refine blockQ_f (by decide) ?_)) | refine aw_ret ?_ | refine aw_block ?_ | refine aw_condT rfl ?_ | refine aw_condF rfl ?_ | (refine aw_cond rfl (fun hg => ?_) (fun hg => ?_) <;> (try (have hq := hg; simp only [Bool.not_eq_true', Bool.not_eq_false', Bool.and_eq_true, Bool.and_eq_false_iff, Bool.or_eq_true, Bool.or_eq_false_iff, decide_eq_true_eq, decide_eq_false_iff_not, bne_iff_ne, beq_iff_eq, beq_eq_false_iff_ne, bne_eq_false_iff_eq, ne_eq, Int.not_lt, Int.not_le, Decidable.not_not] at hq)) <;> (try (have hr := hg; simp only [decide_eq_true_eq, decide_eq_false_iff_not] at hr)) <;> (try (exfalso; omega))) | ((first | refine aw_hide fun K hK => aw_region ?_ | refine ago_if (by omega) ?_ | skip); simp (config := {maxSteps := 10000000}) (disch := first | exact okYes (by kernel_rfl) | omega) only [List.length, Nat.zero_add, Nat.reduceMul, Nat.reduceAdd, dI, ARun_none, AOpRun, aexec, FSt.ev, St.F, eget_c, Nat.reduceBEq, ↓eget_h, cond_false, isSh, Bool.false_eq_true, ↓reduceIte, Option.map, abin, AGo_ok, St.app, putO, eput_c, eput_n, hups, List.map, ARun_nil, dropE_c, inL_n, dropE_n, hr, decide_false, fits, beq_self_eq_true, cond_true, inL_c]) | (subst hK; repeat' (first | with_reducible refine thenQ_n ?_ | with_reducible refine blockQ_n ?_ | with_reducible refine thenQ_e ?_ | with_reducible refine blockQ_t ?_ | with_reducible refine blockQ_f (by decide) ?_))))
        refine ⟨s + 1, ⟨by omega, fun t ht => ?_⟩, by omega, ?_⟩
        · rcases (by omega : t < s ∨ t = s) with h | rfl
          · exact hus t h
          · exact huk
        · refine wk_to [] [(0, 0)] (by kernel_rfl) (by kernel_rfl) (by kernel_rfl) (by kernel_rfl) (by kernel_rfl) ?_ ?_ <;> repeat' (first | exact trivial | exact vr_val _ | exact vr_list _ | exact vr_ptr _ _ _ rfl | refine And.intro ⟨_, rfl, .inl ⟨_, rfl, by decide, ?_⟩⟩ ?_ | apply And.intro)
      have g1 := cF k hk2
      have hf := hF k hk2
      have iac := in_sub_ac hf s
      by_cases hi : inSub (fAt l k) s
      case neg =>
        rw [inB_f hi] at iac
        have eu := usd_no s l k hi
        (have hg : (987654321 : Nat) - 987654321 = 0 := rfl; have hr := hg; repeat' (first | refine aw_seq ?_ | (refine aw_skip ?_; repeat' (first | with_reducible refine thenQ_n ?_ | with_reducible refine blockQ_n ?_ | with_reducible refine thenQ_e ?_ | with_reducible refine blockQ_t ?_ | with_reducible refine blockQ_f (by decide) ?_)) | (refine aw_exit ?_; repeat' (first | with_reducible refine thenQ_n ?_ | with_reducible refine blockQ_n ?_ | with_reducible refine thenQ_e ?_ | with_reducible refine blockQ_t ?_ | with_reducible refine blockQ_f (by decide) ?_)) | refine aw_ret ?_ | refine aw_block ?_ | refine aw_condT rfl ?_ | refine aw_condF rfl ?_ | (refine aw_cond rfl (fun hg => ?_) (fun hg => ?_) <;> (try (have hq := hg; simp only [Bool.not_eq_true', Bool.not_eq_false', Bool.and_eq_true, Bool.and_eq_false_iff, Bool.or_eq_true, Bool.or_eq_false_iff, decide_eq_true_eq, decide_eq_false_iff_not, bne_iff_ne, beq_iff_eq, beq_eq_false_iff_ne, bne_eq_false_iff_eq, ne_eq, Int.not_lt, Int.not_le, Decidable.not_not] at hq)) <;> (try (have hr := hg; simp only [decide_eq_true_eq, decide_eq_false_iff_not] at hr)) <;> (try (exfalso; omega))) | ((first | refine aw_hide fun K hK => aw_region ?_ | refine acall0 (iac) ?_ | refine ago_if (by omega) ?_ | skip); simp (config := {maxSteps := 10000000}) (disch := first | exact okYes (by kernel_rfl) | omega) only [List.length, Nat.zero_add, Nat.mul_one, Nat.reduceAdd, dI, ARun_none, AOpRun, aexec, FSt.ev, St.F, eget_c, Nat.reduceBEq, ↓eget_h, cond_false, isSh, Bool.false_eq_true, ↓reduceIte, Option.map, abin, AGo_ok, St.app, putO, eput_c, eput_n, hups, List.map, ARun_nil, dropE_c, inL_n, dropE_n, Nat.reduceMul, hr, decide_true, Int.natCast_nonneg, fls_all, and_self, opt1, Int.toNat_natCast, g1, flC, dB, Nat.reduceLeDiff, List.take, Option.isSome, hget_c, hget_n, hput_c, hput_n, ↓hget_h, D.isBot, D.cells, List.all, D.leaf, Bool.and_true, splice, List.nil_append, List.drop, List.append_nil, beq_self_eq_true, cond_true, inL_c, fillD, ne_eq, not_true_eq_false, Nat.reduceGT, or_self, fits]) | (subst hK; repeat' (first | with_reducible refine thenQ_n ?_ | with_reducible refine blockQ_n ?_ | with_reducible refine thenQ_e ?_ | with_reducible refine blockQ_t ?_ | with_reducible refine blockQ_f (by decide) ?_))))
        refine ⟨k + 1, ⟨by omega, fun i hik j hj h3 h4 => ?_⟩, by omega, ?_⟩
        · rcases (by omega : i < k ∨ i = k) with h | rfl
          · exact huk i h j hj h3 h4
          · exact absurd h3 hi
        · rw [eu]
          refine wk_to [] [(0, 0), (200, 200)] (by kernel_rfl) (by kernel_rfl) (by kernel_rfl) (by kernel_rfl) (by kernel_rfl) ?_ ?_ <;> repeat' (first | exact trivial | exact vr_val _ | exact vr_list _ | exact vr_vec _ _ _ _ rfl | exact vr_ptr _ _ _ rfl | refine And.intro ⟨_, rfl, .inl ⟨_, rfl, by decide, ?_⟩⟩ ?_ | apply And.intro | exact vrl_flat _ (by first | exact icells_in _ | exact rcells_in _ | exact scells_in _ | exact bcells_in _ | assumption))
      rw [inB_t hi] at iac
      have mac := mask_ac hf
      have hw0 : 0 ≤ (fAt l k).word := by have := hf.w1; omega
      have hw1 : (fAt l k).word < (l.words.toNat : Int) := by have := hf.w2; omega
      have hwn : (fAt l k).word.toNat < l.words.toNat := by omega
      have hwi : (((fAt l k).word.toNat : Nat) : Int) = (fAt l k).word := by omega
      have lu := usd_len s l k
      have gu := ic_gd (usd s l k) (fAt l k).word.toNat (by omega)
      rw [usd_get s l k _ hwn, hwi] at gu
      have ts := ic_t (usd s l k) (fAt l k).word.toNat ((orM s l (fAt l k).word k ||| mskF (fAt l k) : Nat) : Int) (by omega)
      rw [← usd_in s l k hi hw0] at ts
      have ol := orM_lt s l (fAt l k).word hF k (by omega)
      have ml := mskF_lt hf
      have an := and_nat (orM s l (fAt l k).word k) (mskF (fAt l k)) (by omega) (by omega)
      have on := or_nat (orM s l (fAt l k).word k) (mskF (fAt l k)) (by omega) (by omega)
      have cf := orM_conf (s := s) hF hk2
      by_cases hz : orM s l (fAt l k).word k &&& mskF (fAt l k) = 0
      case neg =>
        have q : ((((orM s l (fAt l k).word k &&& mskF (fAt l k) : Nat) : Int)) != 0) = true := by simp only [bne_iff_ne]; omega
        have e : layE l 120 = 120 := layE_no fun h => hz (cf.2 fun j hj h4 => h.ov k hk2 j hj s hs4 hi h4)
        rw [e]
        (have hg : (987654321 : Nat) - 987654321 = 0 := rfl; have hr := hg; repeat' (first | refine aw_seq ?_ | (refine aw_skip ?_; repeat' (first | with_reducible refine thenQ_n ?_ | with_reducible refine blockQ_n ?_ | with_reducible refine thenQ_e ?_ | with_reducible refine blockQ_t ?_ | with_reducible refine blockQ_f (by decide) ?_)) | (refine aw_exit ?_; repeat' (first | with_reducible refine thenQ_n ?_ | with_reducible refine blockQ_n ?_ | with_reducible refine thenQ_e ?_ | with_reducible refine blockQ_t ?_ | with_reducible refine blockQ_f (by decide) ?_)) | refine aw_ret ?_ | refine aw_block ?_ | refine aw_condT rfl ?_ | refine aw_condF rfl ?_ | (refine aw_cond rfl (fun hg => ?_) (fun hg => ?_) <;> (try (have hq := hg; simp only [Bool.not_eq_true', Bool.not_eq_false', Bool.and_eq_true, Bool.and_eq_false_iff, Bool.or_eq_true, Bool.or_eq_false_iff, decide_eq_true_eq, decide_eq_false_iff_not, bne_iff_ne, beq_iff_eq, beq_eq_false_iff_ne, bne_eq_false_iff_eq, ne_eq, Int.not_lt, Int.not_le, Decidable.not_not] at hq)) <;> (try (have hr := hg; simp only [decide_eq_true_eq, decide_eq_false_iff_not] at hr)) <;> (try (exfalso; omega))) | ((first | refine aw_hide fun K hK => aw_region ?_ | refine acall0 (iac) ?_ | refine acall0 (mac) ?_ | refine ago_if (by omega) ?_ | skip); simp (config := {maxSteps := 10000000}) (disch := first | exact okYes (by kernel_rfl) | omega) only [List.length, Nat.zero_add, Nat.mul_one, Nat.reduceAdd, dI, ARun_none, AOpRun, aexec, FSt.ev, St.F, eget_c, Nat.reduceBEq, ↓eget_h, cond_false, isSh, Bool.false_eq_true, ↓reduceIte, Option.map, abin, AGo_ok, St.app, putO, eput_c, eput_n, hups, List.map, ARun_nil, dropE_c, inL_n, dropE_n, Nat.reduceMul, hr, decide_true, Int.natCast_nonneg, fls_all, and_self, opt1, Int.toNat_natCast, g1, flC, dB, Nat.reduceLeDiff, List.take, Option.isSome, hget_c, hget_n, hput_c, hput_n, ↓hget_h, D.isBot, D.cells, List.all, D.leaf, Bool.and_true, splice, List.nil_append, List.drop, List.append_nil, beq_self_eq_true, cond_true, inL_c, fillD, ne_eq, not_true_eq_false, Nat.reduceGT, or_self, Nat.add_zero, run1, List.getElem?_cons_zero, hw0, hw1, gu, an, q, thenQ, blockQ]) | (subst hK; repeat' (first | with_reducible refine thenQ_n ?_ | with_reducible refine blockQ_n ?_ | with_reducible refine thenQ_e ?_ | with_reducible refine blockQ_t ?_ | with_reducible refine blockQ_f (by decide) ?_))))
        all_goals (refine end_to [] [] (by first | exact .inl rfl | exact .inr rfl) rfl (by kernel_rfl) (by kernel_rfl) (by kernel_rfl) ?_ ?_ <;> repeat' (first | exact trivial | exact vr_val _))
      have q : ((((orM s l (fAt l k).word k &&& mskF (fAt l k) : Nat) : Int)) != 0) = false := by rw [hz]; rfl
      have lc : (fAt l k).word.toNat + 1 ≤ (icells (usd s l k)).length := by rw [icells_len, lu]; omega
      (have hg : (987654321 : Nat) - 987654321 = 0 := rfl; have hr := hg; repeat' (first | refine aw_seq ?_ | (refine aw_skip ?_; repeat' (first | with_reducible refine thenQ_n ?_ | with_reducible refine blockQ_n ?_ | with_reducible refine thenQ_e ?_ | with_reducible refine blockQ_t ?_ | with_reducible refine blockQ_f (by decide) ?_)) | (refine aw_exit ?_; repeat' (first | with_reducible refine thenQ_n ?_ | with_reducible refine blockQ_n ?_ | with_reducible refine thenQ_e ?_ | with_reducible refine blockQ_t ?_ | with_reducible refine blockQ_f (by decide) ?_)) | refine aw_ret ?_ | refine aw_block ?_ | refine aw_condT rfl ?_ | refine aw_condF rfl ?_ | (refine aw_cond rfl (fun hg => ?_) (fun hg => ?_) <;> (try (have hq := hg; simp only [Bool.not_eq_true', Bool.not_eq_false', Bool.and_eq_true, Bool.and_eq_false_iff, Bool.or_eq_true, Bool.or_eq_false_iff, decide_eq_true_eq, decide_eq_false_iff_not, bne_iff_ne, beq_iff_eq, beq_eq_false_iff_ne, bne_eq_false_iff_eq, ne_eq, Int.not_lt, Int.not_le, Decidable.not_not] at hq)) <;> (try (have hr := hg; simp only [decide_eq_true_eq, decide_eq_false_iff_not] at hr)) <;> (try (exfalso; omega))) | ((first | refine aw_hide fun K hK => aw_region ?_ | refine acall0 (iac) ?_ | refine acall0 (mac) ?_ | refine ago_if (by omega) ?_ | skip); simp (config := {maxSteps := 10000000}) (disch := first | exact okYes (by kernel_rfl) | omega) only [List.length, Nat.zero_add, Nat.mul_one, Nat.reduceAdd, dI, ARun_none, AOpRun, aexec, FSt.ev, St.F, eget_c, Nat.reduceBEq, ↓eget_h, cond_false, isSh, Bool.false_eq_true, ↓reduceIte, Option.map, abin, AGo_ok, St.app, putO, eput_c, eput_n, hups, List.map, ARun_nil, dropE_c, inL_n, dropE_n, Nat.reduceMul, hr, decide_true, Int.natCast_nonneg, fls_all, and_self, opt1, Int.toNat_natCast, g1, flC, dB, Nat.reduceLeDiff, List.take, Option.isSome, hget_c, hget_n, hput_c, hput_n, ↓hget_h, D.isBot, D.cells, List.all, D.leaf, Bool.and_true, splice, List.nil_append, List.drop, List.append_nil, beq_self_eq_true, cond_true, inL_c, fillD, ne_eq, not_true_eq_false, Nat.reduceGT, or_self, Nat.add_zero, run1, List.getElem?_cons_zero, hw0, hw1, gu, an, q, on, lc, ts, fits]) | (subst hK; repeat' (first | with_reducible refine thenQ_n ?_ | with_reducible refine blockQ_n ?_ | with_reducible refine thenQ_e ?_ | with_reducible refine blockQ_t ?_ | with_reducible refine blockQ_f (by decide) ?_))))
      refine ⟨k + 1, ⟨by omega, fun i hik j hj h3 h4 => ?_⟩, by omega, ?_⟩
      · rcases (by omega : i < k ∨ i = k) with h | rfl
        · exact huk i h j hj h3 h4
        · exact cf.1 hz j hj h4
      · refine wk_to [] [(0, 0), (200, 200)] (by kernel_rfl) (by kernel_rfl) (by kernel_rfl) (by kernel_rfl) (by kernel_rfl) ?_ ?_ <;> repeat' (first | exact trivial | exact vr_val _ | exact vr_list _ | exact vr_vec _ _ _ _ rfl | exact vr_ptr _ _ _ rfl | refine And.intro ⟨_, rfl, .inl ⟨_, rfl, by decide, ?_⟩⟩ ?_ | apply And.intro | exact vrl_flat _ (by first | exact icells_in _ | exact rcells_in _ | exact scells_in _ | exact bcells_in _ | assumption))
end Go.Proofs.Ytdcodicoclecnaa
/- The functions' bodies, translated. Written by a program; no conditions. -/
namespace Go.Proofs.Ytdcodicoclecnaa
open Go.RowKit Lift

/-- record_newTape -/
def crecord_newTape : ACode :=
  (.seq
   (.region false [⟨some 2, .box (.tmp 0), none, []⟩,
     ⟨some 4, .mv (.const (.pointer none)), none, []⟩,
     ⟨some 5, .mv (.const (.int .i64 0)), none, []⟩] [])
  (.seq
   (.seq
    (.region false [⟨some 12, .loadN 6 (.tmp 2), none, []⟩,
      ⟨some 13, .call (.func 27) [(.tmp 12)], none, []⟩,
      ⟨some 6, .mv (.tmp 13), none, []⟩] [12, 13])
   (.seq
    (.region false [⟨some 14, .mv (.tmp 6), none, []⟩,
      ⟨some 15, .bin .neq (.tmp 14) (.const (.int .i64 0)), none, []⟩] [14])
   (.cond (.tmp 15)
     (.seq
      (.region false [⟨some 16, .mv (.tmp 6), none, []⟩,
        ⟨some 4, .mv (.const (.pointer none)), none, []⟩,
        ⟨some 5, .mv (.tmp 16), none, []⟩] [16])
     .ret)
     .skip)))
  (.seq
   (.seq
    (.region false [⟨some 17, .mv (.tmp 1), none, []⟩,
      ⟨some 18, .len_ (.tmp 17), none, []⟩,
      ⟨some 19, .bin .gtr (.tmp 18) (.const (.int .i64 200)), none, []⟩] [17, 18])
   (.cond (.tmp 19)
     (.seq
      (.region false [⟨some 4, .mv (.const (.pointer none)), none, []⟩,
        ⟨some 5, .mv (.const (.int .i64 2)), none, []⟩] [])
     .ret)
     .skip))
  (.seq
   (.region false [⟨some 20, .loadN 6 (.tmp 2), none, []⟩,
     ⟨some 21, .mv (.tmp 1), none, []⟩,
     ⟨some 22, .build [(.val (.int .i64 0)), (.val (.int .i64 0)), (.val (.int .i64 0)), (.val (.int .i64 0)), (.val (.int .i64 0)), (.val (.slice none 0 0)), (.val (.slice none 0 0)), (.val (.slice none 0 0))] [(0, 6, (.tmp 20)), (6, 1, (.tmp 21))], none, []⟩,
     ⟨some 23, .box (.tmp 22), none, []⟩,
     ⟨some 7, .mv (.tmp 23), none, []⟩] [20, 21, 22, 23])
  (.seq
   (.region false [⟨some 8, .mv (.func 116), none, []⟩] [])
  (.seq
   (.seq
    (.region false [⟨some 24, .mv (.tmp 1), none, []⟩,
      ⟨some 25, .len_ (.tmp 24), none, []⟩,
      ⟨some 26, .mv (.const (.int .i64 0)), none, []⟩] [])
   (.block 0
     (.loop
       (.seq
        (.region false [⟨some 27, .bin .lss (.tmp 26) (.tmp 25), none, []⟩] [])
       (.seq
        (.cond (.tmp 27)
          .skip
          (.exit 0))
       (.seq
        (.block 1
          (.seq
           (.region false [⟨some 28, .iadS 1 (.tmp 24) (.tmp 26), none, []⟩,
             ⟨some 29, .load1 (.tmp 28), none, []⟩,
             ⟨some 10, .mv (.tmp 29), none, []⟩] [28, 29])
          (.seq
           (.region false [⟨some 11, .mv (.const (.int .i64 (-1))), none, []⟩] [])
          (.seq
           (.seq
            (.region false [⟨some 30, .mv (.tmp 10), none, []⟩,
              ⟨some 31, .len_ (.tmp 30), none, []⟩,
              ⟨some 32, .fad 0 (.tmp 2), none, []⟩,
              ⟨some 33, .load1 (.tmp 32), none, []⟩,
              ⟨some 34, .bin .eql (.tmp 31) (.tmp 33), none, []⟩,
              ⟨some 35, .mv (.tmp 34), none, []⟩,
              ⟨some 36, .mv (.tmp 10), (some (some 35, true)), []⟩,
              ⟨some 37, .mv (.tmp 8), (some (some 35, true)), []⟩,
              ⟨some 38, .call (.func 110) [(.tmp 36), (.tmp 37)], (some (some 35, true)), []⟩,
              ⟨some 39, .un .not (.tmp 38), (some (some 35, true)), []⟩,
              ⟨some 40, .pick (.tmp 35) (.tmp 39) (.const (.bool false)), none, []⟩] [30, 31, 32, 33, 34, 35, 36, 37, 38, 39])
           (.cond (.tmp 40)
             (.region true [⟨some 41, .fad 1 (.tmp 2), none, []⟩,
               ⟨some 42, .slA 4 1 (.tmp 41) none none, none, [0]⟩,
               ⟨some 43, .mv (.tmp 10), none, []⟩,
               ⟨some 44, .iadS 1 (.tmp 43) (.const (.int .i64 0)), none, [2]⟩,
               ⟨some 45, .load1 (.tmp 44), none, [3, 2]⟩,
               ⟨some 46, .call (.func 117) [(.tmp 42), (.tmp 45)], none, [1, 0, 4, 3, 2]⟩,
               ⟨some 11, .mv (.tmp 46), none, [5, 1, 0, 4, 3, 2]⟩] [41, 42, 43, 44, 45, 46])
             .skip))
          (.region false [⟨some 47, .mv (.tmp 7), none, []⟩,
            ⟨some 48, .mv (.tmp 7), none, []⟩,
            ⟨some 49, .nilc (.tmp 48), none, []⟩,
            ⟨some 50, .fad 7 (.tmp 49), none, []⟩,
            ⟨some 51, .load1 (.tmp 50), none, []⟩,
            ⟨some 52, .mv (.tmp 11), none, []⟩,
            ⟨some 53, .buildSl 1 1 [(.val (.int .i64 0))] [(0, 1, (.tmp 52))], none, []⟩,
            ⟨some 54, .app 1 8 (.tmp 51) (.tmp 53), none, []⟩,
            ⟨some 55, .nilc (.tmp 47), none, []⟩,
            ⟨some 56, .fad 7 (.tmp 55), none, []⟩,
            ⟨none, .store 1 (.tmp 56) (.tmp 54), none, []⟩] [47, 48, 49, 50, 51, 52, 53, 54, 55, 56])))))
       (.region false [⟨some 57, .bin .add (.tmp 26) (.const (.int .i64 1)), none, []⟩,
         ⟨some 26, .mv (.tmp 57), none, []⟩] [57])))))))
  (.seq
   (.region false [⟨some 58, .mv (.tmp 7), none, []⟩,
     ⟨some 4, .mv (.tmp 58), none, []⟩,
     ⟨some 5, .mv (.const (.int .i64 0)), none, []⟩] [58])
  .ret)))))))
set_option maxRecDepth 100000 in
theorem krecord_newTape : IsCode Try.prog 71 59 crecord_newTape [.tmp 4, .tmp 5] :=
  ⟨Try.f71, _, [40, 27, 19, 15, 0, 2, 6, 1, 26, 25, 24, 10, 8, 7, 11, 4, 5], Try.func71, rfl, by decide, rfl, by kernel_rfl, by kernel_rfl⟩
/-- precord_tape_good -/
def cprecord_tape_good : ACode :=
  (.seq
   (.region false [⟨some 6, .mv (.tmp 0), none, []⟩,
     ⟨some 7, .nilc (.tmp 6), none, []⟩,
     ⟨some 8, .fad 7 (.tmp 7), none, []⟩,
     ⟨some 9, .load1 (.tmp 8), none, []⟩,
     ⟨some 10, .len_ (.tmp 9), none, []⟩,
     ⟨some 11, .mv (.const (.int .i64 0)), none, []⟩] [6, 7, 8])
  (.block 0
    (.loop
      (.seq
       (.region false [⟨some 12, .bin .lss (.tmp 11) (.tmp 10), none, []⟩] [])
      (.seq
       (.cond (.tmp 12)
         .skip
         (.exit 0))
      (.seq
       (.block 1
         (.seq
          (.region false [⟨some 13, .mv (.tmp 11), none, []⟩,
            ⟨some 14, .iadS 1 (.tmp 9) (.tmp 11), none, []⟩,
            ⟨some 15, .load1 (.tmp 14), none, []⟩,
            ⟨some 4, .mv (.tmp 13), none, []⟩,
            ⟨some 5, .mv (.tmp 15), none, []⟩] [13, 14, 15])
         (.seq
          (.region false [⟨some 16, .mv (.tmp 5), none, []⟩,
            ⟨some 17, .bin .geq (.tmp 16) (.const (.int .i64 0)), none, []⟩,
            ⟨some 18, .mv (.tmp 17), none, []⟩,
            ⟨some 19, .mv (.tmp 1), (some (some 18, true)), []⟩,
            ⟨some 20, .mv (.tmp 4), (some (some 18, true)), []⟩,
            ⟨some 21, .mv (.tmp 5), (some (some 18, true)), []⟩,
            ⟨some 22, .call (.tmp 19) [(.tmp 20), (.tmp 21)], (some (some 18, true)), []⟩,
            ⟨some 23, .un .not (.tmp 22), (some (some 18, true)), []⟩,
            ⟨some 24, .pick (.tmp 18) (.tmp 23) (.const (.bool false)), none, []⟩] [16, 17, 18, 19, 20, 21, 22, 23])
         (.cond (.tmp 24)
           .ret
           .skip))))
      (.region false [⟨some 25, .bin .add (.tmp 11) (.const (.int .i64 1)), none, []⟩,
        ⟨some 11, .mv (.tmp 25), none, []⟩] [25])))))))
set_option maxRecDepth 100000 in
theorem kprecord_tape_good : IsCode Try.prog 72 26 cprecord_tape_good [] :=
  ⟨Try.f72, _, [24, 12, 0, 11, 10, 9, 5, 1, 4], Try.func72, rfl, by decide, rfl, by kernel_rfl, by kernel_rfl⟩
/-- precord_tape_samples -/
def cprecord_tape_samples : ACode :=
  (.seq
   (.region false [⟨some 2, .box (.tmp 0), none, []⟩,
     ⟨some 4, .mv (.const (.nilFunc)), none, []⟩] [])
  (.seq
   (.region false [⟨some 6, .load1 (.tmp 2), none, []⟩,
     ⟨some 7, .nilc (.tmp 6), none, []⟩,
     ⟨some 8, .fad 0 (.tmp 7), none, []⟩,
     ⟨some 9, .fad 5 (.tmp 8), none, []⟩,
     ⟨some 10, .load1 (.tmp 9), none, []⟩,
     ⟨some 11, .mv (.tmp 1), none, []⟩,
     ⟨some 12, .iadS 9 (.tmp 10) (.tmp 11), none, []⟩,
     ⟨some 13, .loadN 9 (.tmp 12), none, []⟩,
     ⟨some 14, .build [(.val (.int .i64 0)), (.val (.int .i64 0)), (.val (.int .i64 0)), (.val (.bool false)), (.val (.int .i64 0)), (.val (.int .i64 0)), (.val (.int .i64 0)), (.val (.int .i64 0)), (.val (.int .i64 0))] [(0, 9, (.tmp 13))], none, []⟩,
     ⟨some 5, .mem [(.val (.int .i64 0)), (.val (.int .i64 0)), (.val (.int .i64 0)), (.val (.bool false)), (.val (.int .i64 0)), (.val (.int .i64 0)), (.val (.int .i64 0)), (.val (.int .i64 0)), (.val (.int .i64 0))], none, []⟩,
     ⟨none, .store 9 (.tmp 5) (.tmp 14), none, []⟩] [6, 7, 8, 9, 10, 11, 12, 13, 14])
  (.seq
   (.region false [⟨some 15, .mkfn 113 [] [(.tmp 2), (.tmp 5)], none, []⟩,
     ⟨some 4, .mv (.tmp 15), none, []⟩] [15])
  .ret)))
set_option maxRecDepth 100000 in
theorem kprecord_tape_samples : IsCode Try.prog 67 16 cprecord_tape_samples [.tmp 4] :=
  ⟨Try.f67, _, [0, 2, 1, 5, 4], Try.func67, rfl, by decide, rfl, by kernel_rfl, by kernel_rfl⟩
/-- precord_tape_samples_S1 -/
def cprecord_tape_samples_S1_B8 : ACode :=
  (.block 1
    (.seq
     (.region true [⟨some 10, .loadN 9 (.tmp 2), none, []⟩,
       ⟨some 11, .mv (.tmp 5), none, []⟩,
       ⟨some 12, .call (.func 77) [(.tmp 10), (.tmp 11)], none, [0, 1]⟩,
       ⟨some 13, .mv (.tmp 12), none, [2, 0, 1]⟩,
       ⟨some 14, .load1 (.tmp 3), (some (some 13, true)), [3, 2, 0, 1]⟩,
       ⟨some 15, .mv (.tmp 4), (some (some 13, true)), [3, 2, 0, 1]⟩,
       ⟨some 16, .loadN 9 (.tmp 2), (some (some 13, true)), [3, 2, 0, 1]⟩,
       ⟨some 17, .loadN 9 (.tmp 2), (some (some 13, true)), [3, 2, 0, 1]⟩,
       ⟨some 18, .load1 (.tmp 1), (some (some 13, true)), [3, 2, 0, 1]⟩,
       ⟨some 19, .nilc (.tmp 18), (some (some 13, true)), [8, 3, 2, 0, 1]⟩,
       ⟨some 20, .fad 6 (.tmp 19), (some (some 13, true)), [9, 8, 3, 2, 0, 1]⟩,
       ⟨some 21, .load1 (.tmp 20), (some (some 13, true)), [10, 9, 8, 3, 2, 0, 1]⟩,
       ⟨some 22, .mv (.tmp 4), (some (some 13, true)), [3, 2, 0, 1]⟩,
       ⟨some 23, .iadS 1 (.tmp 21) (.tmp 22), (some (some 13, true)), [11, 10, 9, 8, 3, 2, 0, 1, 12]⟩,
       ⟨some 24, .load1 (.tmp 23), (some (some 13, true)), [13, 11, 10, 9, 8, 3, 2, 0, 1, 12]⟩,
       ⟨some 25, .fad 0 (.tmp 2), (some (some 13, true)), [3, 2, 0, 1]⟩,
       ⟨some 26, .fad 0 (.tmp 25), (some (some 13, true)), [15, 3, 2, 0, 1]⟩,
       ⟨some 27, .load1 (.tmp 26), (some (some 13, true)), [16, 15, 3, 2, 0, 1]⟩,
       ⟨some 28, .iadS 1 (.tmp 24) (.tmp 27), (some (some 13, true)), [14, 13, 11, 10, 9, 8, 3, 2, 0, 1, 12, 17, 16, 15]⟩,
       ⟨some 29, .load1 (.tmp 28), (some (some 13, true)), [18, 14, 13, 11, 10, 9, 8, 3, 2, 0, 1, 12, 17, 16, 15]⟩,
       ⟨some 30, .call (.func 115) [(.tmp 17), (.tmp 29)], (some (some 13, true)), [7, 3, 2, 0, 1, 19, 18, 14, 13, 11, 10, 9, 8, 12, 17, 16, 15]⟩,
       ⟨some 31, .call (.func 114) [(.tmp 16), (.tmp 30)], (some (some 13, true)), [6, 3, 2, 0, 1, 20, 7, 19, 18, 14, 13, 11, 10, 9, 8, 12, 17, 16, 15]⟩,
       ⟨some 32, .call (.tmp 14) [(.tmp 15), (.tmp 31)], (some (some 13, true)), [4, 3, 2, 0, 1, 5, 21, 6, 20, 7, 19, 18, 14, 13, 11, 10, 9, 8, 12, 17, 16, 15]⟩,
       ⟨some 33, .un .not (.tmp 32), (some (some 13, true)), [22, 4, 3, 2, 0, 1, 5, 21, 6, 20, 7, 19, 18, 14, 13, 11, 10, 9, 8, 12, 17, 16, 15]⟩,
       ⟨some 34, .pick (.tmp 13) (.tmp 33) (.const (.bool false)), none, [3, 2, 0, 1, 23, 22, 4, 5, 21, 6, 20, 7, 19, 18, 14, 13, 11, 10, 9, 8, 12, 17, 16, 15]⟩] [10, 11, 12, 13, 14, 15, 16, 17, 18, 19, 20, 21, 22, 23, 24, 25, 26, 27, 28, 29, 30, 31, 32, 33])
    (.cond (.tmp 34)
      .ret
      .skip)))
def cprecord_tape_samples_S1 : ACode :=
  (.seq
   (.region false [⟨some 3, .box (.tmp 0), none, []⟩] [])
  (.seq
   (.region false [⟨some 6, .load1 (.tmp 1), none, []⟩,
     ⟨some 7, .mkfn 72 [(.tmp 6)] [], none, []⟩] [6])
  (.block 0
    (.rangeFunc (.tmp 7) [8, 9] [(4, 8), (5, 9)] cprecord_tape_samples_S1_B8))))
set_option maxRecDepth 100000 in
theorem kprecord_tape_samples_S1 : IsCode Try.prog 113 35 cprecord_tape_samples_S1 [] :=
  ⟨Try.f113, _, [34, 8, 9, 7, 0, 1, 2, 5, 3, 4], Try.func113, rfl, by decide, rfl, by kernel_rfl, by kernel_rfl⟩
/-- precord_tape_has -/
def cprecord_tape_has : ACode :=
  (.seq
   (.region false [⟨some 4, .mv (.const (.bool false)), none, []⟩] [])
  (.seq
   (.region false [⟨some 5, .mv (.tmp 1), none, []⟩,
     ⟨some 6, .mv (.tmp 0), none, []⟩,
     ⟨some 7, .nilc (.tmp 6), none, []⟩,
     ⟨some 8, .fad 0 (.tmp 7), none, []⟩,
     ⟨some 9, .fad 5 (.tmp 8), none, []⟩,
     ⟨some 10, .load1 (.tmp 9), none, []⟩,
     ⟨some 11, .len_ (.tmp 10), none, []⟩,
     ⟨some 12, .bin .sub (.tmp 11) (.const (.int .i64 1)), none, []⟩,
     ⟨some 13, .call (.func 74) [(.tmp 5), (.const (.int .i64 0)), (.tmp 12)], none, []⟩,
     ⟨some 4, .mv (.tmp 13), none, []⟩] [5, 6, 7, 8, 9, 10, 11, 12, 13])
  .ret))
set_option maxRecDepth 100000 in
theorem kprecord_tape_has : IsCode Try.prog 112 14 cprecord_tape_has [.tmp 4] :=
  ⟨Try.f112, _, [1, 0, 4], Try.func112, rfl, by decide, rfl, by kernel_rfl, by kernel_rfl⟩
/-- record_withField -/
def crecord_withField : ACode :=
  (.seq
   (.region false [⟨some 3, .box (.tmp 0), none, []⟩,
     ⟨some 6, .mv (.const (.pointer none)), none, []⟩,
     ⟨some 7, .mv (.const (.int .i64 0)), none, []⟩] [])
  (.seq
   (.region false [⟨some 11, .loadN 6 (.tmp 3), none, []⟩,
     ⟨some 12, .mv (.tmp 1), none, []⟩,
     ⟨some 13, .call (.func 71) [(.tmp 11), (.tmp 12)], none, []⟩,
     ⟨some 10, .mv (.tmp 13), none, []⟩,
     ⟨some 14, .ext (.tmp 10) 0, none, []⟩,
     ⟨some 15, .ext (.tmp 10) 1, none, []⟩,
     ⟨some 8, .mem [(.val (.pointer none))], none, []⟩,
     ⟨none, .store 1 (.tmp 8) (.tmp 14), none, []⟩,
     ⟨some 9, .mv (.tmp 15), none, []⟩] [11, 12, 13, 10, 14, 15])
  (.seq
   (.seq
    (.region false [⟨some 16, .mv (.tmp 9), none, []⟩,
      ⟨some 17, .bin .neq (.tmp 16) (.const (.int .i64 0)), none, []⟩] [16])
   (.cond (.tmp 17)
     (.seq
      (.region false [⟨some 18, .mv (.tmp 9), none, []⟩,
        ⟨some 6, .mv (.const (.pointer none)), none, []⟩,
        ⟨some 7, .mv (.tmp 18), none, []⟩] [18])
     .ret)
     .skip))
  (.seq
   (.seq
    (.region false [⟨some 19, .mv (.tmp 2), none, []⟩,
      ⟨some 20, .mkfn 111 [] [(.tmp 8)], none, []⟩,
      ⟨some 21, .call (.func 110) [(.tmp 19), (.tmp 20)], none, []⟩] [19, 20])
   (.cond (.tmp 21)
     (.seq
      (.region false [⟨some 6, .mv (.const (.pointer none)), none, []⟩,
        ⟨some 7, .mv (.const (.int .i64 1)), none, []⟩] [])
     .ret)
     .skip))
  (.seq
   (.region false [⟨some 22, .load1 (.tmp 8), none, []⟩,
     ⟨some 6, .mv (.tmp 22), none, []⟩,
     ⟨some 7, .mv (.const (.int .i64 0)), none, []⟩] [22])
  .ret)))))
set_option maxRecDepth 100000 in
theorem krecord_withField : IsCode Try.prog 66 23 crecord_withField [.tmp 6, .tmp 7] :=
  ⟨Try.f66, _, [21, 17, 0, 3, 1, 9, 2, 8, 6, 7], Try.func66, rfl, by decide, rfl, by kernel_rfl, by kernel_rfl⟩
/-- record_withField_S1 -/
def crecord_withField_S1 : ACode :=
  (.seq
   (.region false [⟨some 3, .mv (.const (.bool false)), none, []⟩] [])
  (.seq
   (.region false [⟨some 4, .load1 (.tmp 1), none, []⟩,
     ⟨some 5, .mv (.tmp 0), none, []⟩,
     ⟨some 6, .call (.func 112) [(.tmp 4), (.tmp 5)], none, []⟩,
     ⟨some 7, .un .not (.tmp 6), none, []⟩,
     ⟨some 3, .mv (.tmp 7), none, []⟩] [4, 5, 6, 7])
  .ret))
set_option maxRecDepth 100000 in
theorem krecord_withField_S1 : IsCode Try.prog 111 8 crecord_withField_S1 [.tmp 3] :=
  ⟨Try.f111, _, [1, 0, 3], Try.func111, rfl, by decide, rfl, by kernel_rfl, by kernel_rfl⟩
end Go.Proofs.Ytdcodicoclecnaa
