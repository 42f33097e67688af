/- The functions' bodies, translated. Written by a program; no conditions. -/
import Derived.Test.YtfaiogajaaclcaaLift
import Derived.Test.YtfaiogajaaclcaaRows
namespace Go.Proofs.Ytfaiogajaaclcaa
open Go.RowKit Lift

/-- spans_minus_S1 -/
def cspans_minus_S1 : ACode :=
  (.seq
   (.region false [⟨some 9, .load1 (.tmp 1), none, []⟩,
     ⟨some 10, .call (.func 117) [(.tmp 9)], none, []⟩,
     ⟨some 4, .mv (.tmp 10), none, []⟩] [9, 10])
  (.seq
   (.region false [⟨some 11, .mv (.tmp 4), none, []⟩,
     ⟨some 12, .len_ (.tmp 11), none, []⟩,
     ⟨some 13, .mv (.const (.int .i64 0)), none, []⟩] [11])
  (.block 0
    (.loop
      (.seq
       (.region false [⟨some 14, .bin .lss (.tmp 13) (.tmp 12), none, []⟩] [])
      (.seq
       (.cond (.tmp 14)
         .skip
         (.exit 0))
      (.seq
       (.block 1
         (.seq
          (.region false [⟨some 15, .mv (.tmp 13), none, []⟩,
            ⟨some 5, .mv (.tmp 15), none, []⟩] [15])
         (.seq
          (.seq
           (.region true [⟨some 16, .mv (.tmp 4), none, []⟩,
             ⟨some 17, .mv (.tmp 5), none, []⟩,
             ⟨some 18, .iadS 2 (.tmp 16) (.tmp 17), none, [0, 1]⟩,
             ⟨some 19, .fad 0 (.tmp 18), none, [2, 0, 1]⟩,
             ⟨some 20, .load1 (.tmp 19), none, [3, 2, 0, 1]⟩,
             ⟨some 21, .mv (.tmp 4), none, []⟩,
             ⟨some 22, .mv (.tmp 5), none, []⟩,
             ⟨some 23, .iadS 2 (.tmp 21) (.tmp 22), none, [5, 6]⟩,
             ⟨some 24, .fad 1 (.tmp 23), none, [7, 5, 6]⟩,
             ⟨some 25, .load1 (.tmp 24), none, [8, 7, 5, 6]⟩,
             ⟨some 26, .load1 (.tmp 2), none, []⟩,
             ⟨some 27, .mv (.tmp 5), none, []⟩,
             ⟨some 28, .iadS 2 (.tmp 26) (.tmp 27), none, [10, 11]⟩,
             ⟨some 29, .fad 0 (.tmp 28), none, [12, 10, 11]⟩,
             ⟨some 30, .load1 (.tmp 29), none, [13, 12, 10, 11]⟩,
             ⟨some 31, .bin .sub (.tmp 30) (.const (.int .i64 1)), none, [14, 13, 12, 10, 11]⟩,
             ⟨some 32, .mnx false [(.tmp 25), (.tmp 31)], none, [9, 8, 7, 5, 6, 15, 14, 13, 12, 10, 11]⟩,
             ⟨some 33, .build [(.val (.int .i64 0)), (.val (.int .i64 0))] [(0, 1, (.tmp 20)), (1, 1, (.tmp 32))], none, [4, 3, 2, 0, 1, 16, 9, 8, 7, 5, 6, 15, 14, 13, 12, 10, 11]⟩,
             ⟨some 34, .mv (.tmp 4), none, []⟩,
             ⟨some 35, .mv (.tmp 5), none, []⟩,
             ⟨some 36, .iadS 2 (.tmp 34) (.tmp 35), none, [18, 19]⟩,
             ⟨some 37, .fad 0 (.tmp 36), none, [20, 18, 19]⟩,
             ⟨some 38, .load1 (.tmp 37), none, [21, 20, 18, 19]⟩,
             ⟨some 39, .load1 (.tmp 2), none, []⟩,
             ⟨some 40, .mv (.tmp 5), none, []⟩,
             ⟨some 41, .iadS 2 (.tmp 39) (.tmp 40), none, [23, 24]⟩,
             ⟨some 42, .fad 1 (.tmp 41), none, [25, 23, 24]⟩,
             ⟨some 43, .load1 (.tmp 42), none, [26, 25, 23, 24]⟩,
             ⟨some 44, .bin .add (.tmp 43) (.const (.int .i64 1)), none, [27, 26, 25, 23, 24]⟩,
             ⟨some 45, .mnx true [(.tmp 38), (.tmp 44)], none, [22, 21, 20, 18, 19, 28, 27, 26, 25, 23, 24]⟩,
             ⟨some 46, .mv (.tmp 4), none, []⟩,
             ⟨some 47, .mv (.tmp 5), none, []⟩,
             ⟨some 48, .iadS 2 (.tmp 46) (.tmp 47), none, [30, 31]⟩,
             ⟨some 49, .fad 1 (.tmp 48), none, [32, 30, 31]⟩,
             ⟨some 50, .load1 (.tmp 49), none, [33, 32, 30, 31]⟩,
             ⟨some 51, .build [(.val (.int .i64 0)), (.val (.int .i64 0))] [(0, 1, (.tmp 45)), (1, 1, (.tmp 50))], none, [29, 22, 21, 20, 18, 19, 28, 27, 26, 25, 23, 24, 34, 33, 32, 30, 31]⟩,
             ⟨some 52, .build [(.val (.int .i64 0)), (.val (.int .i64 0)), (.val (.int .i64 0)), (.val (.int .i64 0))] [(0, 2, (.tmp 33)), (2, 2, (.tmp 51))], none, [17, 4, 3, 2, 0, 1, 16, 9, 8, 7, 5, 6, 15, 14, 13, 12, 10, 11, 35, 29, 22, 21, 20, 18, 19, 28, 27, 26, 25, 23, 24, 34, 33, 32, 30, 31]⟩,
             ⟨some 53, .mv (.const (.int .i64 0)), none, []⟩] [16, 17, 18, 19, 20, 21, 22, 23, 24, 25, 26, 27, 28, 29, 30, 31, 32, 33, 34, 35, 36, 37, 38, 39, 40, 41, 42, 43, 44, 45, 46, 47, 48, 49, 50, 51])
          (.block 2
            (.loop
              (.seq
               (.region false [⟨some 54, .bin .lss (.tmp 53) (.const (.int .i64 2)), none, []⟩] [])
              (.seq
               (.cond (.tmp 54)
                 .skip
                 (.exit 2))
              (.seq
               (.block 3
                 (.seq
                  (.region false [⟨some 55, .idxN 2 2 (.tmp 52) (.tmp 53), none, []⟩,
                    ⟨some 7, .mem [(.val (.int .i64 0)), (.val (.int .i64 0))], none, []⟩,
                    ⟨none, .store 2 (.tmp 7) (.tmp 55), none, []⟩] [55])
                 (.seq
                  (.seq
                   (.region false [⟨some 56, .fad 0 (.tmp 7), none, []⟩,
                     ⟨some 57, .load1 (.tmp 56), none, []⟩,
                     ⟨some 58, .fad 1 (.tmp 7), none, []⟩,
                     ⟨some 59, .load1 (.tmp 58), none, []⟩,
                     ⟨some 60, .bin .gtr (.tmp 57) (.tmp 59), none, []⟩] [56, 57, 58, 59])
                  (.cond (.tmp 60)
                    (.exit 3)
                    .skip))
                 (.seq
                  (.region false [⟨some 61, .mv (.tmp 4), none, []⟩,
                    ⟨some 62, .call (.func 117) [(.tmp 61)], none, []⟩,
                    ⟨some 8, .mv (.tmp 62), none, []⟩] [61, 62])
                 (.seq
                  (.region false [⟨some 63, .mv (.tmp 8), none, []⟩,
                    ⟨some 64, .mv (.tmp 5), none, []⟩,
                    ⟨some 65, .loadN 2 (.tmp 7), none, []⟩,
                    ⟨some 66, .iadS 2 (.tmp 63) (.tmp 64), none, []⟩,
                    ⟨none, .store 2 (.tmp 66) (.tmp 65), none, []⟩] [63, 64, 65, 66])
                 (.seq
                  (.region false [⟨some 67, .mv (.tmp 0), none, []⟩,
                    ⟨some 68, .mv (.tmp 8), none, []⟩,
                    ⟨some 69, .call (.tmp 67) [(.tmp 68)], none, []⟩,
                    ⟨some 70, .un .not (.tmp 69), none, []⟩] [67, 68, 69])
                 (.cond (.tmp 70)
                   .ret
                   .skip)))))))
              (.region false [⟨some 71, .bin .add (.tmp 53) (.const (.int .i64 1)), none, []⟩,
                ⟨some 53, .mv (.tmp 71), none, []⟩] [71])))))))
         (.seq
          (.region true [⟨some 72, .mv (.tmp 4), none, []⟩,
            ⟨some 73, .mv (.tmp 5), none, []⟩,
            ⟨some 74, .mv (.tmp 4), none, []⟩,
            ⟨some 75, .mv (.tmp 5), none, []⟩,
            ⟨some 76, .mv (.tmp 4), none, []⟩,
            ⟨some 77, .mv (.tmp 5), none, []⟩,
            ⟨some 78, .iadS 2 (.tmp 76) (.tmp 77), none, [4, 5]⟩,
            ⟨some 79, .fad 0 (.tmp 78), none, [6, 4, 5]⟩,
            ⟨some 80, .load1 (.tmp 79), none, [7, 6, 4, 5]⟩,
            ⟨some 81, .load1 (.tmp 2), none, []⟩,
            ⟨some 82, .mv (.tmp 5), none, []⟩,
            ⟨some 83, .iadS 2 (.tmp 81) (.tmp 82), none, [9, 10]⟩,
            ⟨some 84, .fad 0 (.tmp 83), none, [11, 9, 10]⟩,
            ⟨some 85, .load1 (.tmp 84), none, [12, 11, 9, 10]⟩,
            ⟨some 86, .mnx true [(.tmp 80), (.tmp 85)], none, [8, 7, 6, 4, 5, 13, 12, 11, 9, 10]⟩,
            ⟨some 87, .mv (.tmp 4), none, []⟩,
            ⟨some 88, .mv (.tmp 5), none, []⟩,
            ⟨some 89, .iadS 2 (.tmp 87) (.tmp 88), none, [15, 16]⟩,
            ⟨some 90, .fad 1 (.tmp 89), none, [17, 15, 16]⟩,
            ⟨some 91, .load1 (.tmp 90), none, [18, 17, 15, 16]⟩,
            ⟨some 92, .load1 (.tmp 2), none, []⟩,
            ⟨some 93, .mv (.tmp 5), none, []⟩,
            ⟨some 94, .iadS 2 (.tmp 92) (.tmp 93), none, [20, 21]⟩,
            ⟨some 95, .fad 1 (.tmp 94), none, [22, 20, 21]⟩,
            ⟨some 96, .load1 (.tmp 95), none, [23, 22, 20, 21]⟩,
            ⟨some 97, .mnx false [(.tmp 91), (.tmp 96)], none, [19, 18, 17, 15, 16, 24, 23, 22, 20, 21]⟩,
            ⟨some 98, .iadS 2 (.tmp 72) (.tmp 73), none, [0, 1, 4, 5, 6, 7, 8, 9, 10, 11, 12, 13, 14, 19, 18, 17, 15, 16, 24, 23, 22, 20, 21]⟩,
            ⟨some 99, .fad 0 (.tmp 98), none, [26, 0, 1, 4, 5, 6, 7, 8, 9, 10, 11, 12, 13, 14, 19, 18, 17, 15, 16, 24, 23, 22, 20, 21]⟩,
            ⟨none, .store 1 (.tmp 99) (.tmp 86), none, [27, 26, 0, 1, 4, 5, 6, 7, 8, 9, 10, 11, 12, 13, 14, 19, 18, 17, 15, 16, 24, 23, 22, 20, 21]⟩,
            ⟨some 100, .iadS 2 (.tmp 74) (.tmp 75), none, [2, 3, 0, 1, 4, 5, 6, 7, 8, 9, 10, 11, 12, 13, 14, 15, 16, 17, 18, 19, 20, 21, 22, 23, 24, 25, 26, 27, 28]⟩,
            ⟨some 101, .fad 1 (.tmp 100), none, [29, 2, 3, 0, 1, 4, 5, 6, 7, 8, 9, 10, 11, 12, 13, 14, 15, 16, 17, 18, 19, 20, 21, 22, 23, 24, 25, 26, 27, 28]⟩,
            ⟨none, .store 1 (.tmp 101) (.tmp 97), none, [30, 29, 2, 3, 0, 1, 4, 5, 6, 7, 8, 9, 10, 11, 12, 13, 14, 15, 16, 17, 18, 19, 20, 21, 22, 23, 24, 25, 26, 27, 28]⟩] [72, 73, 74, 75, 76, 77, 78, 79, 80, 81, 82, 83, 84, 85, 86, 87, 88, 89, 90, 91, 92, 93, 94, 95, 96, 97, 98, 99, 100, 101])
         (.seq
          (.region true [⟨some 102, .mv (.tmp 4), none, []⟩,
            ⟨some 103, .mv (.tmp 5), none, []⟩,
            ⟨some 104, .iadS 2 (.tmp 102) (.tmp 103), none, [0, 1]⟩,
            ⟨some 105, .fad 0 (.tmp 104), none, [2, 0, 1]⟩,
            ⟨some 106, .load1 (.tmp 105), none, [3, 2, 0, 1]⟩,
            ⟨some 107, .mv (.tmp 4), none, []⟩,
            ⟨some 108, .mv (.tmp 5), none, []⟩,
            ⟨some 109, .iadS 2 (.tmp 107) (.tmp 108), none, [5, 6]⟩,
            ⟨some 110, .fad 1 (.tmp 109), none, [7, 5, 6]⟩,
            ⟨some 111, .load1 (.tmp 110), none, [8, 7, 5, 6]⟩,
            ⟨some 112, .bin .gtr (.tmp 106) (.tmp 111), none, [4, 3, 2, 0, 1, 9, 8, 7, 5, 6]⟩] [102, 103, 104, 105, 106, 107, 108, 109, 110, 111])
         (.cond (.tmp 112)
           .ret
           .skip))))))
      (.region false [⟨some 113, .bin .add (.tmp 13) (.const (.int .i64 1)), none, []⟩,
        ⟨some 13, .mv (.tmp 113), none, []⟩] [113]))))))))
set_option maxRecDepth 100000 in
theorem kspans_minus_S1 : IsCode Try.prog 116 114 cspans_minus_S1 [] :=
  ⟨Try.f116, _, [112, 70, 60, 54, 14, 1, 4, 13, 12, 5, 2, 53, 52, 7, 8, 0], Try.func116, rfl, by decide, rfl, by kernel_rfl, by kernel_rfl⟩
/-- spans_minus -/
def cspans_minus : ACode :=
  (.seq
   (.region false [⟨some 2, .box (.tmp 0), none, []⟩,
     ⟨some 3, .box (.tmp 1), none, []⟩,
     ⟨some 4, .mv (.const (.nilFunc)), none, []⟩] [])
  (.seq
   (.region false [⟨some 5, .mkfn 116 [] [(.tmp 2), (.tmp 3)], none, []⟩,
     ⟨some 4, .mv (.tmp 5), none, []⟩] [5])
  .ret))
set_option maxRecDepth 100000 in
theorem kspans_minus : IsCode Try.prog 111 6 cspans_minus [.tmp 4] :=
  ⟨Try.f111, _, [0, 1, 2, 3, 4], Try.func111, rfl, by decide, rfl, by kernel_rfl, by kernel_rfl⟩
/-- spans_rest -/
def cspans_rest_B17 : ACode :=
  (.block 3
    (.region false [⟨some 18, .load1 (.tmp 4), none, []⟩,
      ⟨some 19, .mv (.tmp 7), none, []⟩,
      ⟨some 20, .buildSl 1 1 [(.val (.slice none 0 0))] [(0, 1, (.tmp 19))], none, []⟩,
      ⟨some 21, .app 1 24 (.tmp 18) (.tmp 20), none, []⟩,
      ⟨none, .store 1 (.tmp 4) (.tmp 21), none, []⟩] [18, 19, 20, 21]))
def cspans_rest : ACode :=
  (.seq
   (.region false [⟨some 4, .mem [(.val (.slice none 0 0))], none, []⟩] [])
  (.seq
   (.seq
    (.region false [⟨some 8, .mv (.tmp 0), none, []⟩,
      ⟨some 9, .len_ (.tmp 8), none, []⟩,
      ⟨some 10, .mv (.const (.int .i64 0)), none, []⟩] [])
   (.block 0
     (.loop
       (.seq
        (.region false [⟨some 11, .bin .lss (.tmp 10) (.tmp 9), none, []⟩] [])
       (.seq
        (.cond (.tmp 11)
          .skip
          (.exit 0))
       (.seq
        (.block 1
          (.seq
           (.region false [⟨some 12, .iadS 1 (.tmp 8) (.tmp 10), none, []⟩,
             ⟨some 13, .load1 (.tmp 12), none, []⟩,
             ⟨some 6, .mv (.tmp 13), none, []⟩] [12, 13])
          (.seq
           (.region false [⟨some 14, .mv (.tmp 6), none, []⟩,
             ⟨some 15, .mv (.tmp 1), none, []⟩,
             ⟨some 16, .call (.func 111) [(.tmp 14), (.tmp 15)], none, []⟩] [14, 15])
          (.block 2
            (.rangeFunc (.tmp 16) [17] [(7, 17)] cspans_rest_B17)))))
       (.region false [⟨some 22, .bin .add (.tmp 10) (.const (.int .i64 1)), none, []⟩,
         ⟨some 10, .mv (.tmp 22), none, []⟩] [22])))))))
  (.seq
   (.region false [⟨some 23, .load1 (.tmp 4), none, []⟩,
     ⟨none, .store 1 (.tmp 4) (.tmp 23), none, []⟩] [23])
  .ret)))
set_option maxRecDepth 100000 in
theorem kspans_rest : IsCode Try.prog 93 24 cspans_rest [.cell1 4] :=
  ⟨Try.f93, _, [17, 16, 11, 0, 10, 9, 8, 6, 1, 4, 7], Try.func93, rfl, by decide, rfl, by kernel_rfl, by kernel_rfl⟩
/-- spans_Minus -/
def cspans_Minus : ACode :=
  (.seq
   (.region false [⟨some 4, .mv (.const (.slice none 0 0)), none, []⟩,
     ⟨some 5, .mv (.const (.int .i64 0)), none, []⟩] [])
  (.seq
   (.seq
    (.region false [⟨some 9, .mv (.tmp 0), none, []⟩,
      ⟨some 10, .mv (.tmp 1), none, []⟩,
      ⟨some 11, .build [(.val (.slice none 0 0)), (.val (.slice none 0 0))] [(0, 1, (.tmp 9)), (1, 1, (.tmp 10))], none, []⟩,
      ⟨some 12, .mv (.const (.int .i64 0)), none, []⟩] [9, 10])
   (.block 0
     (.loop
       (.seq
        (.region false [⟨some 13, .bin .lss (.tmp 12) (.const (.int .i64 2)), none, []⟩] [])
       (.seq
        (.cond (.tmp 13)
          .skip
          (.exit 0))
       (.seq
        (.block 1
          (.seq
           (.region false [⟨some 14, .idx1 2 1 (.tmp 11) (.tmp 12), none, []⟩,
             ⟨some 7, .mv (.tmp 14), none, []⟩] [14])
          (.seq
           (.region false [⟨some 15, .mv (.tmp 7), none, []⟩,
             ⟨some 16, .call (.func 23) [(.tmp 15)], none, []⟩,
             ⟨some 8, .mv (.tmp 16), none, []⟩] [15, 16])
          (.seq
           (.region false [⟨some 17, .mv (.tmp 8), none, []⟩,
             ⟨some 18, .bin .neq (.tmp 17) (.const (.int .i64 0)), none, []⟩] [17])
          (.cond (.tmp 18)
            (.seq
             (.region false [⟨some 19, .mv (.tmp 8), none, []⟩,
               ⟨some 4, .mv (.const (.slice none 0 0)), none, []⟩,
               ⟨some 5, .mv (.tmp 19), none, []⟩] [19])
            .ret)
            .skip)))))
       (.region false [⟨some 20, .bin .add (.tmp 12) (.const (.int .i64 1)), none, []⟩,
         ⟨some 12, .mv (.tmp 20), none, []⟩] [20])))))))
  (.seq
   (.seq
    (.region false [⟨some 21, .mv (.tmp 0), none, []⟩,
      ⟨some 22, .len_ (.tmp 21), none, []⟩,
      ⟨some 23, .mv (.tmp 1), none, []⟩,
      ⟨some 24, .len_ (.tmp 23), none, []⟩,
      ⟨some 25, .bin .neq (.tmp 22) (.tmp 24), none, []⟩] [21, 22, 23, 24])
   (.cond (.tmp 25)
     (.seq
      (.region false [⟨some 4, .mv (.const (.slice none 0 0)), none, []⟩,
        ⟨some 5, .mv (.const (.int .i64 1)), none, []⟩] [])
     .ret)
     .skip))
  (.seq
   (.region false [⟨some 26, .mv (.tmp 0), none, []⟩,
     ⟨some 27, .buildSl 1 1 [(.val (.slice none 0 0))] [(0, 1, (.tmp 26))], none, []⟩,
     ⟨some 28, .mv (.tmp 1), none, []⟩,
     ⟨some 29, .call (.func 93) [(.tmp 27), (.tmp 28)], none, []⟩,
     ⟨some 4, .mv (.tmp 29), none, []⟩,
     ⟨some 5, .mv (.const (.int .i64 0)), none, []⟩] [26, 27, 28, 29])
  .ret))))
set_option maxRecDepth 100000 in
theorem kspans_Minus : IsCode Try.prog 51 30 cspans_Minus [.tmp 4, .tmp 5] :=
  ⟨Try.f51, _, [25, 18, 13, 0, 1, 12, 11, 7, 8, 4, 5], Try.func51, rfl, by decide, rfl, by kernel_rfl, by kernel_rfl⟩
/-- slices_Clone_Lapi_Box_Kapi_Span_J -/
def cslices_Clone_Lapi_Box_Kapi_Span_J : ACode :=
  (.seq
   (.region false [⟨some 2, .mv (.const (.slice none 0 0)), none, []⟩] [])
  (.seq
   (.seq
    (.region false [⟨some 3, .mv (.tmp 0), none, []⟩,
      ⟨some 4, .eqn false (.tmp 3) (.const (.slice none 0 0)), none, []⟩] [3])
   (.cond (.tmp 4)
     (.seq
      (.region false [⟨some 2, .mv (.const (.slice none 0 0)), none, []⟩] [])
     .ret)
     .skip))
  (.seq
   (.region false [⟨some 5, .buildSl 2 0 [] [], none, []⟩,
     ⟨some 6, .mv (.tmp 0), none, []⟩,
     ⟨some 7, .app 2 16 (.tmp 5) (.tmp 6), none, []⟩,
     ⟨some 2, .mv (.tmp 7), none, []⟩] [5, 6, 7])
  .ret)))
set_option maxRecDepth 100000 in
theorem kslices_Clone_Lapi_Box_Kapi_Span_J : IsCode Try.prog 117 8 cslices_Clone_Lapi_Box_Kapi_Span_J [.tmp 2] :=
  ⟨Try.f117, _, [4, 0, 2], Try.func117, rfl, by decide, rfl, by kernel_rfl, by kernel_rfl⟩
/-- spans_Check -/
def cspans_Check : ACode :=
  (.seq
   (.region false [⟨some 2, .mv (.const (.int .i64 0)), none, []⟩] [])
  (.seq
   (.seq
    (.region false [⟨some 3, .mv (.tmp 0), none, []⟩,
      ⟨some 4, .len_ (.tmp 3), none, []⟩,
      ⟨some 5, .call (.func 71) [(.tmp 4), (.const (.int .i64 1)), (.const (.int .i64 3))], none, []⟩,
      ⟨some 6, .un .not (.tmp 5), none, []⟩] [3, 4, 5])
   (.cond (.tmp 6)
     (.seq
      (.region false [⟨some 2, .mv (.const (.int .i64 10)), none, []⟩] [])
     .ret)
     .skip))
  (.seq
   (.region false [⟨some 7, .mv (.tmp 0), none, []⟩,
     ⟨some 8, .call (.func 72) [(.tmp 7)], none, []⟩,
     ⟨some 2, .mv (.tmp 8), none, []⟩] [7, 8])
  .ret)))
set_option maxRecDepth 100000 in
theorem kspans_Check : IsCode Try.prog 23 9 cspans_Check [.tmp 2] :=
  ⟨Try.f23, _, [6, 0, 2], Try.func23, rfl, by decide, rfl, by kernel_rfl, by kernel_rfl⟩
/-- spans_spanned -/
def cspans_spanned : ACode :=
  (.seq
   (.region false [⟨some 2, .mv (.const (.int .i64 0)), none, []⟩] [])
  (.seq
   (.seq
    (.region false [⟨some 3, .mv (.tmp 0), none, []⟩,
      ⟨some 4, .call (.func 102) [(.tmp 3), (.func 103)], none, []⟩] [3])
   (.cond (.tmp 4)
     (.seq
      (.region false [⟨some 2, .mv (.const (.int .i64 10)), none, []⟩] [])
     .ret)
     .skip))
  (.seq
   (.region false [⟨some 2, .mv (.const (.int .i64 0)), none, []⟩] [])
  .ret)))
set_option maxRecDepth 100000 in
theorem kspans_spanned : IsCode Try.prog 72 5 cspans_spanned [.tmp 2] :=
  ⟨Try.f72, _, [4, 0, 2], Try.func72, rfl, by decide, rfl, by kernel_rfl, by kernel_rfl⟩
/-- spans_spanned_S1 -/
def cspans_spanned_S1 : ACode :=
  (.seq
   (.region false [⟨some 1, .box (.tmp 0), none, []⟩,
     ⟨some 2, .mv (.const (.bool false)), none, []⟩] [])
  (.seq
   (.region false [⟨some 3, .loadN 2 (.tmp 1), none, []⟩,
     ⟨some 4, .call (.func 104) [(.tmp 3)], none, []⟩,
     ⟨some 5, .un .not (.tmp 4), none, []⟩,
     ⟨some 2, .mv (.tmp 5), none, []⟩] [3, 4, 5])
  .ret))
set_option maxRecDepth 100000 in
theorem kspans_spanned_S1 : IsCode Try.prog 103 6 cspans_spanned_S1 [.tmp 2] :=
  ⟨Try.f103, _, [0, 1, 2], Try.func103, rfl, by decide, rfl, by kernel_rfl, by kernel_rfl⟩
/-- slices_ContainsFunc_L_L_Japi_Span_Kapi_Span_J -/
def cslices_ContainsFunc_L_L_Japi_Span_Kapi_Span_J : ACode :=
  (.seq
   (.region false [⟨some 4, .mv (.const (.bool false)), none, []⟩] [])
  (.seq
   (.region false [⟨some 5, .mv (.tmp 0), none, []⟩,
     ⟨some 6, .mv (.tmp 1), none, []⟩,
     ⟨some 7, .call (.func 114) [(.tmp 5), (.tmp 6)], none, []⟩,
     ⟨some 8, .bin .geq (.tmp 7) (.const (.int .i64 0)), none, []⟩,
     ⟨some 4, .mv (.tmp 8), none, []⟩] [5, 6, 7, 8])
  .ret))
set_option maxRecDepth 100000 in
theorem kslices_ContainsFunc_L_L_Japi_Span_Kapi_Span_J : IsCode Try.prog 102 9 cslices_ContainsFunc_L_L_Japi_Span_Kapi_Span_J [.tmp 4] :=
  ⟨Try.f102, _, [0, 1, 4], Try.func102, rfl, by decide, rfl, by kernel_rfl, by kernel_rfl⟩
/-- slices_IndexFunc_L_L_Japi_Span_Kapi_Span_J -/
def cslices_IndexFunc_L_L_Japi_Span_Kapi_Span_J : ACode :=
  (.seq
   (.region false [⟨some 4, .mv (.const (.int .i64 0)), none, []⟩] [])
  (.seq
   (.seq
    (.region false [⟨some 6, .mv (.tmp 0), none, []⟩,
      ⟨some 7, .len_ (.tmp 6), none, []⟩,
      ⟨some 8, .mv (.const (.int .i64 0)), none, []⟩] [6])
   (.block 0
     (.loop
       (.seq
        (.region false [⟨some 9, .bin .lss (.tmp 8) (.tmp 7), none, []⟩] [])
       (.seq
        (.cond (.tmp 9)
          .skip
          (.exit 0))
       (.seq
        (.block 1
          (.seq
           (.region false [⟨some 10, .mv (.tmp 8), none, []⟩,
             ⟨some 5, .mv (.tmp 10), none, []⟩] [10])
          (.seq
           (.region false [⟨some 11, .mv (.tmp 1), none, []⟩,
             ⟨some 12, .mv (.tmp 0), none, []⟩,
             ⟨some 13, .mv (.tmp 5), none, []⟩,
             ⟨some 14, .iadS 2 (.tmp 12) (.tmp 13), none, []⟩,
             ⟨some 15, .loadN 2 (.tmp 14), none, []⟩,
             ⟨some 16, .call (.tmp 11) [(.tmp 15)], none, []⟩] [11, 12, 13, 14, 15])
          (.cond (.tmp 16)
            (.seq
             (.region false [⟨some 17, .mv (.tmp 5), none, []⟩,
               ⟨some 4, .mv (.tmp 17), none, []⟩] [17])
            .ret)
            .skip))))
       (.region false [⟨some 18, .bin .add (.tmp 8) (.const (.int .i64 1)), none, []⟩,
         ⟨some 8, .mv (.tmp 18), none, []⟩] [18])))))))
  (.seq
   (.region false [⟨some 4, .mv (.const (.int .i64 (-1))), none, []⟩] [])
  .ret)))
set_option maxRecDepth 100000 in
theorem kslices_IndexFunc_L_L_Japi_Span_Kapi_Span_J : IsCode Try.prog 114 19 cslices_IndexFunc_L_L_Japi_Span_Kapi_Span_J [.tmp 4] :=
  ⟨Try.f114, _, [16, 9, 0, 8, 7, 1, 5, 4], Try.func114, rfl, by decide, rfl, by kernel_rfl, by kernel_rfl⟩
/-- spans_valid -/
def cspans_valid : ACode :=
  (.seq
   (.region false [⟨some 1, .box (.tmp 0), none, []⟩,
     ⟨some 2, .mv (.const (.bool false)), none, []⟩] [])
  (.seq
   (.region false [⟨some 3, .fad 0 (.tmp 1), none, []⟩,
     ⟨some 4, .load1 (.tmp 3), none, []⟩,
     ⟨some 5, .fad 1 (.tmp 1), none, []⟩,
     ⟨some 6, .load1 (.tmp 5), none, []⟩,
     ⟨some 7, .call (.func 71) [(.tmp 4), (.const (.int .i64 (-1000000))), (.tmp 6)], none, []⟩,
     ⟨some 8, .mv (.tmp 7), none, []⟩,
     ⟨some 9, .fad 1 (.tmp 1), (some (some 8, true)), []⟩,
     ⟨some 10, .load1 (.tmp 9), (some (some 8, true)), []⟩,
     ⟨some 11, .bin .leq (.tmp 10) (.const (.int .i64 1000000)), (some (some 8, true)), []⟩,
     ⟨some 12, .pick (.tmp 8) (.tmp 11) (.const (.bool false)), none, []⟩,
     ⟨some 2, .mv (.tmp 12), none, []⟩] [3, 4, 5, 6, 7, 8, 9, 10, 11, 12])
  .ret))
set_option maxRecDepth 100000 in
theorem kspans_valid : IsCode Try.prog 104 13 cspans_valid [.tmp 2] :=
  ⟨Try.f104, _, [0, 1, 2], Try.func104, rfl, by decide, rfl, by kernel_rfl, by kernel_rfl⟩
/-- spans_within -/
def cspans_within : ACode :=
  (.seq
   (.region false [⟨some 6, .mv (.const (.bool false)), none, []⟩] [])
  (.seq
   (.region false [⟨some 7, .mv (.tmp 0), none, []⟩,
     ⟨some 8, .mv (.tmp 1), none, []⟩,
     ⟨some 9, .bin .geq (.tmp 7) (.tmp 8), none, []⟩,
     ⟨some 10, .mv (.tmp 9), none, []⟩,
     ⟨some 11, .mv (.tmp 0), (some (some 10, true)), []⟩,
     ⟨some 12, .mv (.tmp 2), (some (some 10, true)), []⟩,
     ⟨some 13, .bin .leq (.tmp 11) (.tmp 12), (some (some 10, true)), []⟩,
     ⟨some 14, .pick (.tmp 10) (.tmp 13) (.const (.bool false)), none, []⟩,
     ⟨some 6, .mv (.tmp 14), none, []⟩] [7, 8, 9, 10, 11, 12, 13, 14])
  .ret))
set_option maxRecDepth 100000 in
theorem kspans_within : IsCode Try.prog 71 15 cspans_within [.tmp 6] :=
  ⟨Try.f71, _, [0, 1, 2, 6], Try.func71, rfl, by decide, rfl, by kernel_rfl, by kernel_rfl⟩
/-- ref01_Minus -/
def cref01_Minus : ACode :=
  (.seq
   (.region false [⟨some 4, .mv (.const (.slice none 0 0)), none, []⟩,
     ⟨some 5, .mv (.const (.int .i64 0)), none, []⟩] [])
  (.seq
   (.seq
    (.region false [⟨some 13, .mv (.tmp 0), none, []⟩,
      ⟨some 14, .call (.func 25) [(.tmp 13)], none, []⟩,
      ⟨some 15, .bin .neq (.tmp 14) (.const (.int .i64 0)), none, []⟩,
      ⟨some 16, .mv (.tmp 15), none, []⟩,
      ⟨some 17, .mv (.tmp 1), (some (some 16, false)), []⟩,
      ⟨some 18, .call (.func 25) [(.tmp 17)], (some (some 16, false)), []⟩,
      ⟨some 19, .bin .neq (.tmp 18) (.const (.int .i64 0)), (some (some 16, false)), []⟩,
      ⟨some 20, .pick (.tmp 16) (.const (.bool true)) (.tmp 19), none, []⟩] [13, 14, 15, 16, 17, 18, 19])
   (.cond (.tmp 20)
     (.seq
      (.region false [⟨some 4, .mv (.const (.slice none 0 0)), none, []⟩,
        ⟨some 5, .mv (.const (.int .i64 10)), none, []⟩] [])
     .ret)
     .skip))
  (.seq
   (.seq
    (.region false [⟨some 21, .mv (.tmp 0), none, []⟩,
      ⟨some 22, .len_ (.tmp 21), none, []⟩,
      ⟨some 23, .mv (.tmp 1), none, []⟩,
      ⟨some 24, .len_ (.tmp 23), none, []⟩,
      ⟨some 25, .bin .neq (.tmp 22) (.tmp 24), none, []⟩] [21, 22, 23, 24])
   (.cond (.tmp 25)
     (.seq
      (.region false [⟨some 4, .mv (.const (.slice none 0 0)), none, []⟩,
        ⟨some 5, .mv (.const (.int .i64 1)), none, []⟩] [])
     .ret)
     .skip))
  (.seq
   (.region false [⟨some 6, .mv (.const (.slice none 0 0)), none, []⟩] [])
  (.seq
   (.region false [⟨some 26, .buildSl 2 0 [] [], none, []⟩,
     ⟨some 27, .mv (.tmp 0), none, []⟩,
     ⟨some 28, .app 2 16 (.tmp 26) (.tmp 27), none, []⟩,
     ⟨some 7, .mv (.tmp 28), none, []⟩] [26, 27, 28])
  (.seq
   (.seq
    (.region false [⟨some 8, .mv (.const (.int .i64 0)), none, []⟩] [])
   (.block 0
     (.loop
       (.seq
        (.seq
         (.region false [⟨some 29, .mv (.tmp 8), none, []⟩,
           ⟨some 30, .mv (.tmp 0), none, []⟩,
           ⟨some 31, .len_ (.tmp 30), none, []⟩,
           ⟨some 32, .bin .lss (.tmp 29) (.tmp 31), none, []⟩] [29, 30, 31])
        (.cond (.tmp 32)
          .skip
          (.exit 0)))
       (.seq
        (.block 1
          (.seq
           (.region true [⟨some 35, .mv (.tmp 7), none, []⟩,
             ⟨some 36, .mv (.tmp 8), none, []⟩,
             ⟨some 37, .iadS 2 (.tmp 35) (.tmp 36), none, [0, 1]⟩,
             ⟨some 38, .fad 0 (.tmp 37), none, [2, 0, 1]⟩,
             ⟨some 39, .load1 (.tmp 38), none, [3, 2, 0, 1]⟩,
             ⟨some 40, .mv (.tmp 7), none, []⟩,
             ⟨some 41, .mv (.tmp 8), none, []⟩,
             ⟨some 42, .iadS 2 (.tmp 40) (.tmp 41), none, [5, 6]⟩,
             ⟨some 43, .fad 1 (.tmp 42), none, [7, 5, 6]⟩,
             ⟨some 44, .load1 (.tmp 43), none, [8, 7, 5, 6]⟩,
             ⟨some 9, .mv (.tmp 39), none, [4, 3, 2, 0, 1]⟩,
             ⟨some 10, .mv (.tmp 44), none, [9, 8, 7, 5, 6, 10, 4, 3, 2, 0, 1]⟩] [35, 36, 37, 38, 39, 40, 41, 42, 43, 44])
          (.seq
           (.seq
            (.region false [⟨some 45, .mv (.tmp 9), none, []⟩,
              ⟨some 46, .mv (.tmp 1), none, []⟩,
              ⟨some 47, .mv (.tmp 8), none, []⟩,
              ⟨some 48, .iadS 2 (.tmp 46) (.tmp 47), none, []⟩,
              ⟨some 49, .fad 0 (.tmp 48), none, []⟩,
              ⟨some 50, .load1 (.tmp 49), none, []⟩,
              ⟨some 51, .bin .lss (.tmp 45) (.tmp 50), none, []⟩] [45, 46, 47, 48, 49, 50])
           (.cond (.tmp 51)
             (.seq
              (.region false [⟨some 52, .buildSl 2 0 [] [], none, []⟩,
                ⟨some 53, .mv (.tmp 7), none, []⟩,
                ⟨some 54, .app 2 16 (.tmp 52) (.tmp 53), none, []⟩,
                ⟨some 11, .mv (.tmp 54), none, []⟩] [52, 53, 54])
             (.seq
              (.region false [⟨some 55, .mv (.tmp 11), none, []⟩,
                ⟨some 56, .mv (.tmp 8), none, []⟩,
                ⟨some 57, .mv (.tmp 10), none, []⟩,
                ⟨some 58, .mv (.tmp 1), none, []⟩,
                ⟨some 59, .mv (.tmp 8), none, []⟩,
                ⟨some 60, .iadS 2 (.tmp 58) (.tmp 59), none, []⟩,
                ⟨some 61, .fad 0 (.tmp 60), none, []⟩,
                ⟨some 62, .load1 (.tmp 61), none, []⟩,
                ⟨some 63, .bin .sub (.tmp 62) (.const (.int .i64 1)), none, []⟩,
                ⟨some 64, .mnx false [(.tmp 57), (.tmp 63)], none, []⟩,
                ⟨some 65, .iadS 2 (.tmp 55) (.tmp 56), none, []⟩,
                ⟨some 66, .fad 1 (.tmp 65), none, []⟩,
                ⟨none, .store 1 (.tmp 66) (.tmp 64), none, []⟩] [55, 56, 57, 58, 59, 60, 61, 62, 63, 64, 65, 66])
             (.region false [⟨some 67, .mv (.tmp 6), none, []⟩,
               ⟨some 68, .mv (.tmp 11), none, []⟩,
               ⟨some 69, .buildSl 1 1 [(.val (.slice none 0 0))] [(0, 1, (.tmp 68))], none, []⟩,
               ⟨some 70, .app 1 24 (.tmp 67) (.tmp 69), none, []⟩,
               ⟨some 6, .mv (.tmp 70), none, []⟩] [67, 68, 69, 70])))
             .skip))
          (.seq
           (.seq
            (.region false [⟨some 71, .mv (.tmp 10), none, []⟩,
              ⟨some 72, .mv (.tmp 1), none, []⟩,
              ⟨some 73, .mv (.tmp 8), none, []⟩,
              ⟨some 74, .iadS 2 (.tmp 72) (.tmp 73), none, []⟩,
              ⟨some 75, .fad 1 (.tmp 74), none, []⟩,
              ⟨some 76, .load1 (.tmp 75), none, []⟩,
              ⟨some 77, .bin .gtr (.tmp 71) (.tmp 76), none, []⟩] [71, 72, 73, 74, 75, 76])
           (.cond (.tmp 77)
             (.seq
              (.region false [⟨some 78, .buildSl 2 0 [] [], none, []⟩,
                ⟨some 79, .mv (.tmp 7), none, []⟩,
                ⟨some 80, .app 2 16 (.tmp 78) (.tmp 79), none, []⟩,
                ⟨some 12, .mv (.tmp 80), none, []⟩] [78, 79, 80])
             (.seq
              (.region false [⟨some 81, .mv (.tmp 12), none, []⟩,
                ⟨some 82, .mv (.tmp 8), none, []⟩,
                ⟨some 83, .mv (.tmp 9), none, []⟩,
                ⟨some 84, .mv (.tmp 1), none, []⟩,
                ⟨some 85, .mv (.tmp 8), none, []⟩,
                ⟨some 86, .iadS 2 (.tmp 84) (.tmp 85), none, []⟩,
                ⟨some 87, .fad 1 (.tmp 86), none, []⟩,
                ⟨some 88, .load1 (.tmp 87), none, []⟩,
                ⟨some 89, .bin .add (.tmp 88) (.const (.int .i64 1)), none, []⟩,
                ⟨some 90, .mnx true [(.tmp 83), (.tmp 89)], none, []⟩,
                ⟨some 91, .iadS 2 (.tmp 81) (.tmp 82), none, []⟩,
                ⟨some 92, .fad 0 (.tmp 91), none, []⟩,
                ⟨none, .store 1 (.tmp 92) (.tmp 90), none, []⟩] [81, 82, 83, 84, 85, 86, 87, 88, 89, 90, 91, 92])
             (.region false [⟨some 93, .mv (.tmp 6), none, []⟩,
               ⟨some 94, .mv (.tmp 12), none, []⟩,
               ⟨some 95, .buildSl 1 1 [(.val (.slice none 0 0))] [(0, 1, (.tmp 94))], none, []⟩,
               ⟨some 96, .app 1 24 (.tmp 93) (.tmp 95), none, []⟩,
               ⟨some 6, .mv (.tmp 96), none, []⟩] [93, 94, 95, 96])))
             .skip))
          (.seq
           (.region true [⟨some 97, .mv (.tmp 7), none, []⟩,
             ⟨some 98, .mv (.tmp 8), none, []⟩,
             ⟨some 99, .mv (.tmp 9), none, []⟩,
             ⟨some 100, .mv (.tmp 1), none, []⟩,
             ⟨some 101, .mv (.tmp 8), none, []⟩,
             ⟨some 102, .iadS 2 (.tmp 100) (.tmp 101), none, [3, 4]⟩,
             ⟨some 103, .fad 0 (.tmp 102), none, [5, 3, 4]⟩,
             ⟨some 104, .load1 (.tmp 103), none, [6, 5, 3, 4]⟩,
             ⟨some 105, .mnx true [(.tmp 99), (.tmp 104)], none, [2, 7, 6, 5, 3, 4]⟩,
             ⟨some 106, .mv (.tmp 10), none, []⟩,
             ⟨some 107, .mv (.tmp 1), none, []⟩,
             ⟨some 108, .mv (.tmp 8), none, []⟩,
             ⟨some 109, .iadS 2 (.tmp 107) (.tmp 108), none, [10, 11]⟩,
             ⟨some 110, .fad 1 (.tmp 109), none, [12, 10, 11]⟩,
             ⟨some 111, .load1 (.tmp 110), none, [13, 12, 10, 11]⟩,
             ⟨some 112, .mnx false [(.tmp 106), (.tmp 111)], none, [9, 14, 13, 12, 10, 11]⟩,
             ⟨some 113, .build [(.val (.int .i64 0)), (.val (.int .i64 0))] [(0, 1, (.tmp 105)), (1, 1, (.tmp 112))], none, [8, 2, 7, 6, 5, 3, 4, 15, 9, 14, 13, 12, 10, 11]⟩,
             ⟨some 114, .iadS 2 (.tmp 97) (.tmp 98), none, [0, 1, 2, 3, 4, 5, 6, 7, 8, 9, 10, 11, 12, 13, 14, 15, 16]⟩,
             ⟨none, .store 2 (.tmp 114) (.tmp 113), none, [17, 0, 1, 2, 3, 4, 5, 6, 7, 8, 9, 10, 11, 12, 13, 14, 15, 16]⟩] [97, 98, 99, 100, 101, 102, 103, 104, 105, 106, 107, 108, 109, 110, 111, 112, 113, 114])
          (.seq
           (.region true [⟨some 115, .mv (.tmp 7), none, []⟩,
             ⟨some 116, .mv (.tmp 8), none, []⟩,
             ⟨some 117, .iadS 2 (.tmp 115) (.tmp 116), none, [0, 1]⟩,
             ⟨some 118, .fad 0 (.tmp 117), none, [2, 0, 1]⟩,
             ⟨some 119, .load1 (.tmp 118), none, [3, 2, 0, 1]⟩,
             ⟨some 120, .mv (.tmp 7), none, []⟩,
             ⟨some 121, .mv (.tmp 8), none, []⟩,
             ⟨some 122, .iadS 2 (.tmp 120) (.tmp 121), none, [5, 6]⟩,
             ⟨some 123, .fad 1 (.tmp 122), none, [7, 5, 6]⟩,
             ⟨some 124, .load1 (.tmp 123), none, [8, 7, 5, 6]⟩,
             ⟨some 125, .bin .gtr (.tmp 119) (.tmp 124), none, [4, 3, 2, 0, 1, 9, 8, 7, 5, 6]⟩] [115, 116, 117, 118, 119, 120, 121, 122, 123, 124])
          (.cond (.tmp 125)
            (.seq
             (.region false [⟨some 126, .mv (.tmp 6), none, []⟩,
               ⟨some 4, .mv (.tmp 126), none, []⟩,
               ⟨some 5, .mv (.const (.int .i64 0)), none, []⟩] [126])
            .ret)
            .skip)))))))
       (.region false [⟨some 33, .mv (.tmp 8), none, []⟩,
         ⟨some 34, .bin .add (.tmp 33) (.const (.int .i64 1)), none, []⟩,
         ⟨some 8, .mv (.tmp 34), none, []⟩] [33, 34]))))))
  (.seq
   (.region false [⟨some 127, .mv (.tmp 6), none, []⟩,
     ⟨some 4, .mv (.tmp 127), none, []⟩,
     ⟨some 5, .mv (.const (.int .i64 0)), none, []⟩] [127])
  .ret)))))))
set_option maxRecDepth 100000 in
theorem kref01_Minus : IsCode Try.prog 52 128 cref01_Minus [.tmp 4, .tmp 5] :=
  ⟨Try.f52, _, [125, 77, 51, 32, 25, 20, 0, 1, 8, 7, 9, 11, 10, 6, 12, 4, 5], Try.func52, rfl, by decide, rfl, by kernel_rfl, by kernel_rfl⟩
/-- ref01_Check -/
def cref01_Check : ACode :=
  (.seq
   (.region false [⟨some 2, .mv (.const (.int .i64 0)), none, []⟩] [])
  (.seq
   (.seq
    (.region false [⟨some 4, .mv (.tmp 0), none, []⟩,
      ⟨some 5, .len_ (.tmp 4), none, []⟩,
      ⟨some 6, .call (.func 34) [(.tmp 5), (.const (.int .i64 1)), (.const (.int .i64 3))], none, []⟩,
      ⟨some 7, .un .not (.tmp 6), none, []⟩] [4, 5, 6])
   (.cond (.tmp 7)
     (.seq
      (.region false [⟨some 2, .mv (.const (.int .i64 10)), none, []⟩] [])
     .ret)
     .skip))
  (.seq
   (.seq
    (.region false [⟨some 3, .mv (.const (.int .i64 0)), none, []⟩] [])
   (.block 0
     (.loop
       (.seq
        (.seq
         (.region false [⟨some 8, .mv (.tmp 3), none, []⟩,
           ⟨some 9, .mv (.tmp 0), none, []⟩,
           ⟨some 10, .len_ (.tmp 9), none, []⟩,
           ⟨some 11, .bin .lss (.tmp 8) (.tmp 10), none, []⟩] [8, 9, 10])
        (.cond (.tmp 11)
          .skip
          (.exit 0)))
       (.seq
        (.block 1
          (.seq
           (.region false [⟨some 14, .mv (.tmp 0), none, []⟩,
             ⟨some 15, .mv (.tmp 3), none, []⟩,
             ⟨some 16, .iadS 2 (.tmp 14) (.tmp 15), none, []⟩,
             ⟨some 17, .loadN 2 (.tmp 16), none, []⟩,
             ⟨some 18, .call (.func 49) [(.tmp 17)], none, []⟩,
             ⟨some 19, .un .not (.tmp 18), none, []⟩] [14, 15, 16, 17, 18])
          (.cond (.tmp 19)
            (.seq
             (.region false [⟨some 2, .mv (.const (.int .i64 10)), none, []⟩] [])
            .ret)
            .skip)))
       (.region false [⟨some 12, .mv (.tmp 3), none, []⟩,
         ⟨some 13, .bin .add (.tmp 12) (.const (.int .i64 1)), none, []⟩,
         ⟨some 3, .mv (.tmp 13), none, []⟩] [12, 13]))))))
  (.seq
   (.region false [⟨some 2, .mv (.const (.int .i64 0)), none, []⟩] [])
  .ret))))
set_option maxRecDepth 100000 in
theorem kref01_Check : IsCode Try.prog 25 20 cref01_Check [.tmp 2] :=
  ⟨Try.f25, _, [19, 11, 7, 0, 3, 2], Try.func25, rfl, by decide, rfl, by kernel_rfl, by kernel_rfl⟩
/-- ref01_Valid -/
def cref01_Valid : ACode :=
  (.seq
   (.region false [⟨some 1, .box (.tmp 0), none, []⟩,
     ⟨some 2, .mv (.const (.bool false)), none, []⟩] [])
  (.seq
   (.region false [⟨some 3, .fad 0 (.tmp 1), none, []⟩,
     ⟨some 4, .load1 (.tmp 3), none, []⟩,
     ⟨some 5, .call (.func 34) [(.tmp 4), (.const (.int .i64 (-1000000))), (.const (.int .i64 1000000))], none, []⟩,
     ⟨some 6, .mv (.tmp 5), none, []⟩,
     ⟨some 7, .fad 1 (.tmp 1), (some (some 6, true)), []⟩,
     ⟨some 8, .load1 (.tmp 7), (some (some 6, true)), []⟩,
     ⟨some 9, .fad 0 (.tmp 1), (some (some 6, true)), []⟩,
     ⟨some 10, .load1 (.tmp 9), (some (some 6, true)), []⟩,
     ⟨some 11, .call (.func 34) [(.tmp 8), (.tmp 10), (.const (.int .i64 1000000))], (some (some 6, true)), []⟩,
     ⟨some 12, .pick (.tmp 6) (.tmp 11) (.const (.bool false)), none, []⟩,
     ⟨some 2, .mv (.tmp 12), none, []⟩] [3, 4, 5, 6, 7, 8, 9, 10, 11, 12])
  .ret))
set_option maxRecDepth 100000 in
theorem kref01_Valid : IsCode Try.prog 49 13 cref01_Valid [.tmp 2] :=
  ⟨Try.f49, _, [0, 1, 2], Try.func49, rfl, by decide, rfl, by kernel_rfl, by kernel_rfl⟩
/-- ref01_From -/
def cref01_From : ACode :=
  (.seq
   (.region false [⟨some 6, .mv (.const (.bool false)), none, []⟩] [])
  (.seq
   (.region false [⟨some 7, .mv (.tmp 0), none, []⟩,
     ⟨some 8, .mv (.tmp 1), none, []⟩,
     ⟨some 9, .bin .geq (.tmp 7) (.tmp 8), none, []⟩,
     ⟨some 10, .mv (.tmp 9), none, []⟩,
     ⟨some 11, .mv (.tmp 0), (some (some 10, true)), []⟩,
     ⟨some 12, .mv (.tmp 2), (some (some 10, true)), []⟩,
     ⟨some 13, .bin .leq (.tmp 11) (.tmp 12), (some (some 10, true)), []⟩,
     ⟨some 14, .pick (.tmp 10) (.tmp 13) (.const (.bool false)), none, []⟩,
     ⟨some 6, .mv (.tmp 14), none, []⟩] [7, 8, 9, 10, 11, 12, 13, 14])
  .ret))
set_option maxRecDepth 100000 in
theorem kref01_From : IsCode Try.prog 34 15 cref01_From [.tmp 6] :=
  ⟨Try.f34, _, [0, 1, 2, 6], Try.func34, rfl, by decide, rfl, by kernel_rfl, by kernel_rfl⟩
/-- ref01_In -/
def cref01_In : ACode :=
  (.seq
   (.region false [⟨some 4, .mv (.const (.bool false)), none, []⟩] [])
  (.seq
   (.seq
    (.region false [⟨some 5, .mv (.const (.int .i64 0)), none, []⟩] [])
   (.block 0
     (.loop
       (.seq
        (.seq
         (.region false [⟨some 6, .mv (.tmp 5), none, []⟩,
           ⟨some 7, .mv (.tmp 1), none, []⟩,
           ⟨some 8, .len_ (.tmp 7), none, []⟩,
           ⟨some 9, .bin .lss (.tmp 6) (.tmp 8), none, []⟩] [6, 7, 8])
        (.cond (.tmp 9)
          .skip
          (.exit 0)))
       (.seq
        (.block 1
          (.seq
           (.region true [⟨some 12, .mv (.tmp 0), none, []⟩,
             ⟨some 13, .mv (.tmp 5), none, []⟩,
             ⟨some 14, .iadS 1 (.tmp 12) (.tmp 13), none, [0, 1]⟩,
             ⟨some 15, .load1 (.tmp 14), none, [2, 0, 1]⟩,
             ⟨some 16, .mv (.tmp 1), none, []⟩,
             ⟨some 17, .mv (.tmp 5), none, []⟩,
             ⟨some 18, .iadS 2 (.tmp 16) (.tmp 17), none, [4, 5]⟩,
             ⟨some 19, .fad 0 (.tmp 18), none, [6, 4, 5]⟩,
             ⟨some 20, .load1 (.tmp 19), none, [7, 6, 4, 5]⟩,
             ⟨some 21, .mv (.tmp 1), none, []⟩,
             ⟨some 22, .mv (.tmp 5), none, []⟩,
             ⟨some 23, .iadS 2 (.tmp 21) (.tmp 22), none, [9, 10]⟩,
             ⟨some 24, .fad 1 (.tmp 23), none, [11, 9, 10]⟩,
             ⟨some 25, .load1 (.tmp 24), none, [12, 11, 9, 10]⟩,
             ⟨some 26, .call (.func 34) [(.tmp 15), (.tmp 20), (.tmp 25)], none, [3, 2, 0, 1, 8, 7, 6, 4, 5, 13, 12, 11, 9, 10]⟩,
             ⟨some 27, .un .not (.tmp 26), none, [14, 3, 2, 0, 1, 8, 7, 6, 4, 5, 13, 12, 11, 9, 10]⟩] [12, 13, 14, 15, 16, 17, 18, 19, 20, 21, 22, 23, 24, 25, 26])
          (.cond (.tmp 27)
            (.seq
             (.region false [⟨some 4, .mv (.const (.bool false)), none, []⟩] [])
            .ret)
            .skip)))
       (.region false [⟨some 10, .mv (.tmp 5), none, []⟩,
         ⟨some 11, .bin .add (.tmp 10) (.const (.int .i64 1)), none, []⟩,
         ⟨some 5, .mv (.tmp 11), none, []⟩] [10, 11]))))))
  (.seq
   (.region false [⟨some 4, .mv (.const (.bool true)), none, []⟩] [])
  .ret)))
set_option maxRecDepth 100000 in
theorem kref01_In : IsCode Try.prog 54 28 cref01_In [.tmp 4] :=
  ⟨Try.f54, _, [27, 9, 5, 1, 0, 4], Try.func54, rfl, by decide, rfl, by kernel_rfl, by kernel_rfl⟩
/-- law01_box -/
def claw01_box : ACode :=
  (.seq
   (.region false [⟨some 2, .mv (.const (.slice none 0 0)), none, []⟩] [])
  (.seq
   (.region false [⟨some 3, .buildSl 2 0 [] [], none, []⟩,
     ⟨some 4, .mv (.tmp 0), none, []⟩,
     ⟨some 5, .app 2 16 (.tmp 3) (.tmp 4), none, []⟩,
     ⟨some 2, .mv (.tmp 5), none, []⟩] [3, 4, 5])
  .ret))
set_option maxRecDepth 100000 in
theorem klaw01_box : IsCode Try.prog 24 6 claw01_box [.tmp 2] :=
  ⟨Try.f24, _, [0, 2], Try.func24, rfl, by decide, rfl, by kernel_rfl, by kernel_rfl⟩
/-- law01_sameBox -/
def claw01_sameBox : ACode :=
  (.seq
   (.region false [⟨some 4, .mv (.const (.bool false)), none, []⟩] [])
  (.seq
   (.seq
    (.region false [⟨some 6, .mv (.tmp 0), none, []⟩,
      ⟨some 7, .len_ (.tmp 6), none, []⟩,
      ⟨some 8, .mv (.tmp 1), none, []⟩,
      ⟨some 9, .len_ (.tmp 8), none, []⟩,
      ⟨some 10, .bin .neq (.tmp 7) (.tmp 9), none, []⟩] [6, 7, 8, 9])
   (.cond (.tmp 10)
     (.seq
      (.region false [⟨some 4, .mv (.const (.bool false)), none, []⟩] [])
     .ret)
     .skip))
  (.seq
   (.seq
    (.region false [⟨some 5, .mv (.const (.int .i64 0)), none, []⟩] [])
   (.block 0
     (.loop
       (.seq
        (.seq
         (.region false [⟨some 11, .mv (.tmp 5), none, []⟩,
           ⟨some 12, .mv (.tmp 0), none, []⟩,
           ⟨some 13, .len_ (.tmp 12), none, []⟩,
           ⟨some 14, .bin .lss (.tmp 11) (.tmp 13), none, []⟩] [11, 12, 13])
        (.cond (.tmp 14)
          .skip
          (.exit 0)))
       (.seq
        (.block 1
          (.seq
           (.region true [⟨some 17, .mv (.tmp 0), none, []⟩,
             ⟨some 18, .mv (.tmp 5), none, []⟩,
             ⟨some 19, .iadS 2 (.tmp 17) (.tmp 18), none, [0, 1]⟩,
             ⟨some 20, .loadN 2 (.tmp 19), none, [2, 0, 1]⟩,
             ⟨some 21, .mv (.tmp 1), none, []⟩,
             ⟨some 22, .mv (.tmp 5), none, []⟩,
             ⟨some 23, .iadS 2 (.tmp 21) (.tmp 22), none, [4, 5]⟩,
             ⟨some 24, .loadN 2 (.tmp 23), none, [6, 4, 5]⟩,
             ⟨some 25, .eqa true [false, false] (.tmp 20) (.tmp 24), none, [3, 2, 0, 1, 7, 6, 4, 5]⟩] [17, 18, 19, 20, 21, 22, 23, 24])
          (.cond (.tmp 25)
            (.seq
             (.region false [⟨some 4, .mv (.const (.bool false)), none, []⟩] [])
            .ret)
            .skip)))
       (.region false [⟨some 15, .mv (.tmp 5), none, []⟩,
         ⟨some 16, .bin .add (.tmp 15) (.const (.int .i64 1)), none, []⟩,
         ⟨some 5, .mv (.tmp 16), none, []⟩] [15, 16]))))))
  (.seq
   (.region false [⟨some 4, .mv (.const (.bool true)), none, []⟩] [])
  .ret))))
set_option maxRecDepth 100000 in
theorem klaw01_sameBox : IsCode Try.prog 53 26 claw01_sameBox [.tmp 4] :=
  ⟨Try.f53, _, [25, 14, 10, 0, 1, 5, 4], Try.func53, rfl, by decide, rfl, by kernel_rfl, by kernel_rfl⟩
/-- law01_SpansMinus -/
def claw01_SpansMinus : ACode :=
  (.seq
   (.region false [⟨some 4, .mv (.const (.bool false)), none, []⟩] [])
  (.seq
   (.seq
    (.region false [⟨some 10, .mv (.tmp 0), none, []⟩,
      ⟨some 11, .len_ (.tmp 10), none, []⟩,
      ⟨some 12, .bin .gtr (.tmp 11) (.const (.int .i64 6)), none, []⟩,
      ⟨some 13, .mv (.tmp 12), none, []⟩,
      ⟨some 14, .mv (.tmp 1), (some (some 13, false)), []⟩,
      ⟨some 15, .len_ (.tmp 14), (some (some 13, false)), []⟩,
      ⟨some 16, .bin .gtr (.tmp 15) (.const (.int .i64 6)), (some (some 13, false)), []⟩,
      ⟨some 17, .pick (.tmp 13) (.const (.bool true)) (.tmp 16), none, []⟩] [10, 11, 12, 13, 14, 15, 16])
   (.cond (.tmp 17)
     (.seq
      (.region false [⟨some 18, .call (.func 19) [], none, []⟩,
        ⟨some 4, .mv (.tmp 18), none, []⟩] [18])
     .ret)
     .skip))
  (.seq
   (.region false [⟨some 20, .mv (.tmp 0), none, []⟩,
     ⟨some 21, .call (.func 24) [(.tmp 20)], none, []⟩,
     ⟨some 22, .mv (.tmp 1), none, []⟩,
     ⟨some 23, .call (.func 24) [(.tmp 22)], none, []⟩,
     ⟨some 24, .call (.func 51) [(.tmp 21), (.tmp 23)], none, []⟩,
     ⟨some 19, .mv (.tmp 24), none, []⟩,
     ⟨some 25, .ext (.tmp 19) 0, none, []⟩,
     ⟨some 26, .ext (.tmp 19) 1, none, []⟩,
     ⟨some 5, .mv (.tmp 25), none, []⟩,
     ⟨some 6, .mv (.tmp 26), none, []⟩] [20, 21, 22, 23, 24, 19, 25, 26])
  (.seq
   (.region false [⟨some 28, .mv (.tmp 0), none, []⟩,
     ⟨some 29, .mv (.tmp 1), none, []⟩,
     ⟨some 30, .call (.func 52) [(.tmp 28), (.tmp 29)], none, []⟩,
     ⟨some 27, .mv (.tmp 30), none, []⟩,
     ⟨some 31, .ext (.tmp 27) 0, none, []⟩,
     ⟨some 32, .ext (.tmp 27) 1, none, []⟩,
     ⟨some 7, .mv (.tmp 31), none, []⟩,
     ⟨some 8, .mv (.tmp 32), none, []⟩] [28, 29, 30, 27, 31, 32])
  (.seq
   (.seq
    (.region false [⟨some 33, .mv (.tmp 5), none, []⟩,
      ⟨some 34, .len_ (.tmp 33), none, []⟩,
      ⟨some 35, .mv (.tmp 7), none, []⟩,
      ⟨some 36, .len_ (.tmp 35), none, []⟩,
      ⟨some 37, .bin .neq (.tmp 34) (.tmp 36), none, []⟩,
      ⟨some 38, .mv (.tmp 37), none, []⟩,
      ⟨some 39, .mv (.tmp 6), (some (some 38, false)), []⟩,
      ⟨some 40, .mv (.tmp 8), (some (some 38, false)), []⟩,
      ⟨some 41, .bin .neq (.tmp 39) (.tmp 40), (some (some 38, false)), []⟩,
      ⟨some 42, .pick (.tmp 38) (.const (.bool true)) (.tmp 41), none, []⟩] [33, 34, 35, 36, 37, 38, 39, 40, 41])
   (.cond (.tmp 42)
     (.seq
      (.region false [⟨some 4, .mv (.const (.bool false)), none, []⟩] [])
     .ret)
     .skip))
  (.seq
   (.seq
    (.region false [⟨some 9, .mv (.const (.int .i64 0)), none, []⟩] [])
   (.block 0
     (.loop
       (.seq
        (.seq
         (.region false [⟨some 43, .mv (.tmp 9), none, []⟩,
           ⟨some 44, .mv (.tmp 5), none, []⟩,
           ⟨some 45, .len_ (.tmp 44), none, []⟩,
           ⟨some 46, .bin .lss (.tmp 43) (.tmp 45), none, []⟩] [43, 44, 45])
        (.cond (.tmp 46)
          .skip
          (.exit 0)))
       (.seq
        (.block 1
          (.seq
           (.region true [⟨some 49, .mv (.tmp 5), none, []⟩,
             ⟨some 50, .mv (.tmp 9), none, []⟩,
             ⟨some 51, .iadS 1 (.tmp 49) (.tmp 50), none, [0, 1]⟩,
             ⟨some 52, .load1 (.tmp 51), none, [2, 0, 1]⟩,
             ⟨some 53, .mv (.tmp 7), none, []⟩,
             ⟨some 54, .mv (.tmp 9), none, []⟩,
             ⟨some 55, .iadS 1 (.tmp 53) (.tmp 54), none, [4, 5]⟩,
             ⟨some 56, .load1 (.tmp 55), none, [6, 4, 5]⟩,
             ⟨some 57, .call (.func 53) [(.tmp 52), (.tmp 56)], none, [3, 2, 0, 1, 7, 6, 4, 5]⟩,
             ⟨some 58, .un .not (.tmp 57), none, [8, 3, 2, 0, 1, 7, 6, 4, 5]⟩] [49, 50, 51, 52, 53, 54, 55, 56, 57])
          (.cond (.tmp 58)
            (.seq
             (.region false [⟨some 4, .mv (.const (.bool false)), none, []⟩] [])
            .ret)
            .skip)))
       (.region false [⟨some 47, .mv (.tmp 9), none, []⟩,
         ⟨some 48, .bin .add (.tmp 47) (.const (.int .i64 1)), none, []⟩,
         ⟨some 9, .mv (.tmp 48), none, []⟩] [47, 48]))))))
  (.seq
   (.region false [⟨some 59, .call (.func 19) [], none, []⟩,
     ⟨some 4, .mv (.tmp 59), none, []⟩] [59])
  .ret)))))))
set_option maxRecDepth 100000 in
theorem klaw01_SpansMinus : IsCode Try.prog 12 60 claw01_SpansMinus [.tmp 4] :=
  ⟨Try.f12, _, [58, 46, 42, 17, 0, 1, 5, 7, 6, 8, 9, 4], Try.func12, rfl, by decide, rfl, by kernel_rfl, by kernel_rfl⟩
/-- law01_SpansLost -/
def claw01_SpansLost : ACode :=
  (.seq
   (.region false [⟨some 6, .mv (.const (.bool false)), none, []⟩] [])
  (.seq
   (.seq
    (.region false [⟨some 11, .mv (.tmp 0), none, []⟩,
      ⟨some 12, .call (.func 25) [(.tmp 11)], none, []⟩,
      ⟨some 13, .bin .neq (.tmp 12) (.const (.int .i64 0)), none, []⟩,
      ⟨some 14, .mv (.tmp 13), none, []⟩,
      ⟨some 15, .mv (.tmp 1), (some (some 14, false)), []⟩,
      ⟨some 16, .call (.func 25) [(.tmp 15)], (some (some 14, false)), []⟩,
      ⟨some 17, .bin .neq (.tmp 16) (.const (.int .i64 0)), (some (some 14, false)), []⟩,
      ⟨some 18, .pick (.tmp 14) (.const (.bool true)) (.tmp 17), none, []⟩,
      ⟨some 19, .mv (.tmp 18), none, []⟩,
      ⟨some 20, .mv (.tmp 0), (some (some 19, false)), []⟩,
      ⟨some 21, .len_ (.tmp 20), (some (some 19, false)), []⟩,
      ⟨some 22, .mv (.tmp 1), (some (some 19, false)), []⟩,
      ⟨some 23, .len_ (.tmp 22), (some (some 19, false)), []⟩,
      ⟨some 24, .bin .neq (.tmp 21) (.tmp 23), (some (some 19, false)), []⟩,
      ⟨some 25, .pick (.tmp 19) (.const (.bool true)) (.tmp 24), none, []⟩,
      ⟨some 26, .mv (.tmp 25), none, []⟩,
      ⟨some 27, .mv (.tmp 2), (some (some 26, false)), []⟩,
      ⟨some 28, .len_ (.tmp 27), (some (some 26, false)), []⟩,
      ⟨some 29, .mv (.tmp 0), (some (some 26, false)), []⟩,
      ⟨some 30, .len_ (.tmp 29), (some (some 26, false)), []⟩,
      ⟨some 31, .bin .neq (.tmp 28) (.tmp 30), (some (some 26, false)), []⟩,
      ⟨some 32, .pick (.tmp 26) (.const (.bool true)) (.tmp 31), none, []⟩] [11, 12, 13, 14, 15, 16, 17, 18, 19, 20, 21, 22, 23, 24, 25, 26, 27, 28, 29, 30, 31])
   (.cond (.tmp 32)
     (.seq
      (.region false [⟨some 33, .call (.func 19) [], none, []⟩,
        ⟨some 6, .mv (.tmp 33), none, []⟩] [33])
     .ret)
     .skip))
  (.seq
   (.region false [⟨some 35, .mv (.tmp 0), none, []⟩,
     ⟨some 36, .call (.func 24) [(.tmp 35)], none, []⟩,
     ⟨some 37, .mv (.tmp 1), none, []⟩,
     ⟨some 38, .call (.func 24) [(.tmp 37)], none, []⟩,
     ⟨some 39, .call (.func 51) [(.tmp 36), (.tmp 38)], none, []⟩,
     ⟨some 34, .mv (.tmp 39), none, []⟩,
     ⟨some 40, .ext (.tmp 34) 0, none, []⟩,
     ⟨some 41, .ext (.tmp 34) 1, none, []⟩,
     ⟨some 7, .mv (.tmp 40), none, []⟩,
     ⟨some 8, .mv (.tmp 41), none, []⟩] [35, 36, 37, 38, 39, 34, 40, 41])
  (.seq
   (.seq
    (.region false [⟨some 42, .mv (.tmp 8), none, []⟩,
      ⟨some 43, .bin .neq (.tmp 42) (.const (.int .i64 0)), none, []⟩] [42])
   (.cond (.tmp 43)
     (.seq
      (.region false [⟨some 6, .mv (.const (.bool false)), none, []⟩] [])
     .ret)
     .skip))
  (.seq
   (.region false [⟨some 9, .mv (.const (.int .i64 0)), none, []⟩] [])
  (.seq
   (.seq
    (.region false [⟨some 10, .mv (.const (.int .i64 0)), none, []⟩] [])
   (.block 0
     (.loop
       (.seq
        (.seq
         (.region false [⟨some 44, .mv (.tmp 10), none, []⟩,
           ⟨some 45, .mv (.tmp 7), none, []⟩,
           ⟨some 46, .len_ (.tmp 45), none, []⟩,
           ⟨some 47, .bin .lss (.tmp 44) (.tmp 46), none, []⟩] [44, 45, 46])
        (.cond (.tmp 47)
          .skip
          (.exit 0)))
       (.seq
        (.block 1
          (.seq
           (.seq
            (.region false [⟨some 50, .mv (.tmp 7), none, []⟩,
              ⟨some 51, .mv (.tmp 10), none, []⟩,
              ⟨some 52, .iadS 1 (.tmp 50) (.tmp 51), none, []⟩,
              ⟨some 53, .load1 (.tmp 52), none, []⟩,
              ⟨some 54, .call (.func 25) [(.tmp 53)], none, []⟩,
              ⟨some 55, .bin .neq (.tmp 54) (.const (.int .i64 0)), none, []⟩,
              ⟨some 56, .mv (.tmp 55), none, []⟩,
              ⟨some 57, .mv (.tmp 7), (some (some 56, false)), []⟩,
              ⟨some 58, .mv (.tmp 10), (some (some 56, false)), []⟩,
              ⟨some 59, .iadS 1 (.tmp 57) (.tmp 58), (some (some 56, false)), []⟩,
              ⟨some 60, .load1 (.tmp 59), (some (some 56, false)), []⟩,
              ⟨some 61, .len_ (.tmp 60), (some (some 56, false)), []⟩,
              ⟨some 62, .mv (.tmp 0), (some (some 56, false)), []⟩,
              ⟨some 63, .len_ (.tmp 62), (some (some 56, false)), []⟩,
              ⟨some 64, .bin .neq (.tmp 61) (.tmp 63), (some (some 56, false)), []⟩,
              ⟨some 65, .pick (.tmp 56) (.const (.bool true)) (.tmp 64), none, []⟩] [50, 51, 52, 53, 54, 55, 56, 57, 58, 59, 60, 61, 62, 63, 64])
           (.cond (.tmp 65)
             (.seq
              (.region false [⟨some 6, .mv (.const (.bool false)), none, []⟩] [])
             .ret)
             .skip))
          (.seq
           (.region false [⟨some 66, .mv (.tmp 2), none, []⟩,
             ⟨some 67, .mv (.tmp 7), none, []⟩,
             ⟨some 68, .mv (.tmp 10), none, []⟩,
             ⟨some 69, .iadS 1 (.tmp 67) (.tmp 68), none, []⟩,
             ⟨some 70, .load1 (.tmp 69), none, []⟩,
             ⟨some 71, .call (.func 54) [(.tmp 66), (.tmp 70)], none, []⟩] [66, 67, 68, 69, 70])
          (.cond (.tmp 71)
            (.region false [⟨some 72, .mv (.tmp 9), none, []⟩,
              ⟨some 73, .bin .add (.tmp 72) (.const (.int .i64 1)), none, []⟩,
              ⟨some 9, .mv (.tmp 73), none, []⟩] [72, 73])
            .skip))))
       (.region false [⟨some 48, .mv (.tmp 10), none, []⟩,
         ⟨some 49, .bin .add (.tmp 48) (.const (.int .i64 1)), none, []⟩,
         ⟨some 10, .mv (.tmp 49), none, []⟩] [48, 49]))))))
  (.seq
   (.seq
    (.region false [⟨some 74, .mv (.tmp 2), none, []⟩,
      ⟨some 75, .mv (.tmp 0), none, []⟩,
      ⟨some 76, .call (.func 54) [(.tmp 74), (.tmp 75)], none, []⟩,
      ⟨some 77, .mv (.tmp 76), none, []⟩,
      ⟨some 78, .mv (.tmp 2), (some (some 77, true)), []⟩,
      ⟨some 79, .mv (.tmp 1), (some (some 77, true)), []⟩,
      ⟨some 80, .call (.func 54) [(.tmp 78), (.tmp 79)], (some (some 77, true)), []⟩,
      ⟨some 81, .un .not (.tmp 80), (some (some 77, true)), []⟩,
      ⟨some 82, .pick (.tmp 77) (.tmp 81) (.const (.bool false)), none, []⟩] [74, 75, 76, 77, 78, 79, 80, 81])
   (.cond (.tmp 82)
     (.seq
      (.region false [⟨some 83, .mv (.tmp 9), none, []⟩,
        ⟨some 84, .bin .eql (.tmp 83) (.const (.int .i64 1)), none, []⟩,
        ⟨some 85, .mv (.tmp 84), none, []⟩,
        ⟨some 86, .call (.func 19) [], (some (some 85, true)), []⟩,
        ⟨some 87, .pick (.tmp 85) (.tmp 86) (.const (.bool false)), none, []⟩,
        ⟨some 6, .mv (.tmp 87), none, []⟩] [83, 84, 85, 86, 87])
     .ret)
     .skip))
  (.seq
   (.region false [⟨some 88, .mv (.tmp 9), none, []⟩,
     ⟨some 89, .bin .eql (.tmp 88) (.const (.int .i64 0)), none, []⟩,
     ⟨some 90, .mv (.tmp 89), none, []⟩,
     ⟨some 91, .call (.func 19) [], (some (some 90, true)), []⟩,
     ⟨some 92, .pick (.tmp 90) (.tmp 91) (.const (.bool false)), none, []⟩,
     ⟨some 6, .mv (.tmp 92), none, []⟩] [88, 89, 90, 91, 92])
  .ret))))))))
set_option maxRecDepth 100000 in
theorem klaw01_SpansLost : IsCode Try.prog 13 93 claw01_SpansLost [.tmp 6] :=
  ⟨Try.f13, _, [82, 71, 65, 47, 43, 32, 0, 1, 2, 8, 10, 7, 9, 6], Try.func13, rfl, by decide, rfl, by kernel_rfl, by kernel_rfl⟩
end Go.Proofs.Ytfaiogajaaclcaa
