/- Texts of the law SpansCovered, part 3. No conditions. -/
import Derived.Test.YtfaiogajaaclcaaPSpansCovered02
import Derived.Test.YtfaiogajaaclcaaRows
/- The functions' bodies, translated. Written by a program; no conditions. -/
namespace Go.Proofs.Ytfaiogajaaclcaa
open Go.RowKit Lift

/-- spans_check -/
def cspans_check : ACode :=
  (.seq
   (.region false [⟨some 2, .mv (.const (.int .i64 0)), none, []⟩] [])
  (.seq
   (.seq
    (.region false [⟨some 8, .mv (.tmp 0), none, []⟩,
      ⟨some 9, .len_ (.tmp 8), none, []⟩,
      ⟨some 10, .mv (.const (.int .i64 0)), none, []⟩] [])
   (.block 0
     (.loop
       (.seq
        (.region false [⟨some 11, .bin .lss (.tmp 10) (.tmp 9), none, []⟩] [])
       (.seq
        (.cond (.tmp 11)
          .skip
          (.exit 0))
       (.seq
        (.block 1
          (.seq
           (.region false [⟨some 12, .iadS 1 (.tmp 8) (.tmp 10), none, []⟩,
             ⟨some 13, .load1 (.tmp 12), none, []⟩,
             ⟨some 4, .mv (.tmp 13), none, []⟩] [12, 13])
          (.seq
           (.region false [⟨some 14, .mv (.tmp 4), none, []⟩,
             ⟨some 15, .call (.func 23) [(.tmp 14)], none, []⟩,
             ⟨some 5, .mv (.tmp 15), none, []⟩] [14, 15])
          (.seq
           (.region false [⟨some 16, .mv (.tmp 5), none, []⟩,
             ⟨some 17, .bin .neq (.tmp 16) (.const (.int .i64 0)), none, []⟩] [16])
          (.cond (.tmp 17)
            (.seq
             (.region false [⟨some 18, .mv (.tmp 5), none, []⟩,
               ⟨some 2, .mv (.tmp 18), none, []⟩] [18])
            .ret)
            .skip)))))
       (.region false [⟨some 19, .bin .add (.tmp 10) (.const (.int .i64 1)), none, []⟩,
         ⟨some 10, .mv (.tmp 19), none, []⟩] [19])))))))
  (.seq
   (.seq
    (.region false [⟨some 20, .mv (.tmp 0), none, []⟩,
      ⟨some 21, .len_ (.tmp 20), none, []⟩,
      ⟨some 22, .mv (.const (.int .i64 0)), none, []⟩] [])
   (.block 2
     (.loop
       (.seq
        (.region false [⟨some 23, .bin .lss (.tmp 22) (.tmp 21), none, []⟩] [])
       (.seq
        (.cond (.tmp 23)
          .skip
          (.exit 2))
       (.seq
        (.block 3
          (.seq
           (.region false [⟨some 24, .iadS 1 (.tmp 20) (.tmp 22), none, []⟩,
             ⟨some 25, .load1 (.tmp 24), none, []⟩,
             ⟨some 7, .mv (.tmp 25), none, []⟩] [24, 25])
          (.seq
           (.region false [⟨some 26, .mv (.tmp 7), none, []⟩,
             ⟨some 27, .len_ (.tmp 26), none, []⟩,
             ⟨some 28, .mv (.tmp 0), none, []⟩,
             ⟨some 29, .iadS 1 (.tmp 28) (.const (.int .i64 0)), none, []⟩,
             ⟨some 30, .load1 (.tmp 29), none, []⟩,
             ⟨some 31, .len_ (.tmp 30), none, []⟩,
             ⟨some 32, .bin .neq (.tmp 27) (.tmp 31), none, []⟩] [26, 27, 28, 29, 30, 31])
          (.cond (.tmp 32)
            (.seq
             (.region false [⟨some 2, .mv (.const (.int .i64 1)), none, []⟩] [])
            .ret)
            .skip))))
       (.region false [⟨some 33, .bin .add (.tmp 22) (.const (.int .i64 1)), none, []⟩,
         ⟨some 22, .mv (.tmp 33), none, []⟩] [33])))))))
  (.seq
   (.region false [⟨some 2, .mv (.const (.int .i64 0)), none, []⟩] [])
  .ret))))
set_option maxRecDepth 100000 in
theorem kspans_check : IsCode Try.prog 94 34 cspans_check [.tmp 2] :=
  ⟨Try.f94, _, [32, 23, 17, 11, 0, 10, 9, 8, 4, 5, 22, 21, 20, 7, 2], Try.func94, rfl, by decide, rfl, by kernel_rfl, by kernel_rfl⟩
/-- spans_corner -/
def cspans_corner : ACode :=
  (.seq
   (.region false [⟨some 2, .mv (.const (.slice none 0 0)), none, []⟩] [])
  (.seq
   (.seq
    (.region false [⟨some 5, .mv (.tmp 0), none, []⟩,
      ⟨some 6, .len_ (.tmp 5), none, []⟩,
      ⟨some 7, .mv (.const (.int .i64 0)), none, []⟩] [])
   (.block 0
     (.loop
       (.seq
        (.region false [⟨some 8, .bin .lss (.tmp 7) (.tmp 6), none, []⟩] [])
       (.seq
        (.cond (.tmp 8)
          .skip
          (.exit 0))
       (.seq
        (.block 1
          (.seq
           (.region false [⟨some 9, .iadS 2 (.tmp 5) (.tmp 7), none, []⟩,
             ⟨some 10, .loadN 2 (.tmp 9), none, []⟩,
             ⟨some 4, .mem [(.val (.int .i64 0)), (.val (.int .i64 0))], none, []⟩,
             ⟨none, .store 2 (.tmp 4) (.tmp 10), none, []⟩] [9, 10])
          (.region false [⟨some 11, .mv (.tmp 2), none, []⟩,
            ⟨some 12, .fad 0 (.tmp 4), none, []⟩,
            ⟨some 13, .load1 (.tmp 12), none, []⟩,
            ⟨some 14, .buildSl 1 1 [(.val (.int .i64 0))] [(0, 1, (.tmp 13))], none, []⟩,
            ⟨some 15, .app 1 8 (.tmp 11) (.tmp 14), none, []⟩,
            ⟨some 2, .mv (.tmp 15), none, []⟩] [11, 12, 13, 14, 15])))
       (.region false [⟨some 16, .bin .add (.tmp 7) (.const (.int .i64 1)), none, []⟩,
         ⟨some 7, .mv (.tmp 16), none, []⟩] [16])))))))
  (.seq
   (.region false [⟨some 17, .mv (.tmp 2), none, []⟩,
     ⟨some 2, .mv (.tmp 17), none, []⟩] [17])
  .ret)))
set_option maxRecDepth 100000 in
theorem kspans_corner : IsCode Try.prog 98 18 cspans_corner [.tmp 2] :=
  ⟨Try.f98, _, [8, 0, 7, 6, 5, 2, 4], Try.func98, rfl, by decide, rfl, by kernel_rfl, by kernel_rfl⟩
/-- spans_Covers -/
def cspans_Covers : ACode :=
  (.seq
   (.region false [⟨some 4, .mv (.const (.slice none 0 0)), none, []⟩,
     ⟨some 5, .mv (.const (.bool false)), none, []⟩,
     ⟨some 6, .mv (.const (.int .i64 0)), none, []⟩] [])
  (.seq
   (.seq
    (.region false [⟨some 14, .mv (.tmp 1), none, []⟩,
      ⟨some 15, .len_ (.tmp 14), none, []⟩,
      ⟨some 16, .bin .gtr (.tmp 15) (.const (.int .i64 20)), none, []⟩] [14, 15])
   (.cond (.tmp 16)
     (.seq
      (.region false [⟨some 4, .mv (.const (.slice none 0 0)), none, []⟩,
        ⟨some 5, .mv (.const (.bool false)), none, []⟩,
        ⟨some 6, .mv (.const (.int .i64 2)), none, []⟩] [])
     .ret)
     .skip))
  (.seq
   (.seq
    (.region false [⟨some 17, .mv (.tmp 0), none, []⟩,
      ⟨some 18, .buildSl 1 1 [(.val (.slice none 0 0))] [(0, 1, (.tmp 17))], none, []⟩,
      ⟨some 19, .mv (.tmp 1), none, []⟩,
      ⟨some 20, .app 1 24 (.tmp 18) (.tmp 19), none, []⟩,
      ⟨some 21, .call (.func 94) [(.tmp 20)], none, []⟩,
      ⟨some 7, .mv (.tmp 21), none, []⟩] [17, 18, 19, 20, 21])
   (.seq
    (.region false [⟨some 22, .mv (.tmp 7), none, []⟩,
      ⟨some 23, .bin .neq (.tmp 22) (.const (.int .i64 0)), none, []⟩] [22])
   (.cond (.tmp 23)
     (.seq
      (.region false [⟨some 24, .mv (.tmp 7), none, []⟩,
        ⟨some 4, .mv (.const (.slice none 0 0)), none, []⟩,
        ⟨some 5, .mv (.const (.bool false)), none, []⟩,
        ⟨some 6, .mv (.tmp 24), none, []⟩] [24])
     .ret)
     .skip)))
  (.seq
   (.region false [⟨some 25, .mv (.tmp 0), none, []⟩,
     ⟨some 26, .buildSl 1 1 [(.val (.slice none 0 0))] [(0, 1, (.tmp 25))], none, []⟩,
     ⟨some 8, .mv (.tmp 26), none, []⟩] [25, 26])
  (.seq
   (.seq
    (.region false [⟨some 27, .mv (.tmp 1), none, []⟩,
      ⟨some 28, .len_ (.tmp 27), none, []⟩,
      ⟨some 29, .mv (.const (.int .i64 0)), none, []⟩] [])
   (.block 0
     (.loop
       (.seq
        (.region false [⟨some 30, .bin .lss (.tmp 29) (.tmp 28), none, []⟩] [])
       (.seq
        (.cond (.tmp 30)
          .skip
          (.exit 0))
       (.seq
        (.block 1
          (.seq
           (.region false [⟨some 31, .iadS 1 (.tmp 27) (.tmp 29), none, []⟩,
             ⟨some 32, .load1 (.tmp 31), none, []⟩,
             ⟨some 10, .mv (.tmp 32), none, []⟩] [31, 32])
          (.region false [⟨some 33, .mv (.tmp 8), none, []⟩,
            ⟨some 34, .mv (.tmp 10), none, []⟩,
            ⟨some 35, .call (.func 93) [(.tmp 33), (.tmp 34)], none, []⟩,
            ⟨some 8, .mv (.tmp 35), none, []⟩] [33, 34, 35])))
       (.region false [⟨some 36, .bin .add (.tmp 29) (.const (.int .i64 1)), none, []⟩,
         ⟨some 29, .mv (.tmp 36), none, []⟩] [36])))))))
  (.seq
   (.seq
    (.region false [⟨some 37, .mv (.tmp 8), none, []⟩,
      ⟨some 38, .len_ (.tmp 37), none, []⟩,
      ⟨some 39, .mv (.const (.int .i64 0)), none, []⟩] [])
   (.block 2
     (.loop
       (.seq
        (.region false [⟨some 40, .bin .lss (.tmp 39) (.tmp 38), none, []⟩] [])
       (.seq
        (.cond (.tmp 40)
          .skip
          (.exit 2))
       (.seq
        (.block 3
          (.seq
           (.region false [⟨some 41, .iadS 1 (.tmp 37) (.tmp 39), none, []⟩,
             ⟨some 42, .load1 (.tmp 41), none, []⟩,
             ⟨some 12, .mv (.tmp 42), none, []⟩] [41, 42])
          (.seq
           (.region false [⟨some 43, .mv (.tmp 12), none, []⟩,
             ⟨some 44, .call (.func 98) [(.tmp 43)], none, []⟩,
             ⟨some 13, .mv (.tmp 44), none, []⟩] [43, 44])
          (.seq
           (.region false [⟨some 45, .mv (.tmp 4), none, []⟩,
             ⟨some 46, .eqn false (.tmp 45) (.const (.slice none 0 0)), none, []⟩,
             ⟨some 47, .mv (.tmp 46), none, []⟩,
             ⟨some 48, .mv (.tmp 13), (some (some 47, false)), []⟩,
             ⟨some 49, .mv (.tmp 4), (some (some 47, false)), []⟩,
             ⟨some 50, .call (.func 99) [(.tmp 48), (.tmp 49)], (some (some 47, false)), []⟩,
             ⟨some 51, .bin .lss (.tmp 50) (.const (.int .i64 0)), (some (some 47, false)), []⟩,
             ⟨some 52, .pick (.tmp 47) (.const (.bool true)) (.tmp 51), none, []⟩] [45, 46, 47, 48, 49, 50, 51])
          (.cond (.tmp 52)
            (.region false [⟨some 53, .mv (.tmp 13), none, []⟩,
              ⟨some 4, .mv (.tmp 53), none, []⟩] [53])
            .skip)))))
       (.region false [⟨some 54, .bin .add (.tmp 39) (.const (.int .i64 1)), none, []⟩,
         ⟨some 39, .mv (.tmp 54), none, []⟩] [54])))))))
  (.seq
   (.region false [⟨some 55, .mv (.tmp 4), none, []⟩,
     ⟨some 56, .mv (.tmp 4), none, []⟩,
     ⟨some 57, .eqn false (.tmp 56) (.const (.slice none 0 0)), none, []⟩,
     ⟨some 4, .mv (.tmp 55), none, []⟩,
     ⟨some 5, .mv (.tmp 57), none, []⟩,
     ⟨some 6, .mv (.const (.int .i64 0)), none, []⟩] [55, 56, 57])
  .ret)))))))
set_option maxRecDepth 100000 in
theorem kspans_Covers : IsCode Try.prog 59 58 cspans_Covers [.tmp 4, .tmp 5, .tmp 6] :=
  ⟨Try.f59, _, [52, 40, 30, 23, 16, 1, 0, 7, 29, 28, 27, 8, 10, 39, 38, 37, 12, 4, 13, 5, 6], Try.func59, rfl, by decide, rfl, by kernel_rfl, by kernel_rfl⟩
/-- spans_Count -/
def cspans_Count : ACode :=
  (.seq
   (.region false [⟨some 2, .mv (.const (.int .i64 0)), none, []⟩,
     ⟨some 3, .mv (.const (.int .i64 0)), none, []⟩] [])
  (.seq
   (.seq
    (.region false [⟨some 15, .mv (.tmp 0), none, []⟩,
      ⟨some 16, .len_ (.tmp 15), none, []⟩,
      ⟨some 17, .bin .gtr (.tmp 16) (.const (.int .i64 20)), none, []⟩] [15, 16])
   (.cond (.tmp 17)
     (.seq
      (.region false [⟨some 2, .mv (.const (.int .i64 0)), none, []⟩,
        ⟨some 3, .mv (.const (.int .i64 2)), none, []⟩] [])
     .ret)
     .skip))
  (.seq
   (.seq
    (.region false [⟨some 18, .mv (.tmp 0), none, []⟩,
      ⟨some 19, .call (.func 94) [(.tmp 18)], none, []⟩,
      ⟨some 4, .mv (.tmp 19), none, []⟩] [18, 19])
   (.seq
    (.region false [⟨some 20, .mv (.tmp 4), none, []⟩,
      ⟨some 21, .bin .neq (.tmp 20) (.const (.int .i64 0)), none, []⟩] [20])
   (.cond (.tmp 21)
     (.seq
      (.region false [⟨some 22, .mv (.tmp 4), none, []⟩,
        ⟨some 2, .mv (.const (.int .i64 0)), none, []⟩,
        ⟨some 3, .mv (.tmp 22), none, []⟩] [22])
     .ret)
     .skip)))
  (.seq
   (.seq
    (.region false [⟨some 23, .mv (.tmp 0), none, []⟩,
      ⟨some 24, .len_ (.tmp 23), none, []⟩,
      ⟨some 25, .mv (.const (.int .i64 0)), none, []⟩] [])
   (.block 0
     (.loop
       (.seq
        (.region false [⟨some 26, .bin .lss (.tmp 25) (.tmp 24), none, []⟩] [])
       (.seq
        (.cond (.tmp 26)
          .skip
          (.exit 0))
       (.seq
        (.block 1
          (.seq
           (.region false [⟨some 27, .mv (.tmp 25), none, []⟩,
             ⟨some 28, .iadS 1 (.tmp 23) (.tmp 25), none, []⟩,
             ⟨some 29, .load1 (.tmp 28), none, []⟩,
             ⟨some 5, .mv (.tmp 27), none, []⟩,
             ⟨some 6, .mv (.tmp 29), none, []⟩] [27, 28, 29])
          (.seq
           (.region false [⟨some 30, .mv (.tmp 6), none, []⟩,
             ⟨some 31, .buildSl 1 1 [(.val (.slice none 0 0))] [(0, 1, (.tmp 30))], none, []⟩,
             ⟨some 7, .mv (.tmp 31), none, []⟩] [30, 31])
          (.seq
           (.seq
            (.region false [⟨some 32, .mv (.tmp 0), none, []⟩,
              ⟨some 33, .mv (.tmp 5), none, []⟩,
              ⟨some 34, .slS 1 (.tmp 32) none (some (.tmp 33)), none, []⟩,
              ⟨some 35, .len_ (.tmp 34), none, []⟩,
              ⟨some 36, .mv (.const (.int .i64 0)), none, []⟩] [32, 33])
           (.block 2
             (.loop
               (.seq
                (.region false [⟨some 37, .bin .lss (.tmp 36) (.tmp 35), none, []⟩] [])
               (.seq
                (.cond (.tmp 37)
                  .skip
                  (.exit 2))
               (.seq
                (.block 3
                  (.seq
                   (.region false [⟨some 38, .iadS 1 (.tmp 34) (.tmp 36), none, []⟩,
                     ⟨some 39, .load1 (.tmp 38), none, []⟩,
                     ⟨some 9, .mv (.tmp 39), none, []⟩] [38, 39])
                  (.region false [⟨some 40, .mv (.tmp 7), none, []⟩,
                    ⟨some 41, .mv (.tmp 9), none, []⟩,
                    ⟨some 42, .call (.func 93) [(.tmp 40), (.tmp 41)], none, []⟩,
                    ⟨some 7, .mv (.tmp 42), none, []⟩] [40, 41, 42])))
               (.region false [⟨some 43, .bin .add (.tmp 36) (.const (.int .i64 1)), none, []⟩,
                 ⟨some 36, .mv (.tmp 43), none, []⟩] [43])))))))
          (.seq
           (.region false [⟨some 44, .mv (.tmp 7), none, []⟩,
             ⟨some 45, .len_ (.tmp 44), none, []⟩,
             ⟨some 46, .mv (.const (.int .i64 0)), none, []⟩] [])
          (.block 4
            (.loop
              (.seq
               (.region false [⟨some 47, .bin .lss (.tmp 46) (.tmp 45), none, []⟩] [])
              (.seq
               (.cond (.tmp 47)
                 .skip
                 (.exit 4))
              (.seq
               (.block 5
                 (.seq
                  (.region false [⟨some 48, .iadS 1 (.tmp 44) (.tmp 46), none, []⟩,
                    ⟨some 49, .load1 (.tmp 48), none, []⟩,
                    ⟨some 11, .mv (.tmp 49), none, []⟩] [48, 49])
                 (.seq
                  (.region false [⟨some 12, .mv (.const (.int .i64 1)), none, []⟩] [])
                 (.seq
                  (.seq
                   (.region false [⟨some 50, .mv (.tmp 11), none, []⟩,
                     ⟨some 51, .len_ (.tmp 50), none, []⟩,
                     ⟨some 52, .mv (.const (.int .i64 0)), none, []⟩] [])
                  (.block 6
                    (.loop
                      (.seq
                       (.region false [⟨some 53, .bin .lss (.tmp 52) (.tmp 51), none, []⟩] [])
                      (.seq
                       (.cond (.tmp 53)
                         .skip
                         (.exit 6))
                      (.seq
                       (.block 7
                         (.seq
                          (.region false [⟨some 54, .iadS 2 (.tmp 50) (.tmp 52), none, []⟩,
                            ⟨some 55, .loadN 2 (.tmp 54), none, []⟩,
                            ⟨some 14, .mem [(.val (.int .i64 0)), (.val (.int .i64 0))], none, []⟩,
                            ⟨none, .store 2 (.tmp 14) (.tmp 55), none, []⟩] [54, 55])
                         (.region false [⟨some 56, .mv (.tmp 12), none, []⟩,
                           ⟨some 57, .fad 1 (.tmp 14), none, []⟩,
                           ⟨some 58, .load1 (.tmp 57), none, []⟩,
                           ⟨some 59, .fad 0 (.tmp 14), none, []⟩,
                           ⟨some 60, .load1 (.tmp 59), none, []⟩,
                           ⟨some 61, .bin .sub (.tmp 58) (.tmp 60), none, []⟩,
                           ⟨some 62, .bin .add (.tmp 61) (.const (.int .i64 1)), none, []⟩,
                           ⟨some 63, .bin .mul (.tmp 56) (.tmp 62), none, []⟩,
                           ⟨some 12, .mv (.tmp 63), none, []⟩] [56, 57, 58, 59, 60, 61, 62, 63])))
                      (.region false [⟨some 64, .bin .add (.tmp 52) (.const (.int .i64 1)), none, []⟩,
                        ⟨some 52, .mv (.tmp 64), none, []⟩] [64])))))))
                 (.region false [⟨some 65, .mv (.tmp 2), none, []⟩,
                   ⟨some 66, .mv (.tmp 12), none, []⟩,
                   ⟨some 67, .bin .add (.tmp 65) (.tmp 66), none, []⟩,
                   ⟨some 68, .mnx false [(.tmp 67), (.const (.int .i64 1000000000000000000))], none, []⟩,
                   ⟨some 2, .mv (.tmp 68), none, []⟩] [65, 66, 67, 68])))))
              (.region false [⟨some 69, .bin .add (.tmp 46) (.const (.int .i64 1)), none, []⟩,
                ⟨some 46, .mv (.tmp 69), none, []⟩] [69])))))))))))
       (.region false [⟨some 70, .bin .add (.tmp 25) (.const (.int .i64 1)), none, []⟩,
         ⟨some 25, .mv (.tmp 70), none, []⟩] [70])))))))
  (.seq
   (.region false [⟨some 71, .mv (.tmp 2), none, []⟩,
     ⟨some 2, .mv (.tmp 71), none, []⟩,
     ⟨some 3, .mv (.const (.int .i64 0)), none, []⟩] [71])
  .ret)))))
set_option maxRecDepth 100000 in
theorem kspans_Count : IsCode Try.prog 56 72 cspans_Count [.tmp 2, .tmp 3] :=
  ⟨Try.f56, _, [53, 47, 37, 26, 21, 17, 0, 4, 25, 24, 23, 6, 5, 36, 35, 34, 7, 9, 46, 45, 44, 11, 52, 51, 50, 12, 14, 2, 3], Try.func56, rfl, by decide, rfl, by kernel_rfl, by kernel_rfl⟩
/-- slices_Compare_L_L_Jint_Kint_J -/
def cslices_Compare_L_L_Jint_Kint_J : ACode :=
  (.seq
   (.region false [⟨some 4, .mv (.const (.int .i64 0)), none, []⟩] [])
  (.seq
   (.seq
    (.region false [⟨some 9, .mv (.tmp 0), none, []⟩,
      ⟨some 10, .len_ (.tmp 9), none, []⟩,
      ⟨some 11, .mv (.const (.int .i64 0)), none, []⟩] [])
   (.block 0
     (.loop
       (.seq
        (.region false [⟨some 12, .bin .lss (.tmp 11) (.tmp 10), none, []⟩] [])
       (.seq
        (.cond (.tmp 12)
          .skip
          (.exit 0))
       (.seq
        (.block 1
          (.seq
           (.region false [⟨some 13, .mv (.tmp 11), none, []⟩,
             ⟨some 14, .iadS 1 (.tmp 9) (.tmp 11), none, []⟩,
             ⟨some 15, .load1 (.tmp 14), none, []⟩,
             ⟨some 5, .mv (.tmp 13), none, []⟩,
             ⟨some 6, .mv (.tmp 15), none, []⟩] [13, 14, 15])
          (.seq
           (.seq
            (.region false [⟨some 16, .mv (.tmp 5), none, []⟩,
              ⟨some 17, .mv (.tmp 1), none, []⟩,
              ⟨some 18, .len_ (.tmp 17), none, []⟩,
              ⟨some 19, .bin .geq (.tmp 16) (.tmp 18), none, []⟩] [16, 17, 18])
           (.cond (.tmp 19)
             (.seq
              (.region false [⟨some 4, .mv (.const (.int .i64 1)), none, []⟩] [])
             .ret)
             .skip))
          (.seq
           (.region false [⟨some 20, .mv (.tmp 1), none, []⟩,
             ⟨some 21, .mv (.tmp 5), none, []⟩,
             ⟨some 22, .iadS 1 (.tmp 20) (.tmp 21), none, []⟩,
             ⟨some 23, .load1 (.tmp 22), none, []⟩,
             ⟨some 7, .mv (.tmp 23), none, []⟩] [20, 21, 22, 23])
          (.seq
           (.region false [⟨some 24, .mv (.tmp 6), none, []⟩,
             ⟨some 25, .mv (.tmp 7), none, []⟩,
             ⟨some 26, .call (.func 112) [(.tmp 24), (.tmp 25)], none, []⟩,
             ⟨some 8, .mv (.tmp 26), none, []⟩] [24, 25, 26])
          (.seq
           (.region false [⟨some 27, .mv (.tmp 8), none, []⟩,
             ⟨some 28, .bin .neq (.tmp 27) (.const (.int .i64 0)), none, []⟩] [27])
          (.cond (.tmp 28)
            (.seq
             (.region false [⟨some 29, .mv (.tmp 8), none, []⟩,
               ⟨some 4, .mv (.tmp 29), none, []⟩] [29])
            .ret)
            .skip)))))))
       (.region false [⟨some 30, .bin .add (.tmp 11) (.const (.int .i64 1)), none, []⟩,
         ⟨some 11, .mv (.tmp 30), none, []⟩] [30])))))))
  (.seq
   (.seq
    (.region false [⟨some 31, .mv (.tmp 0), none, []⟩,
      ⟨some 32, .len_ (.tmp 31), none, []⟩,
      ⟨some 33, .mv (.tmp 1), none, []⟩,
      ⟨some 34, .len_ (.tmp 33), none, []⟩,
      ⟨some 35, .bin .lss (.tmp 32) (.tmp 34), none, []⟩] [31, 32, 33, 34])
   (.cond (.tmp 35)
     (.seq
      (.region false [⟨some 4, .mv (.const (.int .i64 (-1))), none, []⟩] [])
     .ret)
     .skip))
  (.seq
   (.region false [⟨some 4, .mv (.const (.int .i64 0)), none, []⟩] [])
  .ret))))
set_option maxRecDepth 100000 in
theorem kslices_Compare_L_L_Jint_Kint_J : IsCode Try.prog 99 36 cslices_Compare_L_L_Jint_Kint_J [.tmp 4] :=
  ⟨Try.f99, _, [35, 28, 19, 12, 0, 11, 10, 9, 5, 1, 6, 7, 8, 4], Try.func99, rfl, by decide, rfl, by kernel_rfl, by kernel_rfl⟩
/-- cmp_Compare_Lint_J -/
def ccmp_Compare_Lint_J : ACode :=
  (.seq
   (.region false [⟨some 4, .mv (.const (.int .i64 0)), none, []⟩] [])
  (.seq
   (.region false [⟨some 7, .mv (.tmp 0), none, []⟩,
     ⟨some 8, .call (.func 118) [(.tmp 7)], none, []⟩,
     ⟨some 5, .mv (.tmp 8), none, []⟩] [7, 8])
  (.seq
   (.region false [⟨some 9, .mv (.tmp 1), none, []⟩,
     ⟨some 10, .call (.func 118) [(.tmp 9)], none, []⟩,
     ⟨some 6, .mv (.tmp 10), none, []⟩] [9, 10])
  (.seq
   (.seq
    (.region false [⟨some 11, .mv (.tmp 5), none, []⟩] [])
   (.cond (.tmp 11)
     (.seq
      (.seq
       (.region false [⟨some 12, .mv (.tmp 6), none, []⟩] [])
      (.cond (.tmp 12)
        (.seq
         (.region false [⟨some 4, .mv (.const (.int .i64 0)), none, []⟩] [])
        .ret)
        .skip))
     (.seq
      (.region false [⟨some 4, .mv (.const (.int .i64 (-1))), none, []⟩] [])
     .ret))
     .skip))
  (.seq
   (.seq
    (.region false [⟨some 13, .mv (.tmp 6), none, []⟩] [])
   (.cond (.tmp 13)
     (.seq
      (.region false [⟨some 4, .mv (.const (.int .i64 1)), none, []⟩] [])
     .ret)
     .skip))
  (.seq
   (.seq
    (.region false [⟨some 14, .mv (.tmp 0), none, []⟩,
      ⟨some 15, .mv (.tmp 1), none, []⟩,
      ⟨some 16, .bin .lss (.tmp 14) (.tmp 15), none, []⟩] [14, 15])
   (.cond (.tmp 16)
     (.seq
      (.region false [⟨some 4, .mv (.const (.int .i64 (-1))), none, []⟩] [])
     .ret)
     .skip))
  (.seq
   (.seq
    (.region false [⟨some 17, .mv (.tmp 0), none, []⟩,
      ⟨some 18, .mv (.tmp 1), none, []⟩,
      ⟨some 19, .bin .gtr (.tmp 17) (.tmp 18), none, []⟩] [17, 18])
   (.cond (.tmp 19)
     (.seq
      (.region false [⟨some 4, .mv (.const (.int .i64 1)), none, []⟩] [])
     .ret)
     .skip))
  (.seq
   (.region false [⟨some 4, .mv (.const (.int .i64 0)), none, []⟩] [])
  .ret))))))))
set_option maxRecDepth 100000 in
theorem kcmp_Compare_Lint_J : IsCode Try.prog 112 20 ccmp_Compare_Lint_J [.tmp 4] :=
  ⟨Try.f112, _, [19, 16, 13, 12, 11, 0, 1, 5, 6, 4], Try.func112, rfl, by decide, rfl, by kernel_rfl, by kernel_rfl⟩
/-- cmp_isNaN_Lint_J -/
def ccmp_isNaN_Lint_J : ACode :=
  (.seq
   (.region false [⟨some 2, .mv (.const (.bool false)), none, []⟩] [])
  (.seq
   (.region false [⟨some 3, .mv (.tmp 0), none, []⟩,
     ⟨some 4, .mv (.tmp 0), none, []⟩,
     ⟨some 5, .bin .neq (.tmp 3) (.tmp 4), none, []⟩,
     ⟨some 2, .mv (.tmp 5), none, []⟩] [3, 4, 5])
  .ret))
set_option maxRecDepth 100000 in
theorem kcmp_isNaN_Lint_J : IsCode Try.prog 118 6 ccmp_isNaN_Lint_J [.tmp 2] :=
  ⟨Try.f118, _, [0, 2], Try.func118, rfl, by decide, rfl, by kernel_rfl, by kernel_rfl⟩
/-- ref01_CopyBoxes -/
def cref01_CopyBoxes : ACode :=
  (.seq
   (.region false [⟨some 2, .mv (.const (.slice none 0 0)), none, []⟩] [])
  (.seq
   (.region false [⟨some 3, .mv (.const (.slice none 0 0)), none, []⟩] [])
  (.seq
   (.seq
    (.region false [⟨some 4, .mv (.const (.int .i64 0)), none, []⟩] [])
   (.block 0
     (.loop
       (.seq
        (.seq
         (.region false [⟨some 5, .mv (.tmp 4), none, []⟩,
           ⟨some 6, .mv (.tmp 0), none, []⟩,
           ⟨some 7, .len_ (.tmp 6), none, []⟩,
           ⟨some 8, .bin .lss (.tmp 5) (.tmp 7), none, []⟩] [5, 6, 7])
        (.cond (.tmp 8)
          .skip
          (.exit 0)))
       (.seq
        (.block 1
          (.region false [⟨some 11, .mv (.tmp 3), none, []⟩,
            ⟨some 12, .buildSl 2 0 [] [], none, []⟩,
            ⟨some 13, .mv (.tmp 0), none, []⟩,
            ⟨some 14, .mv (.tmp 4), none, []⟩,
            ⟨some 15, .iadS 1 (.tmp 13) (.tmp 14), none, []⟩,
            ⟨some 16, .load1 (.tmp 15), none, []⟩,
            ⟨some 17, .app 2 16 (.tmp 12) (.tmp 16), none, []⟩,
            ⟨some 18, .buildSl 1 1 [(.val (.slice none 0 0))] [(0, 1, (.tmp 17))], none, []⟩,
            ⟨some 19, .app 1 24 (.tmp 11) (.tmp 18), none, []⟩,
            ⟨some 3, .mv (.tmp 19), none, []⟩] [11, 12, 13, 14, 15, 16, 17, 18, 19]))
       (.region false [⟨some 9, .mv (.tmp 4), none, []⟩,
         ⟨some 10, .bin .add (.tmp 9) (.const (.int .i64 1)), none, []⟩,
         ⟨some 4, .mv (.tmp 10), none, []⟩] [9, 10]))))))
  (.seq
   (.region false [⟨some 20, .mv (.tmp 3), none, []⟩,
     ⟨some 2, .mv (.tmp 20), none, []⟩] [20])
  .ret))))
set_option maxRecDepth 100000 in
theorem kref01_CopyBoxes : IsCode Try.prog 57 21 cref01_CopyBoxes [.tmp 2] :=
  ⟨Try.f57, _, [8, 4, 0, 3, 2], Try.func57, rfl, by decide, rfl, by kernel_rfl, by kernel_rfl⟩
/-- law01_before -/
def claw01_before : ACode :=
  (.seq
   (.region false [⟨some 4, .mv (.const (.bool false)), none, []⟩] [])
  (.seq
   (.seq
    (.region false [⟨some 5, .mv (.const (.int .i64 0)), none, []⟩] [])
   (.block 0
     (.loop
       (.seq
        (.seq
         (.region false [⟨some 6, .mv (.tmp 5), none, []⟩,
           ⟨some 7, .mv (.tmp 0), none, []⟩,
           ⟨some 8, .len_ (.tmp 7), none, []⟩,
           ⟨some 9, .bin .lss (.tmp 6) (.tmp 8), none, []⟩,
           ⟨some 10, .mv (.tmp 9), none, []⟩,
           ⟨some 11, .mv (.tmp 5), (some (some 10, true)), []⟩,
           ⟨some 12, .mv (.tmp 1), (some (some 10, true)), []⟩,
           ⟨some 13, .len_ (.tmp 12), (some (some 10, true)), []⟩,
           ⟨some 14, .bin .lss (.tmp 11) (.tmp 13), (some (some 10, true)), []⟩,
           ⟨some 15, .pick (.tmp 10) (.tmp 14) (.const (.bool false)), none, []⟩] [6, 7, 8, 9, 10, 11, 12, 13, 14])
        (.cond (.tmp 15)
          .skip
          (.exit 0)))
       (.seq
        (.block 1
          (.seq
           (.region true [⟨some 18, .mv (.tmp 0), none, []⟩,
             ⟨some 19, .mv (.tmp 5), none, []⟩,
             ⟨some 20, .iadS 1 (.tmp 18) (.tmp 19), none, [0, 1]⟩,
             ⟨some 21, .load1 (.tmp 20), none, [2, 0, 1]⟩,
             ⟨some 22, .mv (.tmp 1), none, []⟩,
             ⟨some 23, .mv (.tmp 5), none, []⟩,
             ⟨some 24, .iadS 1 (.tmp 22) (.tmp 23), none, [4, 5]⟩,
             ⟨some 25, .load1 (.tmp 24), none, [6, 4, 5]⟩,
             ⟨some 26, .bin .neq (.tmp 21) (.tmp 25), none, [3, 2, 0, 1, 7, 6, 4, 5]⟩] [18, 19, 20, 21, 22, 23, 24, 25])
          (.cond (.tmp 26)
            (.seq
             (.region true [⟨some 27, .mv (.tmp 0), none, []⟩,
               ⟨some 28, .mv (.tmp 5), none, []⟩,
               ⟨some 29, .iadS 1 (.tmp 27) (.tmp 28), none, [0, 1]⟩,
               ⟨some 30, .load1 (.tmp 29), none, [2, 0, 1]⟩,
               ⟨some 31, .mv (.tmp 1), none, []⟩,
               ⟨some 32, .mv (.tmp 5), none, []⟩,
               ⟨some 33, .iadS 1 (.tmp 31) (.tmp 32), none, [4, 5]⟩,
               ⟨some 34, .load1 (.tmp 33), none, [6, 4, 5]⟩,
               ⟨some 35, .bin .lss (.tmp 30) (.tmp 34), none, [3, 2, 0, 1, 7, 6, 4, 5]⟩,
               ⟨some 4, .mv (.tmp 35), none, [8, 3, 2, 0, 1, 7, 6, 4, 5]⟩] [27, 28, 29, 30, 31, 32, 33, 34, 35])
            .ret)
            .skip)))
       (.region false [⟨some 16, .mv (.tmp 5), none, []⟩,
         ⟨some 17, .bin .add (.tmp 16) (.const (.int .i64 1)), none, []⟩,
         ⟨some 5, .mv (.tmp 17), none, []⟩] [16, 17]))))))
  (.seq
   (.region false [⟨some 4, .mv (.const (.bool false)), none, []⟩] [])
  .ret)))
set_option maxRecDepth 100000 in
theorem klaw01_before : IsCode Try.prog 63 36 claw01_before [.tmp 4] :=
  ⟨Try.f63, _, [26, 15, 5, 0, 1, 4], Try.func63, rfl, by decide, rfl, by kernel_rfl, by kernel_rfl⟩
/-- law01_inOne -/
def claw01_inOne : ACode :=
  (.seq
   (.region false [⟨some 4, .mv (.const (.bool false)), none, []⟩] [])
  (.seq
   (.seq
    (.region false [⟨some 5, .mv (.const (.int .i64 0)), none, []⟩] [])
   (.block 0
     (.loop
       (.seq
        (.seq
         (.region false [⟨some 6, .mv (.tmp 5), none, []⟩,
           ⟨some 7, .mv (.tmp 1), none, []⟩,
           ⟨some 8, .len_ (.tmp 7), none, []⟩,
           ⟨some 9, .bin .lss (.tmp 6) (.tmp 8), none, []⟩] [6, 7, 8])
        (.cond (.tmp 9)
          .skip
          (.exit 0)))
       (.seq
        (.block 1
          (.seq
           (.region false [⟨some 12, .mv (.tmp 0), none, []⟩,
             ⟨some 13, .mv (.tmp 1), none, []⟩,
             ⟨some 14, .mv (.tmp 5), none, []⟩,
             ⟨some 15, .iadS 1 (.tmp 13) (.tmp 14), none, []⟩,
             ⟨some 16, .load1 (.tmp 15), none, []⟩,
             ⟨some 17, .call (.func 54) [(.tmp 12), (.tmp 16)], none, []⟩] [12, 13, 14, 15, 16])
          (.cond (.tmp 17)
            (.seq
             (.region false [⟨some 4, .mv (.const (.bool true)), none, []⟩] [])
            .ret)
            .skip)))
       (.region false [⟨some 10, .mv (.tmp 5), none, []⟩,
         ⟨some 11, .bin .add (.tmp 10) (.const (.int .i64 1)), none, []⟩,
         ⟨some 5, .mv (.tmp 11), none, []⟩] [10, 11]))))))
  (.seq
   (.region false [⟨some 4, .mv (.const (.bool false)), none, []⟩] [])
  .ret)))
set_option maxRecDepth 100000 in
theorem klaw01_inOne : IsCode Try.prog 62 18 claw01_inOne [.tmp 4] :=
  ⟨Try.f62, _, [17, 9, 5, 1, 0, 4], Try.func62, rfl, by decide, rfl, by kernel_rfl, by kernel_rfl⟩
/-- law01_SpansCovered -/
def claw01_SpansCovered : ACode :=
  (.seq
   (.region false [⟨some 6, .mv (.const (.bool false)), none, []⟩] [])
  (.seq
   (.seq
    (.region false [⟨some 19, .mv (.tmp 0), none, []⟩,
      ⟨some 20, .call (.func 25) [(.tmp 19)], none, []⟩,
      ⟨some 21, .bin .neq (.tmp 20) (.const (.int .i64 0)), none, []⟩,
      ⟨some 22, .mv (.tmp 21), none, []⟩,
      ⟨some 23, .mv (.tmp 1), (some (some 22, false)), []⟩,
      ⟨some 24, .len_ (.tmp 23), (some (some 22, false)), []⟩,
      ⟨some 25, .bin .gtr (.tmp 24) (.const (.int .i64 6)), (some (some 22, false)), []⟩,
      ⟨some 26, .pick (.tmp 22) (.const (.bool true)) (.tmp 25), none, []⟩,
      ⟨some 27, .mv (.tmp 26), none, []⟩,
      ⟨some 28, .mv (.tmp 2), (some (some 27, false)), []⟩,
      ⟨some 29, .len_ (.tmp 28), (some (some 27, false)), []⟩,
      ⟨some 30, .mv (.tmp 0), (some (some 27, false)), []⟩,
      ⟨some 31, .len_ (.tmp 30), (some (some 27, false)), []⟩,
      ⟨some 32, .bin .neq (.tmp 29) (.tmp 31), (some (some 27, false)), []⟩,
      ⟨some 33, .pick (.tmp 27) (.const (.bool true)) (.tmp 32), none, []⟩] [19, 20, 21, 22, 23, 24, 25, 26, 27, 28, 29, 30, 31, 32])
   (.cond (.tmp 33)
     (.seq
      (.region false [⟨some 34, .call (.func 19) [], none, []⟩,
        ⟨some 6, .mv (.tmp 34), none, []⟩] [34])
     .ret)
     .skip))
  (.seq
   (.seq
    (.region false [⟨some 7, .mv (.const (.int .i64 0)), none, []⟩] [])
   (.block 0
     (.loop
       (.seq
        (.seq
         (.region false [⟨some 35, .mv (.tmp 7), none, []⟩,
           ⟨some 36, .mv (.tmp 1), none, []⟩,
           ⟨some 37, .len_ (.tmp 36), none, []⟩,
           ⟨some 38, .bin .lss (.tmp 35) (.tmp 37), none, []⟩] [35, 36, 37])
        (.cond (.tmp 38)
          .skip
          (.exit 0)))
       (.seq
        (.block 1
          (.seq
           (.region false [⟨some 41, .mv (.tmp 1), none, []⟩,
             ⟨some 42, .mv (.tmp 7), none, []⟩,
             ⟨some 43, .iadS 1 (.tmp 41) (.tmp 42), none, []⟩,
             ⟨some 44, .load1 (.tmp 43), none, []⟩,
             ⟨some 45, .call (.func 25) [(.tmp 44)], none, []⟩,
             ⟨some 46, .bin .neq (.tmp 45) (.const (.int .i64 0)), none, []⟩,
             ⟨some 47, .mv (.tmp 46), none, []⟩,
             ⟨some 48, .mv (.tmp 1), (some (some 47, false)), []⟩,
             ⟨some 49, .mv (.tmp 7), (some (some 47, false)), []⟩,
             ⟨some 50, .iadS 1 (.tmp 48) (.tmp 49), (some (some 47, false)), []⟩,
             ⟨some 51, .load1 (.tmp 50), (some (some 47, false)), []⟩,
             ⟨some 52, .len_ (.tmp 51), (some (some 47, false)), []⟩,
             ⟨some 53, .mv (.tmp 0), (some (some 47, false)), []⟩,
             ⟨some 54, .len_ (.tmp 53), (some (some 47, false)), []⟩,
             ⟨some 55, .bin .neq (.tmp 52) (.tmp 54), (some (some 47, false)), []⟩,
             ⟨some 56, .pick (.tmp 47) (.const (.bool true)) (.tmp 55), none, []⟩] [41, 42, 43, 44, 45, 46, 47, 48, 49, 50, 51, 52, 53, 54, 55])
          (.cond (.tmp 56)
            (.seq
             (.region false [⟨some 57, .call (.func 19) [], none, []⟩,
               ⟨some 6, .mv (.tmp 57), none, []⟩] [57])
            .ret)
            .skip)))
       (.region false [⟨some 39, .mv (.tmp 7), none, []⟩,
         ⟨some 40, .bin .add (.tmp 39) (.const (.int .i64 1)), none, []⟩,
         ⟨some 7, .mv (.tmp 40), none, []⟩] [39, 40]))))))
  (.seq
   (.region false [⟨some 59, .mv (.tmp 0), none, []⟩,
     ⟨some 60, .call (.func 24) [(.tmp 59)], none, []⟩,
     ⟨some 61, .mv (.tmp 1), none, []⟩,
     ⟨some 62, .call (.func 57) [(.tmp 61)], none, []⟩,
     ⟨some 63, .call (.func 59) [(.tmp 60), (.tmp 62)], none, []⟩,
     ⟨some 58, .mv (.tmp 63), none, []⟩,
     ⟨some 64, .ext (.tmp 58) 0, none, []⟩,
     ⟨some 65, .ext (.tmp 58) 1, none, []⟩,
     ⟨some 66, .ext (.tmp 58) 2, none, []⟩,
     ⟨some 8, .mv (.tmp 64), none, []⟩,
     ⟨some 9, .mv (.tmp 65), none, []⟩,
     ⟨some 10, .mv (.tmp 66), none, []⟩] [59, 60, 61, 62, 63, 58, 64, 65, 66])
  (.seq
   (.seq
    (.region false [⟨some 67, .mv (.tmp 10), none, []⟩,
      ⟨some 68, .bin .neq (.tmp 67) (.const (.int .i64 0)), none, []⟩,
      ⟨some 69, .mv (.tmp 68), none, []⟩,
      ⟨some 70, .mv (.tmp 9), (some (some 69, false)), []⟩,
      ⟨some 71, .un .not (.tmp 70), (some (some 69, false)), []⟩,
      ⟨some 72, .mv (.tmp 71), (some (some 69, false)), []⟩,
      ⟨some 73, .mv (.tmp 8), (some (some 72, true)), []⟩,
      ⟨some 74, .len_ (.tmp 73), (some (some 72, true)), []⟩,
      ⟨some 75, .mv (.tmp 0), (some (some 72, true)), []⟩,
      ⟨some 76, .len_ (.tmp 75), (some (some 72, true)), []⟩,
      ⟨some 77, .bin .neq (.tmp 74) (.tmp 76), (some (some 72, true)), []⟩,
      ⟨some 78, .mv (.tmp 77), (some (some 72, true)), []⟩,
      ⟨some 79, .mv (.tmp 8), (some (some 78, false)), []⟩,
      ⟨some 80, .mv (.tmp 0), (some (some 78, false)), []⟩,
      ⟨some 81, .call (.func 54) [(.tmp 79), (.tmp 80)], (some (some 78, false)), []⟩,
      ⟨some 82, .un .not (.tmp 81), (some (some 78, false)), []⟩,
      ⟨some 83, .pick (.tmp 78) (.const (.bool true)) (.tmp 82), (some (some 72, true)), []⟩,
      ⟨some 84, .mv (.tmp 83), (some (some 72, true)), []⟩,
      ⟨some 85, .mv (.tmp 8), (some (some 84, false)), []⟩,
      ⟨some 86, .mv (.tmp 1), (some (some 84, false)), []⟩,
      ⟨some 87, .call (.func 62) [(.tmp 85), (.tmp 86)], (some (some 84, false)), []⟩,
      ⟨some 88, .pick (.tmp 84) (.const (.bool true)) (.tmp 87), (some (some 72, true)), []⟩,
      ⟨some 89, .pick (.tmp 72) (.tmp 88) (.const (.bool false)), (some (some 69, false)), []⟩,
      ⟨some 90, .pick (.tmp 69) (.const (.bool true)) (.tmp 89), none, []⟩] [67, 68, 69, 70, 71, 72, 73, 74, 75, 76, 77, 78, 79, 80, 81, 82, 83, 84, 85, 86, 87, 88, 89])
   (.cond (.tmp 90)
     (.seq
      (.region false [⟨some 6, .mv (.const (.bool false)), none, []⟩] [])
     .ret)
     .skip))
  (.seq
   (.seq
    (.region false [⟨some 91, .mv (.tmp 2), none, []⟩,
      ⟨some 92, .mv (.tmp 0), none, []⟩,
      ⟨some 93, .call (.func 54) [(.tmp 91), (.tmp 92)], none, []⟩,
      ⟨some 94, .mv (.tmp 93), none, []⟩,
      ⟨some 95, .mv (.tmp 2), (some (some 94, true)), []⟩,
      ⟨some 96, .mv (.tmp 1), (some (some 94, true)), []⟩,
      ⟨some 97, .call (.func 62) [(.tmp 95), (.tmp 96)], (some (some 94, true)), []⟩,
      ⟨some 98, .un .not (.tmp 97), (some (some 94, true)), []⟩,
      ⟨some 99, .pick (.tmp 94) (.tmp 98) (.const (.bool false)), none, []⟩,
      ⟨some 100, .mv (.tmp 99), none, []⟩,
      ⟨some 101, .mv (.tmp 9), (some (some 100, true)), []⟩,
      ⟨some 102, .mv (.tmp 101), (some (some 100, true)), []⟩,
      ⟨some 103, .mv (.tmp 2), (some (some 102, false)), []⟩,
      ⟨some 104, .mv (.tmp 8), (some (some 102, false)), []⟩,
      ⟨some 105, .call (.func 63) [(.tmp 103), (.tmp 104)], (some (some 102, false)), []⟩,
      ⟨some 106, .pick (.tmp 102) (.const (.bool true)) (.tmp 105), (some (some 100, true)), []⟩,
      ⟨some 107, .pick (.tmp 100) (.tmp 106) (.const (.bool false)), none, []⟩] [91, 92, 93, 94, 95, 96, 97, 98, 99, 100, 101, 102, 103, 104, 105, 106])
   (.cond (.tmp 107)
     (.seq
      (.region false [⟨some 6, .mv (.const (.bool false)), none, []⟩] [])
     .ret)
     .skip))
  (.seq
   (.region false [⟨some 108, .mv (.tmp 1), none, []⟩,
     ⟨some 109, .call (.func 57) [(.tmp 108)], none, []⟩,
     ⟨some 110, .mv (.tmp 0), none, []⟩,
     ⟨some 111, .call (.func 24) [(.tmp 110)], none, []⟩,
     ⟨some 112, .buildSl 1 1 [(.val (.slice none 0 0))] [(0, 1, (.tmp 111))], none, []⟩,
     ⟨some 113, .app 1 24 (.tmp 109) (.tmp 112), none, []⟩,
     ⟨some 11, .mv (.tmp 113), none, []⟩] [108, 109, 110, 111, 112, 113])
  (.seq
   (.region false [⟨some 115, .mv (.tmp 0), none, []⟩,
     ⟨some 116, .call (.func 24) [(.tmp 115)], none, []⟩,
     ⟨some 117, .mv (.tmp 11), none, []⟩,
     ⟨some 118, .call (.func 59) [(.tmp 116), (.tmp 117)], none, []⟩,
     ⟨some 114, .mv (.tmp 118), none, []⟩,
     ⟨some 119, .ext (.tmp 114) 0, none, []⟩,
     ⟨some 120, .ext (.tmp 114) 1, none, []⟩,
     ⟨some 121, .ext (.tmp 114) 2, none, []⟩,
     ⟨some 12, .mv (.tmp 119), none, []⟩,
     ⟨some 13, .mv (.tmp 120), none, []⟩,
     ⟨some 14, .mv (.tmp 121), none, []⟩] [115, 116, 117, 118, 114, 119, 120, 121, 12])
  (.seq
   (.region false [⟨some 123, .mv (.tmp 1), none, []⟩,
     ⟨some 124, .call (.func 57) [(.tmp 123)], none, []⟩,
     ⟨some 125, .call (.func 56) [(.tmp 124)], none, []⟩,
     ⟨some 122, .mv (.tmp 125), none, []⟩,
     ⟨some 126, .ext (.tmp 122) 0, none, []⟩,
     ⟨some 127, .ext (.tmp 122) 1, none, []⟩,
     ⟨some 15, .mv (.tmp 126), none, []⟩,
     ⟨some 16, .mv (.tmp 127), none, []⟩] [123, 124, 125, 122, 126, 127])
  (.seq
   (.region false [⟨some 129, .mv (.tmp 11), none, []⟩,
     ⟨some 130, .call (.func 56) [(.tmp 129)], none, []⟩,
     ⟨some 128, .mv (.tmp 130), none, []⟩,
     ⟨some 131, .ext (.tmp 128) 0, none, []⟩,
     ⟨some 132, .ext (.tmp 128) 1, none, []⟩,
     ⟨some 17, .mv (.tmp 131), none, []⟩,
     ⟨some 18, .mv (.tmp 132), none, []⟩] [129, 130, 128, 131, 132])
  (.seq
   (.seq
    (.region false [⟨some 133, .mv (.tmp 14), none, []⟩,
      ⟨some 134, .bin .neq (.tmp 133) (.const (.int .i64 0)), none, []⟩,
      ⟨some 135, .mv (.tmp 134), none, []⟩,
      ⟨some 136, .mv (.tmp 13), (some (some 135, false)), []⟩,
      ⟨some 137, .un .not (.tmp 136), (some (some 135, false)), []⟩,
      ⟨some 138, .pick (.tmp 135) (.const (.bool true)) (.tmp 137), none, []⟩,
      ⟨some 139, .mv (.tmp 138), none, []⟩,
      ⟨some 140, .mv (.tmp 16), (some (some 139, false)), []⟩,
      ⟨some 141, .bin .neq (.tmp 140) (.const (.int .i64 0)), (some (some 139, false)), []⟩,
      ⟨some 142, .pick (.tmp 139) (.const (.bool true)) (.tmp 141), none, []⟩,
      ⟨some 143, .mv (.tmp 142), none, []⟩,
      ⟨some 144, .mv (.tmp 18), (some (some 143, false)), []⟩,
      ⟨some 145, .bin .neq (.tmp 144) (.const (.int .i64 0)), (some (some 143, false)), []⟩,
      ⟨some 146, .pick (.tmp 143) (.const (.bool true)) (.tmp 145), none, []⟩] [133, 134, 135, 136, 137, 138, 139, 140, 141, 142, 143, 144, 145])
   (.cond (.tmp 146)
     (.seq
      (.region false [⟨some 6, .mv (.const (.bool false)), none, []⟩] [])
     .ret)
     .skip))
  (.seq
   (.region false [⟨some 147, .mv (.tmp 15), none, []⟩,
     ⟨some 148, .bin .geq (.tmp 147) (.const (.int .i64 1000000000000000000)), none, []⟩,
     ⟨some 149, .mv (.tmp 148), none, []⟩,
     ⟨some 150, .mv (.tmp 17), (some (some 149, false)), []⟩,
     ⟨some 151, .mv (.tmp 15), (some (some 149, false)), []⟩,
     ⟨some 152, .bin .eql (.tmp 150) (.tmp 151), (some (some 149, false)), []⟩,
     ⟨some 153, .mv (.tmp 9), (some (some 149, false)), []⟩,
     ⟨some 154, .eqb false (.tmp 152) (.tmp 153), (some (some 149, false)), []⟩,
     ⟨some 155, .pick (.tmp 149) (.const (.bool true)) (.tmp 154), none, []⟩,
     ⟨some 156, .mv (.tmp 155), none, []⟩,
     ⟨some 157, .mv (.tmp 17), (some (some 156, true)), []⟩,
     ⟨some 158, .mv (.tmp 15), (some (some 156, true)), []⟩,
     ⟨some 159, .bin .geq (.tmp 157) (.tmp 158), (some (some 156, true)), []⟩,
     ⟨some 160, .pick (.tmp 156) (.tmp 159) (.const (.bool false)), none, []⟩,
     ⟨some 161, .mv (.tmp 160), none, []⟩,
     ⟨some 162, .call (.func 19) [], (some (some 161, true)), []⟩,
     ⟨some 163, .pick (.tmp 161) (.tmp 162) (.const (.bool false)), none, []⟩,
     ⟨some 6, .mv (.tmp 163), none, []⟩] [147, 148, 149, 150, 151, 152, 153, 154, 155, 156, 157, 158, 159, 160, 161, 162, 163])
  .ret))))))))))))
set_option maxRecDepth 100000 in
theorem klaw01_SpansCovered : IsCode Try.prog 16 164 claw01_SpansCovered [.tmp 6] :=
  ⟨Try.f16, _, [146, 107, 90, 56, 38, 33, 0, 1, 2, 7, 10, 9, 8, 11, 14, 13, 16, 18, 15, 17, 6], Try.func16, rfl, by decide, rfl, by kernel_rfl, by kernel_rfl⟩
end Go.Proofs.Ytfaiogajaaclcaa
/- The functions' bodies, translated. Written by a program; no conditions. -/
namespace Go.Proofs.Ytfaiogajaaclcaa
open Go.RowKit Lift

/-- spans_minus_S1 -/
def cspans_minus_S1 : ACode :=
  (.seq
   (.region false [⟨some 9, .load1 (.tmp 1), none, []⟩,
     ⟨some 10, .call (.func 117) [(.tmp 9)], none, []⟩,
     ⟨some 4, .mv (.tmp 10), none, []⟩] [9, 10])
  (.seq
   (.region false [⟨some 11, .mv (.tmp 4), none, []⟩,
     ⟨some 12, .len_ (.tmp 11), none, []⟩,
     ⟨some 13, .mv (.const (.int .i64 0)), none, []⟩] [11])
  (.block 0
    (.loop
      (.seq
       (.region false [⟨some 14, .bin .lss (.tmp 13) (.tmp 12), none, []⟩] [])
      (.seq
       (.cond (.tmp 14)
         .skip
         (.exit 0))
      (.seq
       (.block 1
         (.seq
          (.region false [⟨some 15, .mv (.tmp 13), none, []⟩,
            ⟨some 5, .mv (.tmp 15), none, []⟩] [15])
         (.seq
          (.seq
           (.region true [⟨some 16, .mv (.tmp 4), none, []⟩,
             ⟨some 17, .mv (.tmp 5), none, []⟩,
             ⟨some 18, .iadS 2 (.tmp 16) (.tmp 17), none, [0, 1]⟩,
             ⟨some 19, .fad 0 (.tmp 18), none, [2, 0, 1]⟩,
             ⟨some 20, .load1 (.tmp 19), none, [3, 2, 0, 1]⟩,
             ⟨some 21, .mv (.tmp 4), none, []⟩,
             ⟨some 22, .mv (.tmp 5), none, []⟩,
             ⟨some 23, .iadS 2 (.tmp 21) (.tmp 22), none, [5, 6]⟩,
             ⟨some 24, .fad 1 (.tmp 23), none, [7, 5, 6]⟩,
             ⟨some 25, .load1 (.tmp 24), none, [8, 7, 5, 6]⟩,
             ⟨some 26, .load1 (.tmp 2), none, []⟩,
             ⟨some 27, .mv (.tmp 5), none, []⟩,
             ⟨some 28, .iadS 2 (.tmp 26) (.tmp 27), none, [10, 11]⟩,
             ⟨some 29, .fad 0 (.tmp 28), none, [12, 10, 11]⟩,
             ⟨some 30, .load1 (.tmp 29), none, [13, 12, 10, 11]⟩,
             ⟨some 31, .bin .sub (.tmp 30) (.const (.int .i64 1)), none, [14, 13, 12, 10, 11]⟩,
             ⟨some 32, .mnx false [(.tmp 25), (.tmp 31)], none, [9, 8, 7, 5, 6, 15, 14, 13, 12, 10, 11]⟩,
             ⟨some 33, .build [(.val (.int .i64 0)), (.val (.int .i64 0))] [(0, 1, (.tmp 20)), (1, 1, (.tmp 32))], none, [4, 3, 2, 0, 1, 16, 9, 8, 7, 5, 6, 15, 14, 13, 12, 10, 11]⟩,
             ⟨some 34, .mv (.tmp 4), none, []⟩,
             ⟨some 35, .mv (.tmp 5), none, []⟩,
             ⟨some 36, .iadS 2 (.tmp 34) (.tmp 35), none, [18, 19]⟩,
             ⟨some 37, .fad 0 (.tmp 36), none, [20, 18, 19]⟩,
             ⟨some 38, .load1 (.tmp 37), none, [21, 20, 18, 19]⟩,
             ⟨some 39, .load1 (.tmp 2), none, []⟩,
             ⟨some 40, .mv (.tmp 5), none, []⟩,
             ⟨some 41, .iadS 2 (.tmp 39) (.tmp 40), none, [23, 24]⟩,
             ⟨some 42, .fad 1 (.tmp 41), none, [25, 23, 24]⟩,
             ⟨some 43, .load1 (.tmp 42), none, [26, 25, 23, 24]⟩,
             ⟨some 44, .bin .add (.tmp 43) (.const (.int .i64 1)), none, [27, 26, 25, 23, 24]⟩,
             ⟨some 45, .mnx true [(.tmp 38), (.tmp 44)], none, [22, 21, 20, 18, 19, 28, 27, 26, 25, 23, 24]⟩,
             ⟨some 46, .mv (.tmp 4), none, []⟩,
             ⟨some 47, .mv (.tmp 5), none, []⟩,
             ⟨some 48, .iadS 2 (.tmp 46) (.tmp 47), none, [30, 31]⟩,
             ⟨some 49, .fad 1 (.tmp 48), none, [32, 30, 31]⟩,
             ⟨some 50, .load1 (.tmp 49), none, [33, 32, 30, 31]⟩,
             ⟨some 51, .build [(.val (.int .i64 0)), (.val (.int .i64 0))] [(0, 1, (.tmp 45)), (1, 1, (.tmp 50))], none, [29, 22, 21, 20, 18, 19, 28, 27, 26, 25, 23, 24, 34, 33, 32, 30, 31]⟩,
             ⟨some 52, .build [(.val (.int .i64 0)), (.val (.int .i64 0)), (.val (.int .i64 0)), (.val (.int .i64 0))] [(0, 2, (.tmp 33)), (2, 2, (.tmp 51))], none, [17, 4, 3, 2, 0, 1, 16, 9, 8, 7, 5, 6, 15, 14, 13, 12, 10, 11, 35, 29, 22, 21, 20, 18, 19, 28, 27, 26, 25, 23, 24, 34, 33, 32, 30, 31]⟩,
             ⟨some 53, .mv (.const (.int .i64 0)), none, []⟩] [16, 17, 18, 19, 20, 21, 22, 23, 24, 25, 26, 27, 28, 29, 30, 31, 32, 33, 34, 35, 36, 37, 38, 39, 40, 41, 42, 43, 44, 45, 46, 47, 48, 49, 50, 51])
          (.block 2
            (.loop
              (.seq
               (.region false [⟨some 54, .bin .lss (.tmp 53) (.const (.int .i64 2)), none, []⟩] [])
              (.seq
               (.cond (.tmp 54)
                 .skip
                 (.exit 2))
              (.seq
               (.block 3
                 (.seq
                  (.region false [⟨some 55, .idxN 2 2 (.tmp 52) (.tmp 53), none, []⟩,
                    ⟨some 7, .mem [(.val (.int .i64 0)), (.val (.int .i64 0))], none, []⟩,
                    ⟨none, .store 2 (.tmp 7) (.tmp 55), none, []⟩] [55])
                 (.seq
                  (.seq
                   (.region false [⟨some 56, .fad 0 (.tmp 7), none, []⟩,
                     ⟨some 57, .load1 (.tmp 56), none, []⟩,
                     ⟨some 58, .fad 1 (.tmp 7), none, []⟩,
                     ⟨some 59, .load1 (.tmp 58), none, []⟩,
                     ⟨some 60, .bin .gtr (.tmp 57) (.tmp 59), none, []⟩] [56, 57, 58, 59])
                  (.cond (.tmp 60)
                    (.exit 3)
                    .skip))
                 (.seq
                  (.region false [⟨some 61, .mv (.tmp 4), none, []⟩,
                    ⟨some 62, .call (.func 117) [(.tmp 61)], none, []⟩,
                    ⟨some 8, .mv (.tmp 62), none, []⟩] [61, 62])
                 (.seq
                  (.region false [⟨some 63, .mv (.tmp 8), none, []⟩,
                    ⟨some 64, .mv (.tmp 5), none, []⟩,
                    ⟨some 65, .loadN 2 (.tmp 7), none, []⟩,
                    ⟨some 66, .iadS 2 (.tmp 63) (.tmp 64), none, []⟩,
                    ⟨none, .store 2 (.tmp 66) (.tmp 65), none, []⟩] [63, 64, 65, 66])
                 (.seq
                  (.region false [⟨some 67, .mv (.tmp 0), none, []⟩,
                    ⟨some 68, .mv (.tmp 8), none, []⟩,
                    ⟨some 69, .call (.tmp 67) [(.tmp 68)], none, []⟩,
                    ⟨some 70, .un .not (.tmp 69), none, []⟩] [67, 68, 69])
                 (.cond (.tmp 70)
                   .ret
                   .skip)))))))
              (.region false [⟨some 71, .bin .add (.tmp 53) (.const (.int .i64 1)), none, []⟩,
                ⟨some 53, .mv (.tmp 71), none, []⟩] [71])))))))
         (.seq
          (.region true [⟨some 72, .mv (.tmp 4), none, []⟩,
            ⟨some 73, .mv (.tmp 5), none, []⟩,
            ⟨some 74, .mv (.tmp 4), none, []⟩,
            ⟨some 75, .mv (.tmp 5), none, []⟩,
            ⟨some 76, .mv (.tmp 4), none, []⟩,
            ⟨some 77, .mv (.tmp 5), none, []⟩,
            ⟨some 78, .iadS 2 (.tmp 76) (.tmp 77), none, [4, 5]⟩,
            ⟨some 79, .fad 0 (.tmp 78), none, [6, 4, 5]⟩,
            ⟨some 80, .load1 (.tmp 79), none, [7, 6, 4, 5]⟩,
            ⟨some 81, .load1 (.tmp 2), none, []⟩,
            ⟨some 82, .mv (.tmp 5), none, []⟩,
            ⟨some 83, .iadS 2 (.tmp 81) (.tmp 82), none, [9, 10]⟩,
            ⟨some 84, .fad 0 (.tmp 83), none, [11, 9, 10]⟩,
            ⟨some 85, .load1 (.tmp 84), none, [12, 11, 9, 10]⟩,
            ⟨some 86, .mnx true [(.tmp 80), (.tmp 85)], none, [8, 7, 6, 4, 5, 13, 12, 11, 9, 10]⟩,
            ⟨some 87, .mv (.tmp 4), none, []⟩,
            ⟨some 88, .mv (.tmp 5), none, []⟩,
            ⟨some 89, .iadS 2 (.tmp 87) (.tmp 88), none, [15, 16]⟩,
            ⟨some 90, .fad 1 (.tmp 89), none, [17, 15, 16]⟩,
            ⟨some 91, .load1 (.tmp 90), none, [18, 17, 15, 16]⟩,
            ⟨some 92, .load1 (.tmp 2), none, []⟩,
            ⟨some 93, .mv (.tmp 5), none, []⟩,
            ⟨some 94, .iadS 2 (.tmp 92) (.tmp 93), none, [20, 21]⟩,
            ⟨some 95, .fad 1 (.tmp 94), none, [22, 20, 21]⟩,
            ⟨some 96, .load1 (.tmp 95), none, [23, 22, 20, 21]⟩,
            ⟨some 97, .mnx false [(.tmp 91), (.tmp 96)], none, [19, 18, 17, 15, 16, 24, 23, 22, 20, 21]⟩,
            ⟨some 98, .iadS 2 (.tmp 72) (.tmp 73), none, [0, 1, 4, 5, 6, 7, 8, 9, 10, 11, 12, 13, 14, 19, 18, 17, 15, 16, 24, 23, 22, 20, 21]⟩,
            ⟨some 99, .fad 0 (.tmp 98), none, [26, 0, 1, 4, 5, 6, 7, 8, 9, 10, 11, 12, 13, 14, 19, 18, 17, 15, 16, 24, 23, 22, 20, 21]⟩,
            ⟨none, .store 1 (.tmp 99) (.tmp 86), none, [27, 26, 0, 1, 4, 5, 6, 7, 8, 9, 10, 11, 12, 13, 14, 19, 18, 17, 15, 16, 24, 23, 22, 20, 21]⟩,
            ⟨some 100, .iadS 2 (.tmp 74) (.tmp 75), none, [2, 3, 0, 1, 4, 5, 6, 7, 8, 9, 10, 11, 12, 13, 14, 15, 16, 17, 18, 19, 20, 21, 22, 23, 24, 25, 26, 27, 28]⟩,
            ⟨some 101, .fad 1 (.tmp 100), none, [29, 2, 3, 0, 1, 4, 5, 6, 7, 8, 9, 10, 11, 12, 13, 14, 15, 16, 17, 18, 19, 20, 21, 22, 23, 24, 25, 26, 27, 28]⟩,
            ⟨none, .store 1 (.tmp 101) (.tmp 97), none, [30, 29, 2, 3, 0, 1, 4, 5, 6, 7, 8, 9, 10, 11, 12, 13, 14, 15, 16, 17, 18, 19, 20, 21, 22, 23, 24, 25, 26, 27, 28]⟩] [72, 73, 74, 75, 76, 77, 78, 79, 80, 81, 82, 83, 84, 85, 86, 87, 88, 89, 90, 91, 92, 93, 94, 95, 96, 97, 98, 99, 100, 101])
         (.seq
          (.region true [⟨some 102, .mv (.tmp 4), none, []⟩,
            ⟨some 103, .mv (.tmp 5), none, []⟩,
            ⟨some 104, .iadS 2 (.tmp 102) (.tmp 103), none, [0, 1]⟩,
            ⟨some 105, .fad 0 (.tmp 104), none, [2, 0, 1]⟩,
            ⟨some 106, .load1 (.tmp 105), none, [3, 2, 0, 1]⟩,
            ⟨some 107, .mv (.tmp 4), none, []⟩,
            ⟨some 108, .mv (.tmp 5), none, []⟩,
            ⟨some 109, .iadS 2 (.tmp 107) (.tmp 108), none, [5, 6]⟩,
            ⟨some 110, .fad 1 (.tmp 109), none, [7, 5, 6]⟩,
            ⟨some 111, .load1 (.tmp 110), none, [8, 7, 5, 6]⟩,
            ⟨some 112, .bin .gtr (.tmp 106) (.tmp 111), none, [4, 3, 2, 0, 1, 9, 8, 7, 5, 6]⟩] [102, 103, 104, 105, 106, 107, 108, 109, 110, 111])
         (.cond (.tmp 112)
           .ret
           .skip))))))
      (.region false [⟨some 113, .bin .add (.tmp 13) (.const (.int .i64 1)), none, []⟩,
        ⟨some 13, .mv (.tmp 113), none, []⟩] [113]))))))))
set_option maxRecDepth 100000 in
theorem kspans_minus_S1 : IsCode Try.prog 116 114 cspans_minus_S1 [] :=
  ⟨Try.f116, _, [112, 70, 60, 54, 14, 1, 4, 13, 12, 5, 2, 53, 52, 7, 8, 0], Try.func116, rfl, by decide, rfl, by kernel_rfl, by kernel_rfl⟩
/-- spans_minus -/
def cspans_minus : ACode :=
  (.seq
   (.region false [⟨some 2, .box (.tmp 0), none, []⟩,
     ⟨some 3, .box (.tmp 1), none, []⟩,
     ⟨some 4, .mv (.const (.nilFunc)), none, []⟩] [])
  (.seq
   (.region false [⟨some 5, .mkfn 116 [] [(.tmp 2), (.tmp 3)], none, []⟩,
     ⟨some 4, .mv (.tmp 5), none, []⟩] [5])
  .ret))
set_option maxRecDepth 100000 in
theorem kspans_minus : IsCode Try.prog 111 6 cspans_minus [.tmp 4] :=
  ⟨Try.f111, _, [0, 1, 2, 3, 4], Try.func111, rfl, by decide, rfl, by kernel_rfl, by kernel_rfl⟩
/-- spans_rest -/
def cspans_rest_B17 : ACode :=
  (.block 3
    (.region false [⟨some 18, .load1 (.tmp 4), none, []⟩,
      ⟨some 19, .mv (.tmp 7), none, []⟩,
      ⟨some 20, .buildSl 1 1 [(.val (.slice none 0 0))] [(0, 1, (.tmp 19))], none, []⟩,
      ⟨some 21, .app 1 24 (.tmp 18) (.tmp 20), none, []⟩,
      ⟨none, .store 1 (.tmp 4) (.tmp 21), none, []⟩] [18, 19, 20, 21]))
def cspans_rest : ACode :=
  (.seq
   (.region false [⟨some 4, .mem [(.val (.slice none 0 0))], none, []⟩] [])
  (.seq
   (.seq
    (.region false [⟨some 8, .mv (.tmp 0), none, []⟩,
      ⟨some 9, .len_ (.tmp 8), none, []⟩,
      ⟨some 10, .mv (.const (.int .i64 0)), none, []⟩] [])
   (.block 0
     (.loop
       (.seq
        (.region false [⟨some 11, .bin .lss (.tmp 10) (.tmp 9), none, []⟩] [])
       (.seq
        (.cond (.tmp 11)
          .skip
          (.exit 0))
       (.seq
        (.block 1
          (.seq
           (.region false [⟨some 12, .iadS 1 (.tmp 8) (.tmp 10), none, []⟩,
             ⟨some 13, .load1 (.tmp 12), none, []⟩,
             ⟨some 6, .mv (.tmp 13), none, []⟩] [12, 13])
          (.seq
           (.region false [⟨some 14, .mv (.tmp 6), none, []⟩,
             ⟨some 15, .mv (.tmp 1), none, []⟩,
             ⟨some 16, .call (.func 111) [(.tmp 14), (.tmp 15)], none, []⟩] [14, 15])
          (.block 2
            (.rangeFunc (.tmp 16) [17] [(7, 17)] cspans_rest_B17)))))
       (.region false [⟨some 22, .bin .add (.tmp 10) (.const (.int .i64 1)), none, []⟩,
         ⟨some 10, .mv (.tmp 22), none, []⟩] [22])))))))
  (.seq
   (.region false [⟨some 23, .load1 (.tmp 4), none, []⟩,
     ⟨none, .store 1 (.tmp 4) (.tmp 23), none, []⟩] [23])
  .ret)))
set_option maxRecDepth 100000 in
theorem kspans_rest : IsCode Try.prog 93 24 cspans_rest [.cell1 4] :=
  ⟨Try.f93, _, [17, 16, 11, 0, 10, 9, 8, 6, 1, 4, 7], Try.func93, rfl, by decide, rfl, by kernel_rfl, by kernel_rfl⟩
/-- slices_Clone_Lapi_Box_Kapi_Span_J -/
def cslices_Clone_Lapi_Box_Kapi_Span_J : ACode :=
  (.seq
   (.region false [⟨some 2, .mv (.const (.slice none 0 0)), none, []⟩] [])
  (.seq
   (.seq
    (.region false [⟨some 3, .mv (.tmp 0), none, []⟩,
      ⟨some 4, .eqn false (.tmp 3) (.const (.slice none 0 0)), none, []⟩] [3])
   (.cond (.tmp 4)
     (.seq
      (.region false [⟨some 2, .mv (.const (.slice none 0 0)), none, []⟩] [])
     .ret)
     .skip))
  (.seq
   (.region false [⟨some 5, .buildSl 2 0 [] [], none, []⟩,
     ⟨some 6, .mv (.tmp 0), none, []⟩,
     ⟨some 7, .app 2 16 (.tmp 5) (.tmp 6), none, []⟩,
     ⟨some 2, .mv (.tmp 7), none, []⟩] [5, 6, 7])
  .ret)))
set_option maxRecDepth 100000 in
theorem kslices_Clone_Lapi_Box_Kapi_Span_J : IsCode Try.prog 117 8 cslices_Clone_Lapi_Box_Kapi_Span_J [.tmp 2] :=
  ⟨Try.f117, _, [4, 0, 2], Try.func117, rfl, by decide, rfl, by kernel_rfl, by kernel_rfl⟩
/-- spans_Check -/
def cspans_Check : ACode :=
  (.seq
   (.region false [⟨some 2, .mv (.const (.int .i64 0)), none, []⟩] [])
  (.seq
   (.seq
    (.region false [⟨some 3, .mv (.tmp 0), none, []⟩,
      ⟨some 4, .len_ (.tmp 3), none, []⟩,
      ⟨some 5, .call (.func 71) [(.tmp 4), (.const (.int .i64 1)), (.const (.int .i64 3))], none, []⟩,
      ⟨some 6, .un .not (.tmp 5), none, []⟩] [3, 4, 5])
   (.cond (.tmp 6)
     (.seq
      (.region false [⟨some 2, .mv (.const (.int .i64 10)), none, []⟩] [])
     .ret)
     .skip))
  (.seq
   (.region false [⟨some 7, .mv (.tmp 0), none, []⟩,
     ⟨some 8, .call (.func 72) [(.tmp 7)], none, []⟩,
     ⟨some 2, .mv (.tmp 8), none, []⟩] [7, 8])
  .ret)))
set_option maxRecDepth 100000 in
theorem kspans_Check : IsCode Try.prog 23 9 cspans_Check [.tmp 2] :=
  ⟨Try.f23, _, [6, 0, 2], Try.func23, rfl, by decide, rfl, by kernel_rfl, by kernel_rfl⟩
/-- spans_spanned -/
def cspans_spanned : ACode :=
  (.seq
   (.region false [⟨some 2, .mv (.const (.int .i64 0)), none, []⟩] [])
  (.seq
   (.seq
    (.region false [⟨some 3, .mv (.tmp 0), none, []⟩,
      ⟨some 4, .call (.func 102) [(.tmp 3), (.func 103)], none, []⟩] [3])
   (.cond (.tmp 4)
     (.seq
      (.region false [⟨some 2, .mv (.const (.int .i64 10)), none, []⟩] [])
     .ret)
     .skip))
  (.seq
   (.region false [⟨some 2, .mv (.const (.int .i64 0)), none, []⟩] [])
  .ret)))
set_option maxRecDepth 100000 in
theorem kspans_spanned : IsCode Try.prog 72 5 cspans_spanned [.tmp 2] :=
  ⟨Try.f72, _, [4, 0, 2], Try.func72, rfl, by decide, rfl, by kernel_rfl, by kernel_rfl⟩
/-- spans_spanned_S1 -/
def cspans_spanned_S1 : ACode :=
  (.seq
   (.region false [⟨some 1, .box (.tmp 0), none, []⟩,
     ⟨some 2, .mv (.const (.bool false)), none, []⟩] [])
  (.seq
   (.region false [⟨some 3, .loadN 2 (.tmp 1), none, []⟩,
     ⟨some 4, .call (.func 104) [(.tmp 3)], none, []⟩,
     ⟨some 5, .un .not (.tmp 4), none, []⟩,
     ⟨some 2, .mv (.tmp 5), none, []⟩] [3, 4, 5])
  .ret))
set_option maxRecDepth 100000 in
theorem kspans_spanned_S1 : IsCode Try.prog 103 6 cspans_spanned_S1 [.tmp 2] :=
  ⟨Try.f103, _, [0, 1, 2], Try.func103, rfl, by decide, rfl, by kernel_rfl, by kernel_rfl⟩
/-- slices_ContainsFunc_L_L_Japi_Span_Kapi_Span_J -/
def cslices_ContainsFunc_L_L_Japi_Span_Kapi_Span_J : ACode :=
  (.seq
   (.region false [⟨some 4, .mv (.const (.bool false)), none, []⟩] [])
  (.seq
   (.region false [⟨some 5, .mv (.tmp 0), none, []⟩,
     ⟨some 6, .mv (.tmp 1), none, []⟩,
     ⟨some 7, .call (.func 114) [(.tmp 5), (.tmp 6)], none, []⟩,
     ⟨some 8, .bin .geq (.tmp 7) (.const (.int .i64 0)), none, []⟩,
     ⟨some 4, .mv (.tmp 8), none, []⟩] [5, 6, 7, 8])
  .ret))
set_option maxRecDepth 100000 in
theorem kslices_ContainsFunc_L_L_Japi_Span_Kapi_Span_J : IsCode Try.prog 102 9 cslices_ContainsFunc_L_L_Japi_Span_Kapi_Span_J [.tmp 4] :=
  ⟨Try.f102, _, [0, 1, 4], Try.func102, rfl, by decide, rfl, by kernel_rfl, by kernel_rfl⟩
/-- slices_IndexFunc_L_L_Japi_Span_Kapi_Span_J -/
def cslices_IndexFunc_L_L_Japi_Span_Kapi_Span_J : ACode :=
  (.seq
   (.region false [⟨some 4, .mv (.const (.int .i64 0)), none, []⟩] [])
  (.seq
   (.seq
    (.region false [⟨some 6, .mv (.tmp 0), none, []⟩,
      ⟨some 7, .len_ (.tmp 6), none, []⟩,
      ⟨some 8, .mv (.const (.int .i64 0)), none, []⟩] [6])
   (.block 0
     (.loop
       (.seq
        (.region false [⟨some 9, .bin .lss (.tmp 8) (.tmp 7), none, []⟩] [])
       (.seq
        (.cond (.tmp 9)
          .skip
          (.exit 0))
       (.seq
        (.block 1
          (.seq
           (.region false [⟨some 10, .mv (.tmp 8), none, []⟩,
             ⟨some 5, .mv (.tmp 10), none, []⟩] [10])
          (.seq
           (.region false [⟨some 11, .mv (.tmp 1), none, []⟩,
             ⟨some 12, .mv (.tmp 0), none, []⟩,
             ⟨some 13, .mv (.tmp 5), none, []⟩,
             ⟨some 14, .iadS 2 (.tmp 12) (.tmp 13), none, []⟩,
             ⟨some 15, .loadN 2 (.tmp 14), none, []⟩,
             ⟨some 16, .call (.tmp 11) [(.tmp 15)], none, []⟩] [11, 12, 13, 14, 15])
          (.cond (.tmp 16)
            (.seq
             (.region false [⟨some 17, .mv (.tmp 5), none, []⟩,
               ⟨some 4, .mv (.tmp 17), none, []⟩] [17])
            .ret)
            .skip))))
       (.region false [⟨some 18, .bin .add (.tmp 8) (.const (.int .i64 1)), none, []⟩,
         ⟨some 8, .mv (.tmp 18), none, []⟩] [18])))))))
  (.seq
   (.region false [⟨some 4, .mv (.const (.int .i64 (-1))), none, []⟩] [])
  .ret)))
set_option maxRecDepth 100000 in
theorem kslices_IndexFunc_L_L_Japi_Span_Kapi_Span_J : IsCode Try.prog 114 19 cslices_IndexFunc_L_L_Japi_Span_Kapi_Span_J [.tmp 4] :=
  ⟨Try.f114, _, [16, 9, 0, 8, 7, 1, 5, 4], Try.func114, rfl, by decide, rfl, by kernel_rfl, by kernel_rfl⟩
/-- spans_valid -/
def cspans_valid : ACode :=
  (.seq
   (.region false [⟨some 1, .box (.tmp 0), none, []⟩,
     ⟨some 2, .mv (.const (.bool false)), none, []⟩] [])
  (.seq
   (.region false [⟨some 3, .fad 0 (.tmp 1), none, []⟩,
     ⟨some 4, .load1 (.tmp 3), none, []⟩,
     ⟨some 5, .fad 1 (.tmp 1), none, []⟩,
     ⟨some 6, .load1 (.tmp 5), none, []⟩,
     ⟨some 7, .call (.func 71) [(.tmp 4), (.const (.int .i64 (-1000000))), (.tmp 6)], none, []⟩,
     ⟨some 8, .mv (.tmp 7), none, []⟩,
     ⟨some 9, .fad 1 (.tmp 1), (some (some 8, true)), []⟩,
     ⟨some 10, .load1 (.tmp 9), (some (some 8, true)), []⟩,
     ⟨some 11, .bin .leq (.tmp 10) (.const (.int .i64 1000000)), (some (some 8, true)), []⟩,
     ⟨some 12, .pick (.tmp 8) (.tmp 11) (.const (.bool false)), none, []⟩,
     ⟨some 2, .mv (.tmp 12), none, []⟩] [3, 4, 5, 6, 7, 8, 9, 10, 11, 12])
  .ret))
set_option maxRecDepth 100000 in
theorem kspans_valid : IsCode Try.prog 104 13 cspans_valid [.tmp 2] :=
  ⟨Try.f104, _, [0, 1, 2], Try.func104, rfl, by decide, rfl, by kernel_rfl, by kernel_rfl⟩
/-- spans_within -/
def cspans_within : ACode :=
  (.seq
   (.region false [⟨some 6, .mv (.const (.bool false)), none, []⟩] [])
  (.seq
   (.region false [⟨some 7, .mv (.tmp 0), none, []⟩,
     ⟨some 8, .mv (.tmp 1), none, []⟩,
     ⟨some 9, .bin .geq (.tmp 7) (.tmp 8), none, []⟩,
     ⟨some 10, .mv (.tmp 9), none, []⟩,
     ⟨some 11, .mv (.tmp 0), (some (some 10, true)), []⟩,
     ⟨some 12, .mv (.tmp 2), (some (some 10, true)), []⟩,
     ⟨some 13, .bin .leq (.tmp 11) (.tmp 12), (some (some 10, true)), []⟩,
     ⟨some 14, .pick (.tmp 10) (.tmp 13) (.const (.bool false)), none, []⟩,
     ⟨some 6, .mv (.tmp 14), none, []⟩] [7, 8, 9, 10, 11, 12, 13, 14])
  .ret))
set_option maxRecDepth 100000 in
theorem kspans_within : IsCode Try.prog 71 15 cspans_within [.tmp 6] :=
  ⟨Try.f71, _, [0, 1, 2, 6], Try.func71, rfl, by decide, rfl, by kernel_rfl, by kernel_rfl⟩
/-- ref01_Check -/
def cref01_Check : ACode :=
  (.seq
   (.region false [⟨some 2, .mv (.const (.int .i64 0)), none, []⟩] [])
  (.seq
   (.seq
    (.region false [⟨some 4, .mv (.tmp 0), none, []⟩,
      ⟨some 5, .len_ (.tmp 4), none, []⟩,
      ⟨some 6, .call (.func 34) [(.tmp 5), (.const (.int .i64 1)), (.const (.int .i64 3))], none, []⟩,
      ⟨some 7, .un .not (.tmp 6), none, []⟩] [4, 5, 6])
   (.cond (.tmp 7)
     (.seq
      (.region false [⟨some 2, .mv (.const (.int .i64 10)), none, []⟩] [])
     .ret)
     .skip))
  (.seq
   (.seq
    (.region false [⟨some 3, .mv (.const (.int .i64 0)), none, []⟩] [])
   (.block 0
     (.loop
       (.seq
        (.seq
         (.region false [⟨some 8, .mv (.tmp 3), none, []⟩,
           ⟨some 9, .mv (.tmp 0), none, []⟩,
           ⟨some 10, .len_ (.tmp 9), none, []⟩,
           ⟨some 11, .bin .lss (.tmp 8) (.tmp 10), none, []⟩] [8, 9, 10])
        (.cond (.tmp 11)
          .skip
          (.exit 0)))
       (.seq
        (.block 1
          (.seq
           (.region false [⟨some 14, .mv (.tmp 0), none, []⟩,
             ⟨some 15, .mv (.tmp 3), none, []⟩,
             ⟨some 16, .iadS 2 (.tmp 14) (.tmp 15), none, []⟩,
             ⟨some 17, .loadN 2 (.tmp 16), none, []⟩,
             ⟨some 18, .call (.func 49) [(.tmp 17)], none, []⟩,
             ⟨some 19, .un .not (.tmp 18), none, []⟩] [14, 15, 16, 17, 18])
          (.cond (.tmp 19)
            (.seq
             (.region false [⟨some 2, .mv (.const (.int .i64 10)), none, []⟩] [])
            .ret)
            .skip)))
       (.region false [⟨some 12, .mv (.tmp 3), none, []⟩,
         ⟨some 13, .bin .add (.tmp 12) (.const (.int .i64 1)), none, []⟩,
         ⟨some 3, .mv (.tmp 13), none, []⟩] [12, 13]))))))
  (.seq
   (.region false [⟨some 2, .mv (.const (.int .i64 0)), none, []⟩] [])
  .ret))))
set_option maxRecDepth 100000 in
theorem kref01_Check : IsCode Try.prog 25 20 cref01_Check [.tmp 2] :=
  ⟨Try.f25, _, [19, 11, 7, 0, 3, 2], Try.func25, rfl, by decide, rfl, by kernel_rfl, by kernel_rfl⟩
/-- ref01_Valid -/
def cref01_Valid : ACode :=
  (.seq
   (.region false [⟨some 1, .box (.tmp 0), none, []⟩,
     ⟨some 2, .mv (.const (.bool false)), none, []⟩] [])
  (.seq
   (.region false [⟨some 3, .fad 0 (.tmp 1), none, []⟩,
     ⟨some 4, .load1 (.tmp 3), none, []⟩,
     ⟨some 5, .call (.func 34) [(.tmp 4), (.const (.int .i64 (-1000000))), (.const (.int .i64 1000000))], none, []⟩,
     ⟨some 6, .mv (.tmp 5), none, []⟩,
     ⟨some 7, .fad 1 (.tmp 1), (some (some 6, true)), []⟩,
     ⟨some 8, .load1 (.tmp 7), (some (some 6, true)), []⟩,
     ⟨some 9, .fad 0 (.tmp 1), (some (some 6, true)), []⟩,
     ⟨some 10, .load1 (.tmp 9), (some (some 6, true)), []⟩,
     ⟨some 11, .call (.func 34) [(.tmp 8), (.tmp 10), (.const (.int .i64 1000000))], (some (some 6, true)), []⟩,
     ⟨some 12, .pick (.tmp 6) (.tmp 11) (.const (.bool false)), none, []⟩,
     ⟨some 2, .mv (.tmp 12), none, []⟩] [3, 4, 5, 6, 7, 8, 9, 10, 11, 12])
  .ret))
set_option maxRecDepth 100000 in
theorem kref01_Valid : IsCode Try.prog 49 13 cref01_Valid [.tmp 2] :=
  ⟨Try.f49, _, [0, 1, 2], Try.func49, rfl, by decide, rfl, by kernel_rfl, by kernel_rfl⟩
/-- ref01_From -/
def cref01_From : ACode :=
  (.seq
   (.region false [⟨some 6, .mv (.const (.bool false)), none, []⟩] [])
  (.seq
   (.region false [⟨some 7, .mv (.tmp 0), none, []⟩,
     ⟨some 8, .mv (.tmp 1), none, []⟩,
     ⟨some 9, .bin .geq (.tmp 7) (.tmp 8), none, []⟩,
     ⟨some 10, .mv (.tmp 9), none, []⟩,
     ⟨some 11, .mv (.tmp 0), (some (some 10, true)), []⟩,
     ⟨some 12, .mv (.tmp 2), (some (some 10, true)), []⟩,
     ⟨some 13, .bin .leq (.tmp 11) (.tmp 12), (some (some 10, true)), []⟩,
     ⟨some 14, .pick (.tmp 10) (.tmp 13) (.const (.bool false)), none, []⟩,
     ⟨some 6, .mv (.tmp 14), none, []⟩] [7, 8, 9, 10, 11, 12, 13, 14])
  .ret))
set_option maxRecDepth 100000 in
theorem kref01_From : IsCode Try.prog 34 15 cref01_From [.tmp 6] :=
  ⟨Try.f34, _, [0, 1, 2, 6], Try.func34, rfl, by decide, rfl, by kernel_rfl, by kernel_rfl⟩
/-- ref01_In -/
def cref01_In : ACode :=
  (.seq
   (.region false [⟨some 4, .mv (.const (.bool false)), none, []⟩] [])
  (.seq
   (.seq
    (.region false [⟨some 5, .mv (.const (.int .i64 0)), none, []⟩] [])
   (.block 0
     (.loop
       (.seq
        (.seq
         (.region false [⟨some 6, .mv (.tmp 5), none, []⟩,
           ⟨some 7, .mv (.tmp 1), none, []⟩,
           ⟨some 8, .len_ (.tmp 7), none, []⟩,
           ⟨some 9, .bin .lss (.tmp 6) (.tmp 8), none, []⟩] [6, 7, 8])
        (.cond (.tmp 9)
          .skip
          (.exit 0)))
       (.seq
        (.block 1
          (.seq
           (.region true [⟨some 12, .mv (.tmp 0), none, []⟩,
             ⟨some 13, .mv (.tmp 5), none, []⟩,
             ⟨some 14, .iadS 1 (.tmp 12) (.tmp 13), none, [0, 1]⟩,
             ⟨some 15, .load1 (.tmp 14), none, [2, 0, 1]⟩,
             ⟨some 16, .mv (.tmp 1), none, []⟩,
             ⟨some 17, .mv (.tmp 5), none, []⟩,
             ⟨some 18, .iadS 2 (.tmp 16) (.tmp 17), none, [4, 5]⟩,
             ⟨some 19, .fad 0 (.tmp 18), none, [6, 4, 5]⟩,
             ⟨some 20, .load1 (.tmp 19), none, [7, 6, 4, 5]⟩,
             ⟨some 21, .mv (.tmp 1), none, []⟩,
             ⟨some 22, .mv (.tmp 5), none, []⟩,
             ⟨some 23, .iadS 2 (.tmp 21) (.tmp 22), none, [9, 10]⟩,
             ⟨some 24, .fad 1 (.tmp 23), none, [11, 9, 10]⟩,
             ⟨some 25, .load1 (.tmp 24), none, [12, 11, 9, 10]⟩,
             ⟨some 26, .call (.func 34) [(.tmp 15), (.tmp 20), (.tmp 25)], none, [3, 2, 0, 1, 8, 7, 6, 4, 5, 13, 12, 11, 9, 10]⟩,
             ⟨some 27, .un .not (.tmp 26), none, [14, 3, 2, 0, 1, 8, 7, 6, 4, 5, 13, 12, 11, 9, 10]⟩] [12, 13, 14, 15, 16, 17, 18, 19, 20, 21, 22, 23, 24, 25, 26])
          (.cond (.tmp 27)
            (.seq
             (.region false [⟨some 4, .mv (.const (.bool false)), none, []⟩] [])
            .ret)
            .skip)))
       (.region false [⟨some 10, .mv (.tmp 5), none, []⟩,
         ⟨some 11, .bin .add (.tmp 10) (.const (.int .i64 1)), none, []⟩,
         ⟨some 5, .mv (.tmp 11), none, []⟩] [10, 11]))))))
  (.seq
   (.region false [⟨some 4, .mv (.const (.bool true)), none, []⟩] [])
  .ret)))
set_option maxRecDepth 100000 in
theorem kref01_In : IsCode Try.prog 54 28 cref01_In [.tmp 4] :=
  ⟨Try.f54, _, [27, 9, 5, 1, 0, 4], Try.func54, rfl, by decide, rfl, by kernel_rfl, by kernel_rfl⟩
/-- law01_box -/
def claw01_box : ACode :=
  (.seq
   (.region false [⟨some 2, .mv (.const (.slice none 0 0)), none, []⟩] [])
  (.seq
   (.region false [⟨some 3, .buildSl 2 0 [] [], none, []⟩,
     ⟨some 4, .mv (.tmp 0), none, []⟩,
     ⟨some 5, .app 2 16 (.tmp 3) (.tmp 4), none, []⟩,
     ⟨some 2, .mv (.tmp 5), none, []⟩] [3, 4, 5])
  .ret))
set_option maxRecDepth 100000 in
theorem klaw01_box : IsCode Try.prog 24 6 claw01_box [.tmp 2] :=
  ⟨Try.f24, _, [0, 2], Try.func24, rfl, by decide, rfl, by kernel_rfl, by kernel_rfl⟩
end Go.Proofs.Ytfaiogajaaclcaa
/- Lists of numbers, rows and spans as abstract values. No conditions. -/
namespace Go.Proofs.Ytfaiogajaaclcaa
open Go.RowKit Lift

def dI (n : Int) : D := .val (.int .i64 n)
def dB (b : Bool) : D := .val (.bool b)
def ints (l : List Int) : List (List D) := l.map fun n => [.val (.int .i64 n)]
def spD (x : Int × Int) : D := .agg [.val (.int .i64 x.1), .val (.int .i64 x.2)]
theorem ints_len (l : List Int) : (ints l).length = l.length := by simp [ints]
theorem ints_all (l : List Int) : (ints l).all (fun x => x.length == 1) = true := by simp [ints]
def icells (l : List Int) : List D := l.map fun n => .val (.int .i64 n)
def rcells (l : List (List Int)) : List D := l.map fun r => .list (ints r)
theorem ints_flat (l : List Int) : (ints l).flatten = icells l := by
  induction l with
  | nil => rfl
  | cons x l ih => simp [ints, icells] at ih ⊢; exact ih
theorem icells_leaf (l : List Int) : (icells l).all D.leaf = true := by simp [icells, D.leaf]
theorem icells_in (l : List Int) : ∀ d ∈ icells l, In (fun _ => False) d := by
  intro d hd; obtain ⟨x, _, rfl⟩ := List.mem_map.1 hd; exact .val _
theorem rcells_in (l : List (List Int)) : ∀ d ∈ rcells l, In (fun _ => False) d := by
  intro d hd; obtain ⟨x, _, rfl⟩ := List.mem_map.1 hd; exact .list _
theorem icells_len (l : List Int) : (icells l).length = l.length := by simp [icells]
theorem ints_one (l : List Int) : ∀ e ∈ ints l, e.length = 1 := by simp [ints]
theorem ints_gd (l : List Int) (k : Nat) (h : k < l.length) : (ints l)[k]? = some [.val (.int .i64 (l[k]?.getD 0))] := by simp [ints, h]
end Go.Proofs.Ytfaiogajaaclcaa
/- Boxes as abstract values; what is left of a box without another one. No conditions. -/
namespace Go.Proofs.Ytfaiogajaaclcaa
open Go.RowKit Lift

abbrev Bx := List (Int × Int)
def sps (b : Bx) : List (List D) := b.map fun x => [.val (.int .i64 x.1), .val (.int .i64 x.2)]
def bxs (l : List Bx) : List (List D) := l.map fun b => [.list (sps b)]
def scells : Bx → List D
  | [] => []
  | x :: b => .val (.int .i64 x.1) :: .val (.int .i64 x.2) :: scells b
def bcells (l : List Bx) : List D := l.map fun b => .list (sps b)
def lo (b : Bx) (k : Nat) : Int := (b[k]?.getD (0, 0)).1
def hi (b : Bx) (k : Nat) : Int := (b[k]?.getD (0, 0)).2
theorem sps_len (b : Bx) : (sps b).length = b.length := by simp [sps]
theorem bxs_len (l : List Bx) : (bxs l).length = l.length := by simp [bxs]
theorem sps_all (b : Bx) : (sps b).all (fun x => x.length == 2) = true := by simp [sps]
theorem bxs_all (l : List Bx) : (bxs l).all (fun x => x.length == 1) = true := by simp [bxs]
theorem sps_two (b : Bx) : ∀ e ∈ sps b, e.length = 2 := by intro e he; obtain ⟨x, _, rfl⟩ := List.mem_map.1 he; rfl
theorem bxs_one (l : List Bx) : ∀ e ∈ bxs l, e.length = 1 := by simp [bxs]
theorem sps_flat (b : Bx) : (sps b).flatten = scells b := by
  induction b with
  | nil => rfl
  | cons x b ih => simp [sps, scells] at ih ⊢; exact ih
theorem bxs_flat (l : List Bx) : (bxs l).flatten = bcells l := by
  induction l with
  | nil => rfl
  | cons x l ih => simp [bxs, bcells] at ih ⊢; exact ih
theorem scells_len (b : Bx) : (scells b).length = b.length * 2 := by
  induction b with
  | nil => rfl
  | cons x b ih => simp [scells, ih]; omega
theorem bcells_len (l : List Bx) : (bcells l).length = l.length := by simp [bcells]
theorem scells_mem {b : Bx} : ∀ {d : D}, d ∈ scells b → ∃ n, d = .val (.int .i64 n) := by
  induction b with
  | nil => intro d h; simp [scells] at h
  | cons x b ih =>
    intro d h
    simp only [scells, List.mem_cons] at h
    rcases h with rfl | rfl | h
    · exact ⟨_, rfl⟩
    · exact ⟨_, rfl⟩
    · exact ih h
theorem scells_in (b : Bx) : ∀ d ∈ scells b, In (fun _ => False) d := fun d hd => by obtain ⟨n, rfl⟩ := scells_mem hd; exact .val _
theorem bcells_in (l : List Bx) : ∀ d ∈ bcells l, In (fun _ => False) d := by
  intro d hd; obtain ⟨x, _, rfl⟩ := List.mem_map.1 hd; exact .list _
theorem scells_leaf (b : Bx) : (scells b).all D.leaf = true := List.all_eq_true.2 fun d hd => by obtain ⟨n, rfl⟩ := scells_mem hd; rfl
theorem bcells_leaf (l : List Bx) : (bcells l).all D.leaf = true := by simp [bcells, D.leaf]
theorem scells_noY (b : Bx) : (scells b).all (noY 9) = true := List.all_eq_true.2 fun d hd => by obtain ⟨n, rfl⟩ := scells_mem hd; rfl
theorem bcells_noY (l : List Bx) : (bcells l).all (noY 9) = true := by simp [bcells, noY]
theorem sps_gd (b : Bx) (k : Nat) (h : k < b.length) : (sps b)[k]? = some [.val (.int .i64 (lo b k)), .val (.int .i64 (hi b k))] := by simp [sps, lo, hi, h]
theorem bxs_gd (l : List Bx) (k : Nat) (h : k < l.length) : (bxs l)[k]? = some [.list (sps (l[k]?.getD []))] := by simp [bxs, h]
theorem sc_lo : ∀ (b : Bx) (k : Nat), k < b.length → (scells b)[k * 2]? = some (.val (.int .i64 (lo b k)))
  | [], k, h => by simp at h
  | x :: b, 0, _ => rfl
  | x :: b, k + 1, h => by
    have := sc_lo b k (by simpa using h)
    rw [show (k + 1) * 2 = k * 2 + 1 + 1 by omega]
    simpa [scells, lo] using this
theorem sc_hi : ∀ (b : Bx) (k : Nat), k < b.length → (scells b)[k * 2 + 1]? = some (.val (.int .i64 (hi b k)))
  | [], k, h => by simp at h
  | x :: b, 0, _ => rfl
  | x :: b, k + 1, h => by
    have := sc_hi b k (by simpa using h)
    rw [show (k + 1) * 2 + 1 = k * 2 + 1 + 1 + 1 by omega]
    simpa [scells, hi] using this
theorem splice_cons (x : D) (c : List D) (n : Nat) (l : List D) : splice (x :: c) (n + 1) l = x :: splice c n l := by
  unfold splice
  rw [show n + 1 + l.length = (n + l.length) + 1 by omega]
  simp
theorem sc_set2 : ∀ (b : Bx) (k : Nat) (u v : Int), k < b.length → splice (scells b) (k * 2) [.val (.int .i64 u), .val (.int .i64 v)] = scells (b.set k (u, v))
  | [], k, _, _, h => by simp at h
  | x :: b, 0, u, v, _ => rfl
  | x :: b, k + 1, u, v, h => by
    have := sc_set2 b k u v (by simpa using h)
    rw [show (k + 1) * 2 = k * 2 + 1 + 1 by omega]
    simp only [scells, splice_cons, this, List.set_cons_succ]
theorem sc_setlo : ∀ (b : Bx) (k : Nat) (u : Int), k < b.length → splice (scells b) (k * 2) [.val (.int .i64 u)] = scells (b.set k (u, hi b k))
  | [], k, _, h => by simp at h
  | x :: b, 0, u, _ => rfl
  | x :: b, k + 1, u, h => by
    have := sc_setlo b k u (by simpa using h)
    rw [show (k + 1) * 2 = k * 2 + 1 + 1 by omega]
    simp only [scells, splice_cons, this, List.set_cons_succ]
    rfl
theorem sc_sethi : ∀ (b : Bx) (k : Nat) (v : Int), k < b.length → splice (scells b) (k * 2 + 1) [.val (.int .i64 v)] = scells (b.set k (lo b k, v))
  | [], k, _, h => by simp at h
  | x :: b, 0, v, _ => rfl
  | x :: b, k + 1, v, h => by
    have := sc_sethi b k v (by simpa using h)
    rw [show (k + 1) * 2 + 1 = k * 2 + 1 + 1 + 1 by omega]
    simp only [scells, splice_cons, this, List.set_cons_succ]
    rfl
theorem sc_t2 (b : Bx) (k : Nat) (u v : Int) (h : k < b.length) : (scells b).take (k * 2) ++ [.val (.int .i64 u), .val (.int .i64 v)] ++ (scells b).drop (k * 2 + 2) = scells (b.set k (u, v)) := sc_set2 b k u v h
theorem sc_tlo (b : Bx) (k : Nat) (u : Int) (h : k < b.length) : (scells b).take (k * 2) ++ [.val (.int .i64 u)] ++ (scells b).drop (k * 2 + 1) = scells (b.set k (u, hi b k)) := sc_setlo b k u h
theorem sc_t3 (b : Bx) (k : Nat) (u w v : Int) (h : k < b.length) : (scells (b.set k (u, w))).take (k * 2 + 1) ++ [.val (.int .i64 v)] ++ (scells (b.set k (u, w))).drop (k * 2 + 1 + 1) = scells (b.set k (u, v)) := by
  have h1 := sc_sethi (b.set k (u, w)) k v (by simpa using h)
  have h2 : lo (b.set k (u, w)) k = u := by simp [lo, h]
  rw [h2, List.set_set] at h1
  exact h1
theorem sc_lo2 (b : Bx) (k : Nat) (u v : Int) (h : k < b.length) : (scells (b.set k (u, v)))[k * 2]? = some (.val (.int .i64 u)) := by
  rw [sc_lo _ k (by simpa using h)]; simp [lo, h]
theorem sc_hi2 (b : Bx) (k : Nat) (u v : Int) (h : k < b.length) : (scells (b.set k (u, v)))[k * 2 + 1]? = some (.val (.int .i64 v)) := by
  rw [sc_hi _ k (by simpa using h)]; simp [hi, h]
theorem bcells_app (l : List Bx) (b : Bx) : bcells l ++ [.list (sps b)] = bcells (l ++ [b]) := by simp [bcells]
theorem lo_set (b : Bx) (k : Nat) (u v : Int) (h : k < b.length) : lo (b.set k (u, v)) k = u := by simp [lo, h]
theorem hi_set (b : Bx) (k : Nat) (u v : Int) (h : k < b.length) : hi (b.set k (u, v)) k = v := by simp [hi, h]
theorem lo_set_ne (b : Bx) (k j : Nat) (x : Int × Int) (h : k ≠ j) : lo (b.set k x) j = lo b j := by simp [lo, List.getElem?_set_ne h]
theorem hi_set_ne (b : Bx) (k j : Nat) (x : Int × Int) (h : k ≠ j) : hi (b.set k x) j = hi b j := by simp [hi, List.getElem?_set_ne h]

/-! ### what the functions compute -/
def okS (x : Int × Int) : Bool := decide (-1000000 ≤ x.1) && decide (x.1 ≤ x.2) && decide (x.2 ≤ 1000000)
def boxE (b : Bx) : Int := if 1 ≤ b.length ∧ b.length ≤ 3 ∧ b.all okS = true then 0 else 10
structure OkB (b : Bx) : Prop where
  pos : 1 ≤ b.length
  len : b.length ≤ 3
  low : ∀ k, k < b.length → -1000000 ≤ lo b k
  le : ∀ k, k < b.length → lo b k ≤ hi b k
  high : ∀ k, k < b.length → hi b k ≤ 1000000
theorem boxE_zero {b : Bx} (h : boxE b = 0) : OkB b := by
  unfold boxE at h
  split at h
  · rename_i hc
    obtain ⟨h1, h2, h3⟩ := hc
    have key : ∀ k (hk : k < b.length), -1000000 ≤ lo b k ∧ lo b k ≤ hi b k ∧ hi b k ≤ 1000000 := fun k hk => by
      have := List.all_eq_true.1 h3 b[k] (List.getElem_mem hk)
      simp only [okS, Bool.and_eq_true, decide_eq_true_eq] at this
      simp only [lo, hi, hk, List.getElem?_eq_getElem, Option.getD_some]
      exact ⟨this.1.1, this.1.2, this.2⟩
    exact ⟨h1, h2, fun k hk => (key k hk).1, fun k hk => (key k hk).2.1, fun k hk => (key k hk).2.2⟩
  · omega
theorem boxE_two (b : Bx) : boxE b = 0 ∨ boxE b = 10 := by unfold boxE; split <;> simp
/-- at dimension d: the part below, the part above, what goes on -/
def pLow (l b : Bx) (d : Nat) : Int × Int := (lo l d, if lo b d - 1 < hi l d then lo b d - 1 else hi l d)
def pHigh (l b : Bx) (d : Nat) : Int × Int := (if hi b d + 1 > lo l d then hi b d + 1 else lo l d, hi l d)
def pMid (l b : Bx) (d : Nat) : Int × Int := (if lo b d > lo l d then lo b d else lo l d, if hi b d < hi l d then hi b d else hi l d)
def cut1 (l : Bx) (d : Nat) (x : Int × Int) : List Bx := if x.1 > x.2 then [] else [l.set d x]
def mnGo (b : Bx) : Nat → Bx → Nat → List Bx
  | 0, _, _ => []
  | n + 1, l, d => (cut1 l d (pLow l b d) ++ cut1 l d (pHigh l b d)) ++ (if (pMid l b d).1 > (pMid l b d).2 then [] else mnGo b n (l.set d (pMid l b d)) (d + 1))
def mnL (a b : Bx) : List Bx := mnGo b a.length a 0
end Go.Proofs.Ytfaiogajaaclcaa
