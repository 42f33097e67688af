/- The functions' bodies, translated. Written by a program; no conditions. -/
import Derived.Test.YtfaiogajaaclcaaLift
import Derived.Test.YtfaiogajaaclcaaRows
namespace Go.Proofs.Ytfaiogajaaclcaa
open Go.RowKit Lift

/-- spans_check -/
def cspans_check : ACode :=
  (.seq
   (.region false [⟨some 2, .mv (.const (.int .i64 0)), none, []⟩] [])
  (.seq
   (.seq
    (.region false [⟨some 8, .mv (.tmp 0), none, []⟩,
      ⟨some 9, .len_ (.tmp 8), none, []⟩,
      ⟨some 10, .mv (.const (.int .i64 0)), none, []⟩] [])
   (.block 0
     (.loop
       (.seq
        (.region false [⟨some 11, .bin .lss (.tmp 10) (.tmp 9), none, []⟩] [])
       (.seq
        (.cond (.tmp 11)
          .skip
          (.exit 0))
       (.seq
        (.block 1
          (.seq
           (.region false [⟨some 12, .iadS 1 (.tmp 8) (.tmp 10), none, []⟩,
             ⟨some 13, .load1 (.tmp 12), none, []⟩,
             ⟨some 4, .mv (.tmp 13), none, []⟩] [12, 13])
          (.seq
           (.region false [⟨some 14, .mv (.tmp 4), none, []⟩,
             ⟨some 15, .call (.func 23) [(.tmp 14)], none, []⟩,
             ⟨some 5, .mv (.tmp 15), none, []⟩] [14, 15])
          (.seq
           (.region false [⟨some 16, .mv (.tmp 5), none, []⟩,
             ⟨some 17, .bin .neq (.tmp 16) (.const (.int .i64 0)), none, []⟩] [16])
          (.cond (.tmp 17)
            (.seq
             (.region false [⟨some 18, .mv (.tmp 5), none, []⟩,
               ⟨some 2, .mv (.tmp 18), none, []⟩] [18])
            .ret)
            .skip)))))
       (.region false [⟨some 19, .bin .add (.tmp 10) (.const (.int .i64 1)), none, []⟩,
         ⟨some 10, .mv (.tmp 19), none, []⟩] [19])))))))
  (.seq
   (.seq
    (.region false [⟨some 20, .mv (.tmp 0), none, []⟩,
      ⟨some 21, .len_ (.tmp 20), none, []⟩,
      ⟨some 22, .mv (.const (.int .i64 0)), none, []⟩] [])
   (.block 2
     (.loop
       (.seq
        (.region false [⟨some 23, .bin .lss (.tmp 22) (.tmp 21), none, []⟩] [])
       (.seq
        (.cond (.tmp 23)
          .skip
          (.exit 2))
       (.seq
        (.block 3
          (.seq
           (.region false [⟨some 24, .iadS 1 (.tmp 20) (.tmp 22), none, []⟩,
             ⟨some 25, .load1 (.tmp 24), none, []⟩,
             ⟨some 7, .mv (.tmp 25), none, []⟩] [24, 25])
          (.seq
           (.region false [⟨some 26, .mv (.tmp 7), none, []⟩,
             ⟨some 27, .len_ (.tmp 26), none, []⟩,
             ⟨some 28, .mv (.tmp 0), none, []⟩,
             ⟨some 29, .iadS 1 (.tmp 28) (.const (.int .i64 0)), none, []⟩,
             ⟨some 30, .load1 (.tmp 29), none, []⟩,
             ⟨some 31, .len_ (.tmp 30), none, []⟩,
             ⟨some 32, .bin .neq (.tmp 27) (.tmp 31), none, []⟩] [26, 27, 28, 29, 30, 31])
          (.cond (.tmp 32)
            (.seq
             (.region false [⟨some 2, .mv (.const (.int .i64 1)), none, []⟩] [])
            .ret)
            .skip))))
       (.region false [⟨some 33, .bin .add (.tmp 22) (.const (.int .i64 1)), none, []⟩,
         ⟨some 22, .mv (.tmp 33), none, []⟩] [33])))))))
  (.seq
   (.region false [⟨some 2, .mv (.const (.int .i64 0)), none, []⟩] [])
  .ret))))
set_option maxRecDepth 100000 in
theorem kspans_check : IsCode Try.prog 94 34 cspans_check [.tmp 2] :=
  ⟨Try.f94, _, [32, 23, 17, 11, 0, 10, 9, 8, 4, 5, 22, 21, 20, 7, 2], Try.func94, rfl, by decide, rfl, by kernel_rfl, by kernel_rfl⟩
/-- spans_corner -/
def cspans_corner : ACode :=
  (.seq
   (.region false [⟨some 2, .mv (.const (.slice none 0 0)), none, []⟩] [])
  (.seq
   (.seq
    (.region false [⟨some 5, .mv (.tmp 0), none, []⟩,
      ⟨some 6, .len_ (.tmp 5), none, []⟩,
      ⟨some 7, .mv (.const (.int .i64 0)), none, []⟩] [])
   (.block 0
     (.loop
       (.seq
        (.region false [⟨some 8, .bin .lss (.tmp 7) (.tmp 6), none, []⟩] [])
       (.seq
        (.cond (.tmp 8)
          .skip
          (.exit 0))
       (.seq
        (.block 1
          (.seq
           (.region false [⟨some 9, .iadS 2 (.tmp 5) (.tmp 7), none, []⟩,
             ⟨some 10, .loadN 2 (.tmp 9), none, []⟩,
             ⟨some 4, .mem [(.val (.int .i64 0)), (.val (.int .i64 0))], none, []⟩,
             ⟨none, .store 2 (.tmp 4) (.tmp 10), none, []⟩] [9, 10])
          (.region false [⟨some 11, .mv (.tmp 2), none, []⟩,
            ⟨some 12, .fad 0 (.tmp 4), none, []⟩,
            ⟨some 13, .load1 (.tmp 12), none, []⟩,
            ⟨some 14, .buildSl 1 1 [(.val (.int .i64 0))] [(0, 1, (.tmp 13))], none, []⟩,
            ⟨some 15, .app 1 8 (.tmp 11) (.tmp 14), none, []⟩,
            ⟨some 2, .mv (.tmp 15), none, []⟩] [11, 12, 13, 14, 15])))
       (.region false [⟨some 16, .bin .add (.tmp 7) (.const (.int .i64 1)), none, []⟩,
         ⟨some 7, .mv (.tmp 16), none, []⟩] [16])))))))
  (.seq
   (.region false [⟨some 17, .mv (.tmp 2), none, []⟩,
     ⟨some 2, .mv (.tmp 17), none, []⟩] [17])
  .ret)))
set_option maxRecDepth 100000 in
theorem kspans_corner : IsCode Try.prog 98 18 cspans_corner [.tmp 2] :=
  ⟨Try.f98, _, [8, 0, 7, 6, 5, 2, 4], Try.func98, rfl, by decide, rfl, by kernel_rfl, by kernel_rfl⟩
/-- spans_Covers -/
def cspans_Covers : ACode :=
  (.seq
   (.region false [⟨some 4, .mv (.const (.slice none 0 0)), none, []⟩,
     ⟨some 5, .mv (.const (.bool false)), none, []⟩,
     ⟨some 6, .mv (.const (.int .i64 0)), none, []⟩] [])
  (.seq
   (.seq
    (.region false [⟨some 14, .mv (.tmp 1), none, []⟩,
      ⟨some 15, .len_ (.tmp 14), none, []⟩,
      ⟨some 16, .bin .gtr (.tmp 15) (.const (.int .i64 20)), none, []⟩] [14, 15])
   (.cond (.tmp 16)
     (.seq
      (.region false [⟨some 4, .mv (.const (.slice none 0 0)), none, []⟩,
        ⟨some 5, .mv (.const (.bool false)), none, []⟩,
        ⟨some 6, .mv (.const (.int .i64 2)), none, []⟩] [])
     .ret)
     .skip))
  (.seq
   (.seq
    (.region false [⟨some 17, .mv (.tmp 0), none, []⟩,
      ⟨some 18, .buildSl 1 1 [(.val (.slice none 0 0))] [(0, 1, (.tmp 17))], none, []⟩,
      ⟨some 19, .mv (.tmp 1), none, []⟩,
      ⟨some 20, .app 1 24 (.tmp 18) (.tmp 19), none, []⟩,
      ⟨some 21, .call (.func 94) [(.tmp 20)], none, []⟩,
      ⟨some 7, .mv (.tmp 21), none, []⟩] [17, 18, 19, 20, 21])
   (.seq
    (.region false [⟨some 22, .mv (.tmp 7), none, []⟩,
      ⟨some 23, .bin .neq (.tmp 22) (.const (.int .i64 0)), none, []⟩] [22])
   (.cond (.tmp 23)
     (.seq
      (.region false [⟨some 24, .mv (.tmp 7), none, []⟩,
        ⟨some 4, .mv (.const (.slice none 0 0)), none, []⟩,
        ⟨some 5, .mv (.const (.bool false)), none, []⟩,
        ⟨some 6, .mv (.tmp 24), none, []⟩] [24])
     .ret)
     .skip)))
  (.seq
   (.region false [⟨some 25, .mv (.tmp 0), none, []⟩,
     ⟨some 26, .buildSl 1 1 [(.val (.slice none 0 0))] [(0, 1, (.tmp 25))], none, []⟩,
     ⟨some 8, .mv (.tmp 26), none, []⟩] [25, 26])
  (.seq
   (.seq
    (.region false [⟨some 27, .mv (.tmp 1), none, []⟩,
      ⟨some 28, .len_ (.tmp 27), none, []⟩,
      ⟨some 29, .mv (.const (.int .i64 0)), none, []⟩] [])
   (.block 0
     (.loop
       (.seq
        (.region false [⟨some 30, .bin .lss (.tmp 29) (.tmp 28), none, []⟩] [])
       (.seq
        (.cond (.tmp 30)
          .skip
          (.exit 0))
       (.seq
        (.block 1
          (.seq
           (.region false [⟨some 31, .iadS 1 (.tmp 27) (.tmp 29), none, []⟩,
             ⟨some 32, .load1 (.tmp 31), none, []⟩,
             ⟨some 10, .mv (.tmp 32), none, []⟩] [31, 32])
          (.region false [⟨some 33, .mv (.tmp 8), none, []⟩,
            ⟨some 34, .mv (.tmp 10), none, []⟩,
            ⟨some 35, .call (.func 93) [(.tmp 33), (.tmp 34)], none, []⟩,
            ⟨some 8, .mv (.tmp 35), none, []⟩] [33, 34, 35])))
       (.region false [⟨some 36, .bin .add (.tmp 29) (.const (.int .i64 1)), none, []⟩,
         ⟨some 29, .mv (.tmp 36), none, []⟩] [36])))))))
  (.seq
   (.seq
    (.region false [⟨some 37, .mv (.tmp 8), none, []⟩,
      ⟨some 38, .len_ (.tmp 37), none, []⟩,
      ⟨some 39, .mv (.const (.int .i64 0)), none, []⟩] [])
   (.block 2
     (.loop
       (.seq
        (.region false [⟨some 40, .bin .lss (.tmp 39) (.tmp 38), none, []⟩] [])
       (.seq
        (.cond (.tmp 40)
          .skip
          (.exit 2))
       (.seq
        (.block 3
          (.seq
           (.region false [⟨some 41, .iadS 1 (.tmp 37) (.tmp 39), none, []⟩,
             ⟨some 42, .load1 (.tmp 41), none, []⟩,
             ⟨some 12, .mv (.tmp 42), none, []⟩] [41, 42])
          (.seq
           (.region false [⟨some 43, .mv (.tmp 12), none, []⟩,
             ⟨some 44, .call (.func 98) [(.tmp 43)], none, []⟩,
             ⟨some 13, .mv (.tmp 44), none, []⟩] [43, 44])
          (.seq
           (.region false [⟨some 45, .mv (.tmp 4), none, []⟩,
             ⟨some 46, .eqn false (.tmp 45) (.const (.slice none 0 0)), none, []⟩,
             ⟨some 47, .mv (.tmp 46), none, []⟩,
             ⟨some 48, .mv (.tmp 13), (some (some 47, false)), []⟩,
             ⟨some 49, .mv (.tmp 4), (some (some 47, false)), []⟩,
             ⟨some 50, .call (.func 99) [(.tmp 48), (.tmp 49)], (some (some 47, false)), []⟩,
             ⟨some 51, .bin .lss (.tmp 50) (.const (.int .i64 0)), (some (some 47, false)), []⟩,
             ⟨some 52, .pick (.tmp 47) (.const (.bool true)) (.tmp 51), none, []⟩] [45, 46, 47, 48, 49, 50, 51])
          (.cond (.tmp 52)
            (.region false [⟨some 53, .mv (.tmp 13), none, []⟩,
              ⟨some 4, .mv (.tmp 53), none, []⟩] [53])
            .skip)))))
       (.region false [⟨some 54, .bin .add (.tmp 39) (.const (.int .i64 1)), none, []⟩,
         ⟨some 39, .mv (.tmp 54), none, []⟩] [54])))))))
  (.seq
   (.region false [⟨some 55, .mv (.tmp 4), none, []⟩,
     ⟨some 56, .mv (.tmp 4), none, []⟩,
     ⟨some 57, .eqn false (.tmp 56) (.const (.slice none 0 0)), none, []⟩,
     ⟨some 4, .mv (.tmp 55), none, []⟩,
     ⟨some 5, .mv (.tmp 57), none, []⟩,
     ⟨some 6, .mv (.const (.int .i64 0)), none, []⟩] [55, 56, 57])
  .ret)))))))
set_option maxRecDepth 100000 in
theorem kspans_Covers : IsCode Try.prog 59 58 cspans_Covers [.tmp 4, .tmp 5, .tmp 6] :=
  ⟨Try.f59, _, [52, 40, 30, 23, 16, 1, 0, 7, 29, 28, 27, 8, 10, 39, 38, 37, 12, 4, 13, 5, 6], Try.func59, rfl, by decide, rfl, by kernel_rfl, by kernel_rfl⟩
/-- spans_Count -/
def cspans_Count : ACode :=
  (.seq
   (.region false [⟨some 2, .mv (.const (.int .i64 0)), none, []⟩,
     ⟨some 3, .mv (.const (.int .i64 0)), none, []⟩] [])
  (.seq
   (.seq
    (.region false [⟨some 15, .mv (.tmp 0), none, []⟩,
      ⟨some 16, .len_ (.tmp 15), none, []⟩,
      ⟨some 17, .bin .gtr (.tmp 16) (.const (.int .i64 20)), none, []⟩] [15, 16])
   (.cond (.tmp 17)
     (.seq
      (.region false [⟨some 2, .mv (.const (.int .i64 0)), none, []⟩,
        ⟨some 3, .mv (.const (.int .i64 2)), none, []⟩] [])
     .ret)
     .skip))
  (.seq
   (.seq
    (.region false [⟨some 18, .mv (.tmp 0), none, []⟩,
      ⟨some 19, .call (.func 94) [(.tmp 18)], none, []⟩,
      ⟨some 4, .mv (.tmp 19), none, []⟩] [18, 19])
   (.seq
    (.region false [⟨some 20, .mv (.tmp 4), none, []⟩,
      ⟨some 21, .bin .neq (.tmp 20) (.const (.int .i64 0)), none, []⟩] [20])
   (.cond (.tmp 21)
     (.seq
      (.region false [⟨some 22, .mv (.tmp 4), none, []⟩,
        ⟨some 2, .mv (.const (.int .i64 0)), none, []⟩,
        ⟨some 3, .mv (.tmp 22), none, []⟩] [22])
     .ret)
     .skip)))
  (.seq
   (.seq
    (.region false [⟨some 23, .mv (.tmp 0), none, []⟩,
      ⟨some 24, .len_ (.tmp 23), none, []⟩,
      ⟨some 25, .mv (.const (.int .i64 0)), none, []⟩] [])
   (.block 0
     (.loop
       (.seq
        (.region false [⟨some 26, .bin .lss (.tmp 25) (.tmp 24), none, []⟩] [])
       (.seq
        (.cond (.tmp 26)
          .skip
          (.exit 0))
       (.seq
        (.block 1
          (.seq
           (.region false [⟨some 27, .mv (.tmp 25), none, []⟩,
             ⟨some 28, .iadS 1 (.tmp 23) (.tmp 25), none, []⟩,
             ⟨some 29, .load1 (.tmp 28), none, []⟩,
             ⟨some 5, .mv (.tmp 27), none, []⟩,
             ⟨some 6, .mv (.tmp 29), none, []⟩] [27, 28, 29])
          (.seq
           (.region false [⟨some 30, .mv (.tmp 6), none, []⟩,
             ⟨some 31, .buildSl 1 1 [(.val (.slice none 0 0))] [(0, 1, (.tmp 30))], none, []⟩,
             ⟨some 7, .mv (.tmp 31), none, []⟩] [30, 31])
          (.seq
           (.seq
            (.region false [⟨some 32, .mv (.tmp 0), none, []⟩,
              ⟨some 33, .mv (.tmp 5), none, []⟩,
              ⟨some 34, .slS 1 (.tmp 32) none (some (.tmp 33)), none, []⟩,
              ⟨some 35, .len_ (.tmp 34), none, []⟩,
              ⟨some 36, .mv (.const (.int .i64 0)), none, []⟩] [32, 33])
           (.block 2
             (.loop
               (.seq
                (.region false [⟨some 37, .bin .lss (.tmp 36) (.tmp 35), none, []⟩] [])
               (.seq
                (.cond (.tmp 37)
                  .skip
                  (.exit 2))
               (.seq
                (.block 3
                  (.seq
                   (.region false [⟨some 38, .iadS 1 (.tmp 34) (.tmp 36), none, []⟩,
                     ⟨some 39, .load1 (.tmp 38), none, []⟩,
                     ⟨some 9, .mv (.tmp 39), none, []⟩] [38, 39])
                  (.region false [⟨some 40, .mv (.tmp 7), none, []⟩,
                    ⟨some 41, .mv (.tmp 9), none, []⟩,
                    ⟨some 42, .call (.func 93) [(.tmp 40), (.tmp 41)], none, []⟩,
                    ⟨some 7, .mv (.tmp 42), none, []⟩] [40, 41, 42])))
               (.region false [⟨some 43, .bin .add (.tmp 36) (.const (.int .i64 1)), none, []⟩,
                 ⟨some 36, .mv (.tmp 43), none, []⟩] [43])))))))
          (.seq
           (.region false [⟨some 44, .mv (.tmp 7), none, []⟩,
             ⟨some 45, .len_ (.tmp 44), none, []⟩,
             ⟨some 46, .mv (.const (.int .i64 0)), none, []⟩] [])
          (.block 4
            (.loop
              (.seq
               (.region false [⟨some 47, .bin .lss (.tmp 46) (.tmp 45), none, []⟩] [])
              (.seq
               (.cond (.tmp 47)
                 .skip
                 (.exit 4))
              (.seq
               (.block 5
                 (.seq
                  (.region false [⟨some 48, .iadS 1 (.tmp 44) (.tmp 46), none, []⟩,
                    ⟨some 49, .load1 (.tmp 48), none, []⟩,
                    ⟨some 11, .mv (.tmp 49), none, []⟩] [48, 49])
                 (.seq
                  (.region false [⟨some 12, .mv (.const (.int .i64 1)), none, []⟩] [])
                 (.seq
                  (.seq
                   (.region false [⟨some 50, .mv (.tmp 11), none, []⟩,
                     ⟨some 51, .len_ (.tmp 50), none, []⟩,
                     ⟨some 52, .mv (.const (.int .i64 0)), none, []⟩] [])
                  (.block 6
                    (.loop
                      (.seq
                       (.region false [⟨some 53, .bin .lss (.tmp 52) (.tmp 51), none, []⟩] [])
                      (.seq
                       (.cond (.tmp 53)
                         .skip
                         (.exit 6))
                      (.seq
                       (.block 7
                         (.seq
                          (.region false [⟨some 54, .iadS 2 (.tmp 50) (.tmp 52), none, []⟩,
                            ⟨some 55, .loadN 2 (.tmp 54), none, []⟩,
                            ⟨some 14, .mem [(.val (.int .i64 0)), (.val (.int .i64 0))], none, []⟩,
                            ⟨none, .store 2 (.tmp 14) (.tmp 55), none, []⟩] [54, 55])
                         (.region false [⟨some 56, .mv (.tmp 12), none, []⟩,
                           ⟨some 57, .fad 1 (.tmp 14), none, []⟩,
                           ⟨some 58, .load1 (.tmp 57), none, []⟩,
                           ⟨some 59, .fad 0 (.tmp 14), none, []⟩,
                           ⟨some 60, .load1 (.tmp 59), none, []⟩,
                           ⟨some 61, .bin .sub (.tmp 58) (.tmp 60), none, []⟩,
                           ⟨some 62, .bin .add (.tmp 61) (.const (.int .i64 1)), none, []⟩,
                           ⟨some 63, .bin .mul (.tmp 56) (.tmp 62), none, []⟩,
                           ⟨some 12, .mv (.tmp 63), none, []⟩] [56, 57, 58, 59, 60, 61, 62, 63])))
                      (.region false [⟨some 64, .bin .add (.tmp 52) (.const (.int .i64 1)), none, []⟩,
                        ⟨some 52, .mv (.tmp 64), none, []⟩] [64])))))))
                 (.region false [⟨some 65, .mv (.tmp 2), none, []⟩,
                   ⟨some 66, .mv (.tmp 12), none, []⟩,
                   ⟨some 67, .bin .add (.tmp 65) (.tmp 66), none, []⟩,
                   ⟨some 68, .mnx false [(.tmp 67), (.const (.int .i64 1000000000000000000))], none, []⟩,
                   ⟨some 2, .mv (.tmp 68), none, []⟩] [65, 66, 67, 68])))))
              (.region false [⟨some 69, .bin .add (.tmp 46) (.const (.int .i64 1)), none, []⟩,
                ⟨some 46, .mv (.tmp 69), none, []⟩] [69])))))))))))
       (.region false [⟨some 70, .bin .add (.tmp 25) (.const (.int .i64 1)), none, []⟩,
         ⟨some 25, .mv (.tmp 70), none, []⟩] [70])))))))
  (.seq
   (.region false [⟨some 71, .mv (.tmp 2), none, []⟩,
     ⟨some 2, .mv (.tmp 71), none, []⟩,
     ⟨some 3, .mv (.const (.int .i64 0)), none, []⟩] [71])
  .ret)))))
set_option maxRecDepth 100000 in
theorem kspans_Count : IsCode Try.prog 56 72 cspans_Count [.tmp 2, .tmp 3] :=
  ⟨Try.f56, _, [53, 47, 37, 26, 21, 17, 0, 4, 25, 24, 23, 6, 5, 36, 35, 34, 7, 9, 46, 45, 44, 11, 52, 51, 50, 12, 14, 2, 3], Try.func56, rfl, by decide, rfl, by kernel_rfl, by kernel_rfl⟩
/-- slices_Compare_L_L_Jint_Kint_J -/
def cslices_Compare_L_L_Jint_Kint_J : ACode :=
  (.seq
   (.region false [⟨some 4, .mv (.const (.int .i64 0)), none, []⟩] [])
  (.seq
   (.seq
    (.region false [⟨some 9, .mv (.tmp 0), none, []⟩,
      ⟨some 10, .len_ (.tmp 9), none, []⟩,
      ⟨some 11, .mv (.const (.int .i64 0)), none, []⟩] [])
   (.block 0
     (.loop
       (.seq
        (.region false [⟨some 12, .bin .lss (.tmp 11) (.tmp 10), none, []⟩] [])
       (.seq
        (.cond (.tmp 12)
          .skip
          (.exit 0))
       (.seq
        (.block 1
          (.seq
           (.region false [⟨some 13, .mv (.tmp 11), none, []⟩,
             ⟨some 14, .iadS 1 (.tmp 9) (.tmp 11), none, []⟩,
             ⟨some 15, .load1 (.tmp 14), none, []⟩,
             ⟨some 5, .mv (.tmp 13), none, []⟩,
             ⟨some 6, .mv (.tmp 15), none, []⟩] [13, 14, 15])
          (.seq
           (.seq
            (.region false [⟨some 16, .mv (.tmp 5), none, []⟩,
              ⟨some 17, .mv (.tmp 1), none, []⟩,
              ⟨some 18, .len_ (.tmp 17), none, []⟩,
              ⟨some 19, .bin .geq (.tmp 16) (.tmp 18), none, []⟩] [16, 17, 18])
           (.cond (.tmp 19)
             (.seq
              (.region false [⟨some 4, .mv (.const (.int .i64 1)), none, []⟩] [])
             .ret)
             .skip))
          (.seq
           (.region false [⟨some 20, .mv (.tmp 1), none, []⟩,
             ⟨some 21, .mv (.tmp 5), none, []⟩,
             ⟨some 22, .iadS 1 (.tmp 20) (.tmp 21), none, []⟩,
             ⟨some 23, .load1 (.tmp 22), none, []⟩,
             ⟨some 7, .mv (.tmp 23), none, []⟩] [20, 21, 22, 23])
          (.seq
           (.region false [⟨some 24, .mv (.tmp 6), none, []⟩,
             ⟨some 25, .mv (.tmp 7), none, []⟩,
             ⟨some 26, .call (.func 112) [(.tmp 24), (.tmp 25)], none, []⟩,
             ⟨some 8, .mv (.tmp 26), none, []⟩] [24, 25, 26])
          (.seq
           (.region false [⟨some 27, .mv (.tmp 8), none, []⟩,
             ⟨some 28, .bin .neq (.tmp 27) (.const (.int .i64 0)), none, []⟩] [27])
          (.cond (.tmp 28)
            (.seq
             (.region false [⟨some 29, .mv (.tmp 8), none, []⟩,
               ⟨some 4, .mv (.tmp 29), none, []⟩] [29])
            .ret)
            .skip)))))))
       (.region false [⟨some 30, .bin .add (.tmp 11) (.const (.int .i64 1)), none, []⟩,
         ⟨some 11, .mv (.tmp 30), none, []⟩] [30])))))))
  (.seq
   (.seq
    (.region false [⟨some 31, .mv (.tmp 0), none, []⟩,
      ⟨some 32, .len_ (.tmp 31), none, []⟩,
      ⟨some 33, .mv (.tmp 1), none, []⟩,
      ⟨some 34, .len_ (.tmp 33), none, []⟩,
      ⟨some 35, .bin .lss (.tmp 32) (.tmp 34), none, []⟩] [31, 32, 33, 34])
   (.cond (.tmp 35)
     (.seq
      (.region false [⟨some 4, .mv (.const (.int .i64 (-1))), none, []⟩] [])
     .ret)
     .skip))
  (.seq
   (.region false [⟨some 4, .mv (.const (.int .i64 0)), none, []⟩] [])
  .ret))))
set_option maxRecDepth 100000 in
theorem kslices_Compare_L_L_Jint_Kint_J : IsCode Try.prog 99 36 cslices_Compare_L_L_Jint_Kint_J [.tmp 4] :=
  ⟨Try.f99, _, [35, 28, 19, 12, 0, 11, 10, 9, 5, 1, 6, 7, 8, 4], Try.func99, rfl, by decide, rfl, by kernel_rfl, by kernel_rfl⟩
/-- cmp_Compare_Lint_J -/
def ccmp_Compare_Lint_J : ACode :=
  (.seq
   (.region false [⟨some 4, .mv (.const (.int .i64 0)), none, []⟩] [])
  (.seq
   (.region false [⟨some 7, .mv (.tmp 0), none, []⟩,
     ⟨some 8, .call (.func 118) [(.tmp 7)], none, []⟩,
     ⟨some 5, .mv (.tmp 8), none, []⟩] [7, 8])
  (.seq
   (.region false [⟨some 9, .mv (.tmp 1), none, []⟩,
     ⟨some 10, .call (.func 118) [(.tmp 9)], none, []⟩,
     ⟨some 6, .mv (.tmp 10), none, []⟩] [9, 10])
  (.seq
   (.seq
    (.region false [⟨some 11, .mv (.tmp 5), none, []⟩] [])
   (.cond (.tmp 11)
     (.seq
      (.seq
       (.region false [⟨some 12, .mv (.tmp 6), none, []⟩] [])
      (.cond (.tmp 12)
        (.seq
         (.region false [⟨some 4, .mv (.const (.int .i64 0)), none, []⟩] [])
        .ret)
        .skip))
     (.seq
      (.region false [⟨some 4, .mv (.const (.int .i64 (-1))), none, []⟩] [])
     .ret))
     .skip))
  (.seq
   (.seq
    (.region false [⟨some 13, .mv (.tmp 6), none, []⟩] [])
   (.cond (.tmp 13)
     (.seq
      (.region false [⟨some 4, .mv (.const (.int .i64 1)), none, []⟩] [])
     .ret)
     .skip))
  (.seq
   (.seq
    (.region false [⟨some 14, .mv (.tmp 0), none, []⟩,
      ⟨some 15, .mv (.tmp 1), none, []⟩,
      ⟨some 16, .bin .lss (.tmp 14) (.tmp 15), none, []⟩] [14, 15])
   (.cond (.tmp 16)
     (.seq
      (.region false [⟨some 4, .mv (.const (.int .i64 (-1))), none, []⟩] [])
     .ret)
     .skip))
  (.seq
   (.seq
    (.region false [⟨some 17, .mv (.tmp 0), none, []⟩,
      ⟨some 18, .mv (.tmp 1), none, []⟩,
      ⟨some 19, .bin .gtr (.tmp 17) (.tmp 18), none, []⟩] [17, 18])
   (.cond (.tmp 19)
     (.seq
      (.region false [⟨some 4, .mv (.const (.int .i64 1)), none, []⟩] [])
     .ret)
     .skip))
  (.seq
   (.region false [⟨some 4, .mv (.const (.int .i64 0)), none, []⟩] [])
  .ret))))))))
set_option maxRecDepth 100000 in
theorem kcmp_Compare_Lint_J : IsCode Try.prog 112 20 ccmp_Compare_Lint_J [.tmp 4] :=
  ⟨Try.f112, _, [19, 16, 13, 12, 11, 0, 1, 5, 6, 4], Try.func112, rfl, by decide, rfl, by kernel_rfl, by kernel_rfl⟩
/-- cmp_isNaN_Lint_J -/
def ccmp_isNaN_Lint_J : ACode :=
  (.seq
   (.region false [⟨some 2, .mv (.const (.bool false)), none, []⟩] [])
  (.seq
   (.region false [⟨some 3, .mv (.tmp 0), none, []⟩,
     ⟨some 4, .mv (.tmp 0), none, []⟩,
     ⟨some 5, .bin .neq (.tmp 3) (.tmp 4), none, []⟩,
     ⟨some 2, .mv (.tmp 5), none, []⟩] [3, 4, 5])
  .ret))
set_option maxRecDepth 100000 in
theorem kcmp_isNaN_Lint_J : IsCode Try.prog 118 6 ccmp_isNaN_Lint_J [.tmp 2] :=
  ⟨Try.f118, _, [0, 2], Try.func118, rfl, by decide, rfl, by kernel_rfl, by kernel_rfl⟩
/-- cmp_Less_Lint_J -/
def ccmp_Less_Lint_J : ACode :=
  (.seq
   (.region false [⟨some 4, .mv (.const (.bool false)), none, []⟩] [])
  (.seq
   (.region false [⟨some 5, .mv (.tmp 0), none, []⟩,
     ⟨some 6, .call (.func 118) [(.tmp 5)], none, []⟩,
     ⟨some 7, .mv (.tmp 6), none, []⟩,
     ⟨some 8, .mv (.tmp 1), (some (some 7, true)), []⟩,
     ⟨some 9, .call (.func 118) [(.tmp 8)], (some (some 7, true)), []⟩,
     ⟨some 10, .un .not (.tmp 9), (some (some 7, true)), []⟩,
     ⟨some 11, .pick (.tmp 7) (.tmp 10) (.const (.bool false)), none, []⟩,
     ⟨some 12, .mv (.tmp 11), none, []⟩,
     ⟨some 13, .mv (.tmp 0), (some (some 12, false)), []⟩,
     ⟨some 14, .mv (.tmp 1), (some (some 12, false)), []⟩,
     ⟨some 15, .bin .lss (.tmp 13) (.tmp 14), (some (some 12, false)), []⟩,
     ⟨some 16, .pick (.tmp 12) (.const (.bool true)) (.tmp 15), none, []⟩,
     ⟨some 4, .mv (.tmp 16), none, []⟩] [5, 6, 7, 8, 9, 10, 11, 12, 13, 14, 15, 16])
  .ret))
set_option maxRecDepth 100000 in
theorem kcmp_Less_Lint_J : IsCode Try.prog 119 17 ccmp_Less_Lint_J [.tmp 4] :=
  ⟨Try.f119, _, [0, 1, 4], Try.func119, rfl, by decide, rfl, by kernel_rfl, by kernel_rfl⟩
/-- slices_isNaN_Lint_J -/
def cslices_isNaN_Lint_J : ACode :=
  (.seq
   (.region false [⟨some 2, .mv (.const (.bool false)), none, []⟩] [])
  (.seq
   (.region false [⟨some 3, .mv (.tmp 0), none, []⟩,
     ⟨some 4, .mv (.tmp 0), none, []⟩,
     ⟨some 5, .bin .neq (.tmp 3) (.tmp 4), none, []⟩,
     ⟨some 2, .mv (.tmp 5), none, []⟩] [3, 4, 5])
  .ret))
set_option maxRecDepth 100000 in
theorem kslices_isNaN_Lint_J : IsCode Try.prog 120 6 cslices_isNaN_Lint_J [.tmp 2] :=
  ⟨Try.f120, _, [0, 2], Try.func120, rfl, by decide, rfl, by kernel_rfl, by kernel_rfl⟩
/-- ref01_checkList -/
def cref01_checkList : ACode :=
  (.seq
   (.region false [⟨some 4, .mv (.const (.int .i64 0)), none, []⟩] [])
  (.seq
   (.seq
    (.region false [⟨some 7, .mv (.tmp 0), none, []⟩,
      ⟨some 8, .len_ (.tmp 7), none, []⟩,
      ⟨some 9, .bin .gtr (.tmp 8) (.const (.int .i64 20)), none, []⟩] [7, 8])
   (.cond (.tmp 9)
     (.seq
      (.region false [⟨some 4, .mv (.const (.int .i64 2)), none, []⟩] [])
     .ret)
     .skip))
  (.seq
   (.seq
    (.region false [⟨some 5, .mv (.const (.int .i64 0)), none, []⟩] [])
   (.block 0
     (.loop
       (.seq
        (.seq
         (.region false [⟨some 10, .mv (.tmp 5), none, []⟩,
           ⟨some 11, .mv (.tmp 0), none, []⟩,
           ⟨some 12, .len_ (.tmp 11), none, []⟩,
           ⟨some 13, .bin .lss (.tmp 10) (.tmp 12), none, []⟩] [10, 11, 12])
        (.cond (.tmp 13)
          .skip
          (.exit 0)))
       (.seq
        (.block 1
          (.seq
           (.region false [⟨some 16, .mv (.tmp 0), none, []⟩,
             ⟨some 17, .mv (.tmp 5), none, []⟩,
             ⟨some 18, .iadS 1 (.tmp 16) (.tmp 17), none, []⟩,
             ⟨some 19, .load1 (.tmp 18), none, []⟩,
             ⟨some 20, .call (.func 25) [(.tmp 19)], none, []⟩,
             ⟨some 21, .bin .neq (.tmp 20) (.const (.int .i64 0)), none, []⟩] [16, 17, 18, 19, 20])
          (.cond (.tmp 21)
            (.seq
             (.region false [⟨some 4, .mv (.const (.int .i64 10)), none, []⟩] [])
            .ret)
            .skip)))
       (.region false [⟨some 14, .mv (.tmp 5), none, []⟩,
         ⟨some 15, .bin .add (.tmp 14) (.const (.int .i64 1)), none, []⟩,
         ⟨some 5, .mv (.tmp 15), none, []⟩] [14, 15]))))))
  (.seq
   (.seq
    (.region false [⟨some 6, .mv (.const (.int .i64 0)), none, []⟩] [])
   (.block 2
     (.loop
       (.seq
        (.seq
         (.region false [⟨some 22, .mv (.tmp 6), none, []⟩,
           ⟨some 23, .mv (.tmp 0), none, []⟩,
           ⟨some 24, .len_ (.tmp 23), none, []⟩,
           ⟨some 25, .bin .lss (.tmp 22) (.tmp 24), none, []⟩] [22, 23, 24])
        (.cond (.tmp 25)
          .skip
          (.exit 2)))
       (.seq
        (.block 3
          (.seq
           (.seq
            (.region false [⟨some 28, .mv (.tmp 1), none, []⟩,
              ⟨some 29, .bin .lss (.tmp 28) (.const (.int .i64 0)), none, []⟩] [28])
           (.cond (.tmp 29)
             (.region false [⟨some 30, .mv (.tmp 0), none, []⟩,
               ⟨some 31, .iadS 1 (.tmp 30) (.const (.int .i64 0)), none, []⟩,
               ⟨some 32, .load1 (.tmp 31), none, []⟩,
               ⟨some 33, .len_ (.tmp 32), none, []⟩,
               ⟨some 1, .mv (.tmp 33), none, []⟩] [30, 31, 32, 33])
             .skip))
          (.seq
           (.region false [⟨some 34, .mv (.tmp 0), none, []⟩,
             ⟨some 35, .mv (.tmp 6), none, []⟩,
             ⟨some 36, .iadS 1 (.tmp 34) (.tmp 35), none, []⟩,
             ⟨some 37, .load1 (.tmp 36), none, []⟩,
             ⟨some 38, .len_ (.tmp 37), none, []⟩,
             ⟨some 39, .mv (.tmp 1), none, []⟩,
             ⟨some 40, .bin .neq (.tmp 38) (.tmp 39), none, []⟩] [34, 35, 36, 37, 38, 39])
          (.cond (.tmp 40)
            (.seq
             (.region false [⟨some 4, .mv (.const (.int .i64 1)), none, []⟩] [])
            .ret)
            .skip))))
       (.region false [⟨some 26, .mv (.tmp 6), none, []⟩,
         ⟨some 27, .bin .add (.tmp 26) (.const (.int .i64 1)), none, []⟩,
         ⟨some 6, .mv (.tmp 27), none, []⟩] [26, 27]))))))
  (.seq
   (.region false [⟨some 4, .mv (.const (.int .i64 0)), none, []⟩] [])
  .ret)))))
set_option maxRecDepth 100000 in
theorem kref01_checkList : IsCode Try.prog 95 41 cref01_checkList [.tmp 4] :=
  ⟨Try.f95, _, [40, 29, 25, 21, 13, 9, 0, 5, 6, 1, 4], Try.func95, rfl, by decide, rfl, by kernel_rfl, by kernel_rfl⟩
/-- ref01_left -/
def cref01_left : ACode :=
  (.seq
   (.region false [⟨some 4, .mv (.const (.slice none 0 0)), none, []⟩] [])
  (.seq
   (.region false [⟨some 11, .mv (.tmp 0), none, []⟩,
     ⟨some 12, .buildSl 1 1 [(.val (.slice none 0 0))] [(0, 1, (.tmp 11))], none, []⟩,
     ⟨some 5, .mv (.tmp 12), none, []⟩] [11, 12])
  (.seq
   (.seq
    (.region false [⟨some 6, .mv (.const (.int .i64 0)), none, []⟩] [])
   (.block 0
     (.loop
       (.seq
        (.seq
         (.region false [⟨some 13, .mv (.tmp 6), none, []⟩,
           ⟨some 14, .mv (.tmp 1), none, []⟩,
           ⟨some 15, .len_ (.tmp 14), none, []⟩,
           ⟨some 16, .bin .lss (.tmp 13) (.tmp 15), none, []⟩] [13, 14, 15])
        (.cond (.tmp 16)
          .skip
          (.exit 0)))
       (.seq
        (.block 1
          (.seq
           (.region false [⟨some 7, .mv (.const (.slice none 0 0)), none, []⟩] [])
          (.seq
           (.seq
            (.region false [⟨some 8, .mv (.const (.int .i64 0)), none, []⟩] [])
           (.block 2
             (.loop
               (.seq
                (.seq
                 (.region false [⟨some 19, .mv (.tmp 8), none, []⟩,
                   ⟨some 20, .mv (.tmp 5), none, []⟩,
                   ⟨some 21, .len_ (.tmp 20), none, []⟩,
                   ⟨some 22, .bin .lss (.tmp 19) (.tmp 21), none, []⟩] [19, 20, 21])
                (.cond (.tmp 22)
                  .skip
                  (.exit 2)))
               (.seq
                (.block 3
                  (.seq
                   (.region true [⟨some 26, .mv (.tmp 5), none, []⟩,
                     ⟨some 27, .mv (.tmp 8), none, []⟩,
                     ⟨some 28, .iadS 1 (.tmp 26) (.tmp 27), none, [0, 1]⟩,
                     ⟨some 29, .load1 (.tmp 28), none, [2, 0, 1]⟩,
                     ⟨some 30, .mv (.tmp 1), none, []⟩,
                     ⟨some 31, .mv (.tmp 6), none, []⟩,
                     ⟨some 32, .iadS 1 (.tmp 30) (.tmp 31), none, [4, 5]⟩,
                     ⟨some 33, .load1 (.tmp 32), none, [6, 4, 5]⟩,
                     ⟨some 34, .call (.func 52) [(.tmp 29), (.tmp 33)], none, [3, 2, 0, 1, 7, 6, 4, 5]⟩,
                     ⟨some 25, .mv (.tmp 34), none, [8, 3, 2, 0, 1, 7, 6, 4, 5]⟩,
                     ⟨some 35, .ext (.tmp 25) 0, none, [9, 8, 3, 2, 0, 1, 7, 6, 4, 5]⟩,
                     ⟨some 36, .ext (.tmp 25) 1, none, [9, 8, 3, 2, 0, 1, 7, 6, 4, 5]⟩,
                     ⟨some 9, .mv (.tmp 35), none, [10, 9, 8, 3, 2, 0, 1, 7, 6, 4, 5]⟩,
                     ⟨some 10, .mv (.tmp 36), none, [11, 9, 8, 3, 2, 0, 1, 7, 6, 4, 5, 12, 10]⟩] [26, 27, 28, 29, 30, 31, 32, 33, 34, 25, 35, 36, 10])
                  (.region false [⟨some 37, .mv (.tmp 7), none, []⟩,
                    ⟨some 38, .mv (.tmp 9), none, []⟩,
                    ⟨some 39, .app 1 24 (.tmp 37) (.tmp 38), none, []⟩,
                    ⟨some 7, .mv (.tmp 39), none, []⟩] [37, 38, 39])))
               (.region false [⟨some 23, .mv (.tmp 8), none, []⟩,
                 ⟨some 24, .bin .add (.tmp 23) (.const (.int .i64 1)), none, []⟩,
                 ⟨some 8, .mv (.tmp 24), none, []⟩] [23, 24]))))))
          (.region false [⟨some 40, .mv (.tmp 7), none, []⟩,
            ⟨some 5, .mv (.tmp 40), none, []⟩] [40]))))
       (.region false [⟨some 17, .mv (.tmp 6), none, []⟩,
         ⟨some 18, .bin .add (.tmp 17) (.const (.int .i64 1)), none, []⟩,
         ⟨some 6, .mv (.tmp 18), none, []⟩] [17, 18]))))))
  (.seq
   (.region false [⟨some 41, .mv (.tmp 5), none, []⟩,
     ⟨some 4, .mv (.tmp 41), none, []⟩] [41])
  .ret))))
set_option maxRecDepth 100000 in
theorem kref01_left : IsCode Try.prog 96 42 cref01_left [.tmp 4] :=
  ⟨Try.f96, _, [22, 16, 0, 6, 1, 8, 5, 7, 9, 4], Try.func96, rfl, by decide, rfl, by kernel_rfl, by kernel_rfl⟩
/-- ref01_size -/
def cref01_size : ACode :=
  (.seq
   (.region false [⟨some 2, .mv (.const (.int .i64 0)), none, []⟩] [])
  (.seq
   (.region false [⟨some 3, .mv (.const (.int .i64 1)), none, []⟩] [])
  (.seq
   (.seq
    (.region false [⟨some 4, .mv (.const (.int .i64 0)), none, []⟩] [])
   (.block 0
     (.loop
       (.seq
        (.seq
         (.region false [⟨some 5, .mv (.tmp 4), none, []⟩,
           ⟨some 6, .mv (.tmp 0), none, []⟩,
           ⟨some 7, .len_ (.tmp 6), none, []⟩,
           ⟨some 8, .bin .lss (.tmp 5) (.tmp 7), none, []⟩] [5, 6, 7])
        (.cond (.tmp 8)
          .skip
          (.exit 0)))
       (.seq
        (.block 1
          (.region true [⟨some 11, .mv (.tmp 3), none, []⟩,
            ⟨some 12, .mv (.tmp 0), none, []⟩,
            ⟨some 13, .mv (.tmp 4), none, []⟩,
            ⟨some 14, .iadS 2 (.tmp 12) (.tmp 13), none, [1, 2]⟩,
            ⟨some 15, .fad 1 (.tmp 14), none, [3, 1, 2]⟩,
            ⟨some 16, .load1 (.tmp 15), none, [4, 3, 1, 2]⟩,
            ⟨some 17, .mv (.tmp 0), none, []⟩,
            ⟨some 18, .mv (.tmp 4), none, []⟩,
            ⟨some 19, .iadS 2 (.tmp 17) (.tmp 18), none, [6, 7]⟩,
            ⟨some 20, .fad 0 (.tmp 19), none, [8, 6, 7]⟩,
            ⟨some 21, .load1 (.tmp 20), none, [9, 8, 6, 7]⟩,
            ⟨some 22, .bin .sub (.tmp 16) (.tmp 21), none, [5, 4, 3, 1, 2, 10, 9, 8, 6, 7]⟩,
            ⟨some 23, .bin .add (.tmp 22) (.const (.int .i64 1)), none, [11, 5, 4, 3, 1, 2, 10, 9, 8, 6, 7]⟩,
            ⟨some 24, .bin .mul (.tmp 11) (.tmp 23), none, [0, 12, 11, 5, 4, 3, 1, 2, 10, 9, 8, 6, 7]⟩,
            ⟨some 3, .mv (.tmp 24), none, [13, 0, 12, 11, 5, 4, 3, 1, 2, 10, 9, 8, 6, 7]⟩] [11, 12, 13, 14, 15, 16, 17, 18, 19, 20, 21, 22, 23, 24]))
       (.region false [⟨some 9, .mv (.tmp 4), none, []⟩,
         ⟨some 10, .bin .add (.tmp 9) (.const (.int .i64 1)), none, []⟩,
         ⟨some 4, .mv (.tmp 10), none, []⟩] [9, 10]))))))
  (.seq
   (.region false [⟨some 25, .mv (.tmp 3), none, []⟩,
     ⟨some 2, .mv (.tmp 25), none, []⟩] [25])
  .ret))))
set_option maxRecDepth 100000 in
theorem kref01_size : IsCode Try.prog 97 26 cref01_size [.tmp 2] :=
  ⟨Try.f97, _, [8, 4, 0, 3, 2], Try.func97, rfl, by decide, rfl, by kernel_rfl, by kernel_rfl⟩
/-- ref01_before -/
def cref01_before : ACode :=
  (.seq
   (.region false [⟨some 4, .mv (.const (.bool false)), none, []⟩] [])
  (.seq
   (.seq
    (.region false [⟨some 5, .mv (.const (.int .i64 0)), none, []⟩] [])
   (.block 0
     (.loop
       (.seq
        (.seq
         (.region false [⟨some 6, .mv (.tmp 5), none, []⟩,
           ⟨some 7, .mv (.tmp 0), none, []⟩,
           ⟨some 8, .len_ (.tmp 7), none, []⟩,
           ⟨some 9, .bin .lss (.tmp 6) (.tmp 8), none, []⟩] [6, 7, 8])
        (.cond (.tmp 9)
          .skip
          (.exit 0)))
       (.seq
        (.block 1
          (.seq
           (.region true [⟨some 12, .mv (.tmp 0), none, []⟩,
             ⟨some 13, .mv (.tmp 5), none, []⟩,
             ⟨some 14, .iadS 1 (.tmp 12) (.tmp 13), none, [0, 1]⟩,
             ⟨some 15, .load1 (.tmp 14), none, [2, 0, 1]⟩,
             ⟨some 16, .mv (.tmp 1), none, []⟩,
             ⟨some 17, .mv (.tmp 5), none, []⟩,
             ⟨some 18, .iadS 1 (.tmp 16) (.tmp 17), none, [4, 5]⟩,
             ⟨some 19, .load1 (.tmp 18), none, [6, 4, 5]⟩,
             ⟨some 20, .bin .neq (.tmp 15) (.tmp 19), none, [3, 2, 0, 1, 7, 6, 4, 5]⟩] [12, 13, 14, 15, 16, 17, 18, 19])
          (.cond (.tmp 20)
            (.seq
             (.region true [⟨some 21, .mv (.tmp 0), none, []⟩,
               ⟨some 22, .mv (.tmp 5), none, []⟩,
               ⟨some 23, .iadS 1 (.tmp 21) (.tmp 22), none, [0, 1]⟩,
               ⟨some 24, .load1 (.tmp 23), none, [2, 0, 1]⟩,
               ⟨some 25, .mv (.tmp 1), none, []⟩,
               ⟨some 26, .mv (.tmp 5), none, []⟩,
               ⟨some 27, .iadS 1 (.tmp 25) (.tmp 26), none, [4, 5]⟩,
               ⟨some 28, .load1 (.tmp 27), none, [6, 4, 5]⟩,
               ⟨some 29, .bin .lss (.tmp 24) (.tmp 28), none, [3, 2, 0, 1, 7, 6, 4, 5]⟩,
               ⟨some 4, .mv (.tmp 29), none, [8, 3, 2, 0, 1, 7, 6, 4, 5]⟩] [21, 22, 23, 24, 25, 26, 27, 28, 29])
            .ret)
            .skip)))
       (.region false [⟨some 10, .mv (.tmp 5), none, []⟩,
         ⟨some 11, .bin .add (.tmp 10) (.const (.int .i64 1)), none, []⟩,
         ⟨some 5, .mv (.tmp 11), none, []⟩] [10, 11]))))))
  (.seq
   (.region false [⟨some 4, .mv (.const (.bool false)), none, []⟩] [])
  .ret)))
set_option maxRecDepth 100000 in
theorem kref01_before : IsCode Try.prog 100 30 cref01_before [.tmp 4] :=
  ⟨Try.f100, _, [20, 9, 5, 0, 1, 4], Try.func100, rfl, by decide, rfl, by kernel_rfl, by kernel_rfl⟩
/-- ref01_Covers -/
def cref01_Covers : ACode :=
  (.seq
   (.region false [⟨some 4, .mv (.const (.slice none 0 0)), none, []⟩,
     ⟨some 5, .mv (.const (.bool false)), none, []⟩,
     ⟨some 6, .mv (.const (.int .i64 0)), none, []⟩] [])
  (.seq
   (.seq
    (.region false [⟨some 13, .mv (.tmp 1), none, []⟩,
      ⟨some 14, .len_ (.tmp 13), none, []⟩,
      ⟨some 15, .bin .leq (.tmp 14) (.const (.int .i64 20)), none, []⟩,
      ⟨some 16, .mv (.tmp 15), none, []⟩,
      ⟨some 17, .mv (.tmp 0), (some (some 16, true)), []⟩,
      ⟨some 18, .call (.func 25) [(.tmp 17)], (some (some 16, true)), []⟩,
      ⟨some 19, .bin .neq (.tmp 18) (.const (.int .i64 0)), (some (some 16, true)), []⟩,
      ⟨some 20, .pick (.tmp 16) (.tmp 19) (.const (.bool false)), none, []⟩] [13, 14, 15, 16, 17, 18, 19])
   (.cond (.tmp 20)
     (.seq
      (.region false [⟨some 4, .mv (.const (.slice none 0 0)), none, []⟩,
        ⟨some 5, .mv (.const (.bool false)), none, []⟩,
        ⟨some 6, .mv (.const (.int .i64 10)), none, []⟩] [])
     .ret)
     .skip))
  (.seq
   (.region false [⟨some 21, .mv (.tmp 1), none, []⟩,
     ⟨some 22, .mv (.tmp 0), none, []⟩,
     ⟨some 23, .len_ (.tmp 22), none, []⟩,
     ⟨some 24, .call (.func 95) [(.tmp 21), (.tmp 23)], none, []⟩,
     ⟨some 7, .mv (.tmp 24), none, []⟩] [21, 22, 23, 24])
  (.seq
   (.seq
    (.region false [⟨some 25, .mv (.tmp 7), none, []⟩,
      ⟨some 26, .bin .neq (.tmp 25) (.const (.int .i64 0)), none, []⟩] [25])
   (.cond (.tmp 26)
     (.seq
      (.region false [⟨some 27, .mv (.tmp 7), none, []⟩,
        ⟨some 4, .mv (.const (.slice none 0 0)), none, []⟩,
        ⟨some 5, .mv (.const (.bool false)), none, []⟩,
        ⟨some 6, .mv (.tmp 27), none, []⟩] [27])
     .ret)
     .skip))
  (.seq
   (.region false [⟨some 28, .mv (.tmp 0), none, []⟩,
     ⟨some 29, .mv (.tmp 1), none, []⟩,
     ⟨some 30, .call (.func 96) [(.tmp 28), (.tmp 29)], none, []⟩,
     ⟨some 8, .mv (.tmp 30), none, []⟩] [28, 29, 30])
  (.seq
   (.region false [⟨some 9, .mv (.const (.slice none 0 0)), none, []⟩] [])
  (.seq
   (.seq
    (.region false [⟨some 10, .mv (.const (.int .i64 0)), none, []⟩] [])
   (.block 0
     (.loop
       (.seq
        (.seq
         (.region false [⟨some 31, .mv (.tmp 10), none, []⟩,
           ⟨some 32, .mv (.tmp 8), none, []⟩,
           ⟨some 33, .len_ (.tmp 32), none, []⟩,
           ⟨some 34, .bin .lss (.tmp 31) (.tmp 33), none, []⟩] [31, 32, 33])
        (.cond (.tmp 34)
          .skip
          (.exit 0)))
       (.seq
        (.block 1
          (.seq
           (.region false [⟨some 11, .mv (.const (.slice none 0 0)), none, []⟩] [])
          (.seq
           (.seq
            (.region false [⟨some 12, .mv (.const (.int .i64 0)), none, []⟩] [])
           (.block 2
             (.loop
               (.seq
                (.seq
                 (.region false [⟨some 37, .mv (.tmp 12), none, []⟩,
                   ⟨some 38, .mv (.tmp 0), none, []⟩,
                   ⟨some 39, .len_ (.tmp 38), none, []⟩,
                   ⟨some 40, .bin .lss (.tmp 37) (.tmp 39), none, []⟩] [37, 38, 39])
                (.cond (.tmp 40)
                  .skip
                  (.exit 2)))
               (.seq
                (.block 3
                  (.region false [⟨some 43, .mv (.tmp 11), none, []⟩,
                    ⟨some 44, .mv (.tmp 8), none, []⟩,
                    ⟨some 45, .mv (.tmp 10), none, []⟩,
                    ⟨some 46, .iadS 1 (.tmp 44) (.tmp 45), none, []⟩,
                    ⟨some 47, .load1 (.tmp 46), none, []⟩,
                    ⟨some 48, .mv (.tmp 12), none, []⟩,
                    ⟨some 49, .iadS 2 (.tmp 47) (.tmp 48), none, []⟩,
                    ⟨some 50, .fad 0 (.tmp 49), none, []⟩,
                    ⟨some 51, .load1 (.tmp 50), none, []⟩,
                    ⟨some 52, .buildSl 1 1 [(.val (.int .i64 0))] [(0, 1, (.tmp 51))], none, []⟩,
                    ⟨some 53, .app 1 8 (.tmp 43) (.tmp 52), none, []⟩,
                    ⟨some 11, .mv (.tmp 53), none, []⟩] [43, 44, 45, 46, 47, 48, 49, 50, 51, 52, 53]))
               (.region false [⟨some 41, .mv (.tmp 12), none, []⟩,
                 ⟨some 42, .bin .add (.tmp 41) (.const (.int .i64 1)), none, []⟩,
                 ⟨some 12, .mv (.tmp 42), none, []⟩] [41, 42]))))))
          (.seq
           (.region false [⟨some 54, .mv (.tmp 10), none, []⟩,
             ⟨some 55, .bin .eql (.tmp 54) (.const (.int .i64 0)), none, []⟩,
             ⟨some 56, .mv (.tmp 55), none, []⟩,
             ⟨some 57, .mv (.tmp 11), (some (some 56, false)), []⟩,
             ⟨some 58, .mv (.tmp 9), (some (some 56, false)), []⟩,
             ⟨some 59, .call (.func 100) [(.tmp 57), (.tmp 58)], (some (some 56, false)), []⟩,
             ⟨some 60, .pick (.tmp 56) (.const (.bool true)) (.tmp 59), none, []⟩] [54, 55, 56, 57, 58, 59])
          (.cond (.tmp 60)
            (.region false [⟨some 61, .mv (.tmp 11), none, []⟩,
              ⟨some 9, .mv (.tmp 61), none, []⟩] [61])
            .skip)))))
       (.region false [⟨some 35, .mv (.tmp 10), none, []⟩,
         ⟨some 36, .bin .add (.tmp 35) (.const (.int .i64 1)), none, []⟩,
         ⟨some 10, .mv (.tmp 36), none, []⟩] [35, 36]))))))
  (.seq
   (.region false [⟨some 62, .mv (.tmp 9), none, []⟩,
     ⟨some 63, .mv (.tmp 8), none, []⟩,
     ⟨some 64, .len_ (.tmp 63), none, []⟩,
     ⟨some 65, .bin .eql (.tmp 64) (.const (.int .i64 0)), none, []⟩,
     ⟨some 4, .mv (.tmp 62), none, []⟩,
     ⟨some 5, .mv (.tmp 65), none, []⟩,
     ⟨some 6, .mv (.const (.int .i64 0)), none, []⟩] [62, 63, 64, 65])
  .ret))))))))
set_option maxRecDepth 100000 in
theorem kref01_Covers : IsCode Try.prog 60 66 cref01_Covers [.tmp 4, .tmp 5, .tmp 6] :=
  ⟨Try.f60, _, [60, 40, 34, 26, 20, 1, 0, 7, 10, 8, 12, 11, 9, 4, 5, 6], Try.func60, rfl, by decide, rfl, by kernel_rfl, by kernel_rfl⟩
/-- ref01_Count -/
def cref01_Count : ACode :=
  (.seq
   (.region false [⟨some 2, .mv (.const (.int .i64 0)), none, []⟩,
     ⟨some 3, .mv (.const (.int .i64 0)), none, []⟩] [])
  (.seq
   (.region false [⟨some 9, .mv (.tmp 0), none, []⟩,
     ⟨some 10, .call (.func 95) [(.tmp 9), (.const (.int .i64 (-1)))], none, []⟩,
     ⟨some 4, .mv (.tmp 10), none, []⟩] [9, 10])
  (.seq
   (.seq
    (.region false [⟨some 11, .mv (.tmp 4), none, []⟩,
      ⟨some 12, .bin .neq (.tmp 11) (.const (.int .i64 0)), none, []⟩] [11])
   (.cond (.tmp 12)
     (.seq
      (.region false [⟨some 13, .mv (.tmp 4), none, []⟩,
        ⟨some 2, .mv (.const (.int .i64 0)), none, []⟩,
        ⟨some 3, .mv (.tmp 13), none, []⟩] [13])
     .ret)
     .skip))
  (.seq
   (.region false [⟨some 5, .mv (.const (.int .i64 0)), none, []⟩] [])
  (.seq
   (.seq
    (.region false [⟨some 6, .mv (.const (.int .i64 0)), none, []⟩] [])
   (.block 0
     (.loop
       (.seq
        (.seq
         (.region false [⟨some 14, .mv (.tmp 6), none, []⟩,
           ⟨some 15, .mv (.tmp 0), none, []⟩,
           ⟨some 16, .len_ (.tmp 15), none, []⟩,
           ⟨some 17, .bin .lss (.tmp 14) (.tmp 16), none, []⟩] [14, 15, 16])
        (.cond (.tmp 17)
          .skip
          (.exit 0)))
       (.seq
        (.block 1
          (.seq
           (.region true [⟨some 20, .mv (.tmp 0), none, []⟩,
             ⟨some 21, .mv (.tmp 6), none, []⟩,
             ⟨some 22, .iadS 1 (.tmp 20) (.tmp 21), none, [0, 1]⟩,
             ⟨some 23, .load1 (.tmp 22), none, [2, 0, 1]⟩,
             ⟨some 24, .mv (.tmp 0), none, []⟩,
             ⟨some 25, .mv (.tmp 6), none, []⟩,
             ⟨some 26, .slS 1 (.tmp 24) none (some (.tmp 25)), none, [4, 5]⟩,
             ⟨some 27, .call (.func 96) [(.tmp 23), (.tmp 26)], none, [3, 2, 0, 1, 6, 4, 5]⟩,
             ⟨some 7, .mv (.tmp 27), none, [7, 3, 2, 0, 1, 6, 4, 5]⟩] [20, 21, 22, 23, 24, 25, 26, 27])
          (.seq
           (.region false [⟨some 8, .mv (.const (.int .i64 0)), none, []⟩] [])
          (.block 2
            (.loop
              (.seq
               (.seq
                (.region false [⟨some 28, .mv (.tmp 8), none, []⟩,
                  ⟨some 29, .mv (.tmp 7), none, []⟩,
                  ⟨some 30, .len_ (.tmp 29), none, []⟩,
                  ⟨some 31, .bin .lss (.tmp 28) (.tmp 30), none, []⟩] [28, 29, 30])
               (.cond (.tmp 31)
                 .skip
                 (.exit 2)))
              (.seq
               (.block 3
                 (.region false [⟨some 34, .mv (.tmp 5), none, []⟩,
                   ⟨some 35, .mv (.tmp 7), none, []⟩,
                   ⟨some 36, .mv (.tmp 8), none, []⟩,
                   ⟨some 37, .iadS 1 (.tmp 35) (.tmp 36), none, []⟩,
                   ⟨some 38, .load1 (.tmp 37), none, []⟩,
                   ⟨some 39, .call (.func 97) [(.tmp 38)], none, []⟩,
                   ⟨some 40, .bin .add (.tmp 34) (.tmp 39), none, []⟩,
                   ⟨some 5, .mv (.tmp 40), none, []⟩] [34, 35, 36, 37, 38, 39, 40]))
              (.region false [⟨some 32, .mv (.tmp 8), none, []⟩,
                ⟨some 33, .bin .add (.tmp 32) (.const (.int .i64 1)), none, []⟩,
                ⟨some 8, .mv (.tmp 33), none, []⟩] [32, 33]))))))))
       (.region false [⟨some 18, .mv (.tmp 6), none, []⟩,
         ⟨some 19, .bin .add (.tmp 18) (.const (.int .i64 1)), none, []⟩,
         ⟨some 6, .mv (.tmp 19), none, []⟩] [18, 19]))))))
  (.seq
   (.region false [⟨some 41, .mv (.tmp 5), none, []⟩,
     ⟨some 42, .mnx false [(.tmp 41), (.const (.int .i64 1000000000000000000))], none, []⟩,
     ⟨some 2, .mv (.tmp 42), none, []⟩,
     ⟨some 3, .mv (.const (.int .i64 0)), none, []⟩] [41, 42])
  .ret))))))
set_option maxRecDepth 100000 in
theorem kref01_Count : IsCode Try.prog 58 43 cref01_Count [.tmp 2, .tmp 3] :=
  ⟨Try.f58, _, [31, 17, 12, 0, 4, 6, 8, 7, 5, 2, 3], Try.func58, rfl, by decide, rfl, by kernel_rfl, by kernel_rfl⟩
/-- ref01_CopyBoxes -/
def cref01_CopyBoxes : ACode :=
  (.seq
   (.region false [⟨some 2, .mv (.const (.slice none 0 0)), none, []⟩] [])
  (.seq
   (.region false [⟨some 3, .mv (.const (.slice none 0 0)), none, []⟩] [])
  (.seq
   (.seq
    (.region false [⟨some 4, .mv (.const (.int .i64 0)), none, []⟩] [])
   (.block 0
     (.loop
       (.seq
        (.seq
         (.region false [⟨some 5, .mv (.tmp 4), none, []⟩,
           ⟨some 6, .mv (.tmp 0), none, []⟩,
           ⟨some 7, .len_ (.tmp 6), none, []⟩,
           ⟨some 8, .bin .lss (.tmp 5) (.tmp 7), none, []⟩] [5, 6, 7])
        (.cond (.tmp 8)
          .skip
          (.exit 0)))
       (.seq
        (.block 1
          (.region false [⟨some 11, .mv (.tmp 3), none, []⟩,
            ⟨some 12, .buildSl 2 0 [] [], none, []⟩,
            ⟨some 13, .mv (.tmp 0), none, []⟩,
            ⟨some 14, .mv (.tmp 4), none, []⟩,
            ⟨some 15, .iadS 1 (.tmp 13) (.tmp 14), none, []⟩,
            ⟨some 16, .load1 (.tmp 15), none, []⟩,
            ⟨some 17, .app 2 16 (.tmp 12) (.tmp 16), none, []⟩,
            ⟨some 18, .buildSl 1 1 [(.val (.slice none 0 0))] [(0, 1, (.tmp 17))], none, []⟩,
            ⟨some 19, .app 1 24 (.tmp 11) (.tmp 18), none, []⟩,
            ⟨some 3, .mv (.tmp 19), none, []⟩] [11, 12, 13, 14, 15, 16, 17, 18, 19]))
       (.region false [⟨some 9, .mv (.tmp 4), none, []⟩,
         ⟨some 10, .bin .add (.tmp 9) (.const (.int .i64 1)), none, []⟩,
         ⟨some 4, .mv (.tmp 10), none, []⟩] [9, 10]))))))
  (.seq
   (.region false [⟨some 20, .mv (.tmp 3), none, []⟩,
     ⟨some 2, .mv (.tmp 20), none, []⟩] [20])
  .ret))))
set_option maxRecDepth 100000 in
theorem kref01_CopyBoxes : IsCode Try.prog 57 21 cref01_CopyBoxes [.tmp 2] :=
  ⟨Try.f57, _, [8, 4, 0, 3, 2], Try.func57, rfl, by decide, rfl, by kernel_rfl, by kernel_rfl⟩
/-- law01_farBoxes -/
def claw01_farBoxes : ACode :=
  (.seq
   (.region false [⟨some 2, .mv (.const (.bool false)), none, []⟩] [])
  (.seq
   (.seq
    (.region false [⟨some 4, .mv (.tmp 0), none, []⟩,
      ⟨some 5, .len_ (.tmp 4), none, []⟩,
      ⟨some 6, .bin .gtr (.tmp 5) (.const (.int .i64 25)), none, []⟩] [4, 5])
   (.cond (.tmp 6)
     (.seq
      (.region false [⟨some 2, .mv (.const (.bool true)), none, []⟩] [])
     .ret)
     .skip))
  (.seq
   (.seq
    (.region false [⟨some 3, .mv (.const (.int .i64 0)), none, []⟩] [])
   (.block 0
     (.loop
       (.seq
        (.seq
         (.region false [⟨some 7, .mv (.tmp 3), none, []⟩,
           ⟨some 8, .mv (.tmp 0), none, []⟩,
           ⟨some 9, .len_ (.tmp 8), none, []⟩,
           ⟨some 10, .bin .lss (.tmp 7) (.tmp 9), none, []⟩] [7, 8, 9])
        (.cond (.tmp 10)
          .skip
          (.exit 0)))
       (.seq
        (.block 1
          (.seq
           (.region false [⟨some 13, .mv (.tmp 0), none, []⟩,
             ⟨some 14, .mv (.tmp 3), none, []⟩,
             ⟨some 15, .iadS 1 (.tmp 13) (.tmp 14), none, []⟩,
             ⟨some 16, .load1 (.tmp 15), none, []⟩,
             ⟨some 17, .len_ (.tmp 16), none, []⟩,
             ⟨some 18, .bin .gtr (.tmp 17) (.const (.int .i64 6)), none, []⟩] [13, 14, 15, 16, 17])
          (.cond (.tmp 18)
            (.seq
             (.region false [⟨some 2, .mv (.const (.bool true)), none, []⟩] [])
            .ret)
            .skip)))
       (.region false [⟨some 11, .mv (.tmp 3), none, []⟩,
         ⟨some 12, .bin .add (.tmp 11) (.const (.int .i64 1)), none, []⟩,
         ⟨some 3, .mv (.tmp 12), none, []⟩] [11, 12]))))))
  (.seq
   (.region false [⟨some 2, .mv (.const (.bool false)), none, []⟩] [])
  .ret))))
set_option maxRecDepth 100000 in
theorem klaw01_farBoxes : IsCode Try.prog 55 19 claw01_farBoxes [.tmp 2] :=
  ⟨Try.f55, _, [18, 10, 6, 0, 3, 2], Try.func55, rfl, by decide, rfl, by kernel_rfl, by kernel_rfl⟩
/-- law01_sameInts -/
def claw01_sameInts : ACode :=
  (.seq
   (.region false [⟨some 4, .mv (.const (.bool false)), none, []⟩] [])
  (.seq
   (.seq
    (.region false [⟨some 6, .mv (.tmp 0), none, []⟩,
      ⟨some 7, .len_ (.tmp 6), none, []⟩,
      ⟨some 8, .mv (.tmp 1), none, []⟩,
      ⟨some 9, .len_ (.tmp 8), none, []⟩,
      ⟨some 10, .bin .neq (.tmp 7) (.tmp 9), none, []⟩] [6, 7, 8, 9])
   (.cond (.tmp 10)
     (.seq
      (.region false [⟨some 4, .mv (.const (.bool false)), none, []⟩] [])
     .ret)
     .skip))
  (.seq
   (.seq
    (.region false [⟨some 5, .mv (.const (.int .i64 0)), none, []⟩] [])
   (.block 0
     (.loop
       (.seq
        (.seq
         (.region false [⟨some 11, .mv (.tmp 5), none, []⟩,
           ⟨some 12, .mv (.tmp 0), none, []⟩,
           ⟨some 13, .len_ (.tmp 12), none, []⟩,
           ⟨some 14, .bin .lss (.tmp 11) (.tmp 13), none, []⟩] [11, 12, 13])
        (.cond (.tmp 14)
          .skip
          (.exit 0)))
       (.seq
        (.block 1
          (.seq
           (.region true [⟨some 17, .mv (.tmp 0), none, []⟩,
             ⟨some 18, .mv (.tmp 5), none, []⟩,
             ⟨some 19, .iadS 1 (.tmp 17) (.tmp 18), none, [0, 1]⟩,
             ⟨some 20, .load1 (.tmp 19), none, [2, 0, 1]⟩,
             ⟨some 21, .mv (.tmp 1), none, []⟩,
             ⟨some 22, .mv (.tmp 5), none, []⟩,
             ⟨some 23, .iadS 1 (.tmp 21) (.tmp 22), none, [4, 5]⟩,
             ⟨some 24, .load1 (.tmp 23), none, [6, 4, 5]⟩,
             ⟨some 25, .bin .neq (.tmp 20) (.tmp 24), none, [3, 2, 0, 1, 7, 6, 4, 5]⟩] [17, 18, 19, 20, 21, 22, 23, 24])
          (.cond (.tmp 25)
            (.seq
             (.region false [⟨some 4, .mv (.const (.bool false)), none, []⟩] [])
            .ret)
            .skip)))
       (.region false [⟨some 15, .mv (.tmp 5), none, []⟩,
         ⟨some 16, .bin .add (.tmp 15) (.const (.int .i64 1)), none, []⟩,
         ⟨some 5, .mv (.tmp 16), none, []⟩] [15, 16]))))))
  (.seq
   (.region false [⟨some 4, .mv (.const (.bool true)), none, []⟩] [])
  .ret))))
set_option maxRecDepth 100000 in
theorem klaw01_sameInts : IsCode Try.prog 61 26 claw01_sameInts [.tmp 4] :=
  ⟨Try.f61, _, [25, 14, 10, 0, 1, 5, 4], Try.func61, rfl, by decide, rfl, by kernel_rfl, by kernel_rfl⟩
/-- law01_SpansCovers -/
def claw01_SpansCovers : ACode :=
  (.seq
   (.region false [⟨some 4, .mv (.const (.bool false)), none, []⟩] [])
  (.seq
   (.seq
    (.region false [⟨some 11, .mv (.tmp 0), none, []⟩,
      ⟨some 12, .len_ (.tmp 11), none, []⟩,
      ⟨some 13, .bin .gtr (.tmp 12) (.const (.int .i64 6)), none, []⟩,
      ⟨some 14, .mv (.tmp 13), none, []⟩,
      ⟨some 15, .mv (.tmp 1), (some (some 14, false)), []⟩,
      ⟨some 16, .call (.func 55) [(.tmp 15)], (some (some 14, false)), []⟩,
      ⟨some 17, .pick (.tmp 14) (.const (.bool true)) (.tmp 16), none, []⟩,
      ⟨some 18, .mv (.tmp 17), none, []⟩,
      ⟨some 19, .mv (.tmp 1), (some (some 18, false)), []⟩,
      ⟨some 20, .len_ (.tmp 19), (some (some 18, false)), []⟩,
      ⟨some 21, .bin .gtr (.tmp 20) (.const (.int .i64 8)), (some (some 18, false)), []⟩,
      ⟨some 22, .mv (.tmp 21), (some (some 18, false)), []⟩,
      ⟨some 23, .mv (.tmp 1), (some (some 22, true)), []⟩,
      ⟨some 24, .len_ (.tmp 23), (some (some 22, true)), []⟩,
      ⟨some 25, .bin .leq (.tmp 24) (.const (.int .i64 20)), (some (some 22, true)), []⟩,
      ⟨some 26, .pick (.tmp 22) (.tmp 25) (.const (.bool false)), (some (some 18, false)), []⟩,
      ⟨some 27, .pick (.tmp 18) (.const (.bool true)) (.tmp 26), none, []⟩] [11, 12, 13, 14, 15, 16, 17, 18, 19, 20, 21, 22, 23, 24, 25, 26])
   (.cond (.tmp 27)
     (.seq
      (.region false [⟨some 28, .call (.func 19) [], none, []⟩,
        ⟨some 4, .mv (.tmp 28), none, []⟩] [28])
     .ret)
     .skip))
  (.seq
   (.region false [⟨some 30, .mv (.tmp 0), none, []⟩,
     ⟨some 31, .call (.func 24) [(.tmp 30)], none, []⟩,
     ⟨some 32, .mv (.tmp 1), none, []⟩,
     ⟨some 33, .call (.func 57) [(.tmp 32)], none, []⟩,
     ⟨some 34, .call (.func 59) [(.tmp 31), (.tmp 33)], none, []⟩,
     ⟨some 29, .mv (.tmp 34), none, []⟩,
     ⟨some 35, .ext (.tmp 29) 0, none, []⟩,
     ⟨some 36, .ext (.tmp 29) 1, none, []⟩,
     ⟨some 37, .ext (.tmp 29) 2, none, []⟩,
     ⟨some 5, .mv (.tmp 35), none, []⟩,
     ⟨some 6, .mv (.tmp 36), none, []⟩,
     ⟨some 7, .mv (.tmp 37), none, []⟩] [30, 31, 32, 33, 34, 29, 35, 36, 37])
  (.seq
   (.region false [⟨some 39, .mv (.tmp 0), none, []⟩,
     ⟨some 40, .mv (.tmp 1), none, []⟩,
     ⟨some 41, .call (.func 60) [(.tmp 39), (.tmp 40)], none, []⟩,
     ⟨some 38, .mv (.tmp 41), none, []⟩,
     ⟨some 42, .ext (.tmp 38) 0, none, []⟩,
     ⟨some 43, .ext (.tmp 38) 1, none, []⟩,
     ⟨some 44, .ext (.tmp 38) 2, none, []⟩,
     ⟨some 8, .mv (.tmp 42), none, []⟩,
     ⟨some 9, .mv (.tmp 43), none, []⟩,
     ⟨some 10, .mv (.tmp 44), none, []⟩] [39, 40, 41, 38, 42, 43, 44])
  (.seq
   (.region false [⟨some 45, .mv (.tmp 5), none, []⟩,
     ⟨some 46, .mv (.tmp 8), none, []⟩,
     ⟨some 47, .call (.func 61) [(.tmp 45), (.tmp 46)], none, []⟩,
     ⟨some 48, .mv (.tmp 47), none, []⟩,
     ⟨some 49, .mv (.tmp 6), (some (some 48, true)), []⟩,
     ⟨some 50, .mv (.tmp 9), (some (some 48, true)), []⟩,
     ⟨some 51, .eqb false (.tmp 49) (.tmp 50), (some (some 48, true)), []⟩,
     ⟨some 52, .pick (.tmp 48) (.tmp 51) (.const (.bool false)), none, []⟩,
     ⟨some 53, .mv (.tmp 52), none, []⟩,
     ⟨some 54, .mv (.tmp 7), (some (some 53, true)), []⟩,
     ⟨some 55, .mv (.tmp 10), (some (some 53, true)), []⟩,
     ⟨some 56, .bin .eql (.tmp 54) (.tmp 55), (some (some 53, true)), []⟩,
     ⟨some 57, .pick (.tmp 53) (.tmp 56) (.const (.bool false)), none, []⟩,
     ⟨some 58, .mv (.tmp 57), none, []⟩,
     ⟨some 59, .call (.func 19) [], (some (some 58, true)), []⟩,
     ⟨some 60, .pick (.tmp 58) (.tmp 59) (.const (.bool false)), none, []⟩,
     ⟨some 4, .mv (.tmp 60), none, []⟩] [45, 46, 47, 48, 49, 50, 51, 52, 53, 54, 55, 56, 57, 58, 59, 60])
  .ret)))))
set_option maxRecDepth 100000 in
theorem klaw01_SpansCovers : IsCode Try.prog 15 61 claw01_SpansCovers [.tmp 4] :=
  ⟨Try.f15, _, [27, 0, 1, 5, 8, 6, 9, 7, 10, 4], Try.func15, rfl, by decide, rfl, by kernel_rfl, by kernel_rfl⟩
/-- law01_SpansCounts -/
def claw01_SpansCounts : ACode :=
  (.seq
   (.region false [⟨some 2, .mv (.const (.bool false)), none, []⟩] [])
  (.seq
   (.seq
    (.region false [⟨some 7, .mv (.tmp 0), none, []⟩,
      ⟨some 8, .call (.func 55) [(.tmp 7)], none, []⟩,
      ⟨some 9, .mv (.tmp 8), none, []⟩,
      ⟨some 10, .mv (.tmp 0), (some (some 9, false)), []⟩,
      ⟨some 11, .len_ (.tmp 10), (some (some 9, false)), []⟩,
      ⟨some 12, .bin .gtr (.tmp 11) (.const (.int .i64 8)), (some (some 9, false)), []⟩,
      ⟨some 13, .mv (.tmp 12), (some (some 9, false)), []⟩,
      ⟨some 14, .mv (.tmp 0), (some (some 13, true)), []⟩,
      ⟨some 15, .len_ (.tmp 14), (some (some 13, true)), []⟩,
      ⟨some 16, .bin .leq (.tmp 15) (.const (.int .i64 20)), (some (some 13, true)), []⟩,
      ⟨some 17, .pick (.tmp 13) (.tmp 16) (.const (.bool false)), (some (some 9, false)), []⟩,
      ⟨some 18, .pick (.tmp 9) (.const (.bool true)) (.tmp 17), none, []⟩] [7, 8, 9, 10, 11, 12, 13, 14, 15, 16, 17])
   (.cond (.tmp 18)
     (.seq
      (.region false [⟨some 19, .call (.func 19) [], none, []⟩,
        ⟨some 2, .mv (.tmp 19), none, []⟩] [19])
     .ret)
     .skip))
  (.seq
   (.region false [⟨some 21, .mv (.tmp 0), none, []⟩,
     ⟨some 22, .call (.func 57) [(.tmp 21)], none, []⟩,
     ⟨some 23, .call (.func 56) [(.tmp 22)], none, []⟩,
     ⟨some 20, .mv (.tmp 23), none, []⟩,
     ⟨some 24, .ext (.tmp 20) 0, none, []⟩,
     ⟨some 25, .ext (.tmp 20) 1, none, []⟩,
     ⟨some 3, .mv (.tmp 24), none, []⟩,
     ⟨some 4, .mv (.tmp 25), none, []⟩] [21, 22, 23, 20, 24, 25])
  (.seq
   (.region false [⟨some 27, .mv (.tmp 0), none, []⟩,
     ⟨some 28, .call (.func 58) [(.tmp 27)], none, []⟩,
     ⟨some 26, .mv (.tmp 28), none, []⟩,
     ⟨some 29, .ext (.tmp 26) 0, none, []⟩,
     ⟨some 30, .ext (.tmp 26) 1, none, []⟩,
     ⟨some 5, .mv (.tmp 29), none, []⟩,
     ⟨some 6, .mv (.tmp 30), none, []⟩] [27, 28, 26, 29, 30])
  (.seq
   (.region false [⟨some 31, .mv (.tmp 3), none, []⟩,
     ⟨some 32, .mv (.tmp 5), none, []⟩,
     ⟨some 33, .bin .eql (.tmp 31) (.tmp 32), none, []⟩,
     ⟨some 34, .mv (.tmp 33), none, []⟩,
     ⟨some 35, .mv (.tmp 4), (some (some 34, true)), []⟩,
     ⟨some 36, .mv (.tmp 6), (some (some 34, true)), []⟩,
     ⟨some 37, .bin .eql (.tmp 35) (.tmp 36), (some (some 34, true)), []⟩,
     ⟨some 38, .pick (.tmp 34) (.tmp 37) (.const (.bool false)), none, []⟩,
     ⟨some 39, .mv (.tmp 38), none, []⟩,
     ⟨some 40, .call (.func 19) [], (some (some 39, true)), []⟩,
     ⟨some 41, .pick (.tmp 39) (.tmp 40) (.const (.bool false)), none, []⟩,
     ⟨some 2, .mv (.tmp 41), none, []⟩] [31, 32, 33, 34, 35, 36, 37, 38, 39, 40, 41])
  .ret)))))
set_option maxRecDepth 100000 in
theorem klaw01_SpansCounts : IsCode Try.prog 14 42 claw01_SpansCounts [.tmp 2] :=
  ⟨Try.f14, _, [18, 0, 3, 5, 4, 6, 2], Try.func14, rfl, by decide, rfl, by kernel_rfl, by kernel_rfl⟩
/-- law01_before -/
def claw01_before : ACode :=
  (.seq
   (.region false [⟨some 4, .mv (.const (.bool false)), none, []⟩] [])
  (.seq
   (.seq
    (.region false [⟨some 5, .mv (.const (.int .i64 0)), none, []⟩] [])
   (.block 0
     (.loop
       (.seq
        (.seq
         (.region false [⟨some 6, .mv (.tmp 5), none, []⟩,
           ⟨some 7, .mv (.tmp 0), none, []⟩,
           ⟨some 8, .len_ (.tmp 7), none, []⟩,
           ⟨some 9, .bin .lss (.tmp 6) (.tmp 8), none, []⟩,
           ⟨some 10, .mv (.tmp 9), none, []⟩,
           ⟨some 11, .mv (.tmp 5), (some (some 10, true)), []⟩,
           ⟨some 12, .mv (.tmp 1), (some (some 10, true)), []⟩,
           ⟨some 13, .len_ (.tmp 12), (some (some 10, true)), []⟩,
           ⟨some 14, .bin .lss (.tmp 11) (.tmp 13), (some (some 10, true)), []⟩,
           ⟨some 15, .pick (.tmp 10) (.tmp 14) (.const (.bool false)), none, []⟩] [6, 7, 8, 9, 10, 11, 12, 13, 14])
        (.cond (.tmp 15)
          .skip
          (.exit 0)))
       (.seq
        (.block 1
          (.seq
           (.region true [⟨some 18, .mv (.tmp 0), none, []⟩,
             ⟨some 19, .mv (.tmp 5), none, []⟩,
             ⟨some 20, .iadS 1 (.tmp 18) (.tmp 19), none, [0, 1]⟩,
             ⟨some 21, .load1 (.tmp 20), none, [2, 0, 1]⟩,
             ⟨some 22, .mv (.tmp 1), none, []⟩,
             ⟨some 23, .mv (.tmp 5), none, []⟩,
             ⟨some 24, .iadS 1 (.tmp 22) (.tmp 23), none, [4, 5]⟩,
             ⟨some 25, .load1 (.tmp 24), none, [6, 4, 5]⟩,
             ⟨some 26, .bin .neq (.tmp 21) (.tmp 25), none, [3, 2, 0, 1, 7, 6, 4, 5]⟩] [18, 19, 20, 21, 22, 23, 24, 25])
          (.cond (.tmp 26)
            (.seq
             (.region true [⟨some 27, .mv (.tmp 0), none, []⟩,
               ⟨some 28, .mv (.tmp 5), none, []⟩,
               ⟨some 29, .iadS 1 (.tmp 27) (.tmp 28), none, [0, 1]⟩,
               ⟨some 30, .load1 (.tmp 29), none, [2, 0, 1]⟩,
               ⟨some 31, .mv (.tmp 1), none, []⟩,
               ⟨some 32, .mv (.tmp 5), none, []⟩,
               ⟨some 33, .iadS 1 (.tmp 31) (.tmp 32), none, [4, 5]⟩,
               ⟨some 34, .load1 (.tmp 33), none, [6, 4, 5]⟩,
               ⟨some 35, .bin .lss (.tmp 30) (.tmp 34), none, [3, 2, 0, 1, 7, 6, 4, 5]⟩,
               ⟨some 4, .mv (.tmp 35), none, [8, 3, 2, 0, 1, 7, 6, 4, 5]⟩] [27, 28, 29, 30, 31, 32, 33, 34, 35])
            .ret)
            .skip)))
       (.region false [⟨some 16, .mv (.tmp 5), none, []⟩,
         ⟨some 17, .bin .add (.tmp 16) (.const (.int .i64 1)), none, []⟩,
         ⟨some 5, .mv (.tmp 17), none, []⟩] [16, 17]))))))
  (.seq
   (.region false [⟨some 4, .mv (.const (.bool false)), none, []⟩] [])
  .ret)))
set_option maxRecDepth 100000 in
theorem klaw01_before : IsCode Try.prog 63 36 claw01_before [.tmp 4] :=
  ⟨Try.f63, _, [26, 15, 5, 0, 1, 4], Try.func63, rfl, by decide, rfl, by kernel_rfl, by kernel_rfl⟩
/-- law01_inOne -/
def claw01_inOne : ACode :=
  (.seq
   (.region false [⟨some 4, .mv (.const (.bool false)), none, []⟩] [])
  (.seq
   (.seq
    (.region false [⟨some 5, .mv (.const (.int .i64 0)), none, []⟩] [])
   (.block 0
     (.loop
       (.seq
        (.seq
         (.region false [⟨some 6, .mv (.tmp 5), none, []⟩,
           ⟨some 7, .mv (.tmp 1), none, []⟩,
           ⟨some 8, .len_ (.tmp 7), none, []⟩,
           ⟨some 9, .bin .lss (.tmp 6) (.tmp 8), none, []⟩] [6, 7, 8])
        (.cond (.tmp 9)
          .skip
          (.exit 0)))
       (.seq
        (.block 1
          (.seq
           (.region false [⟨some 12, .mv (.tmp 0), none, []⟩,
             ⟨some 13, .mv (.tmp 1), none, []⟩,
             ⟨some 14, .mv (.tmp 5), none, []⟩,
             ⟨some 15, .iadS 1 (.tmp 13) (.tmp 14), none, []⟩,
             ⟨some 16, .load1 (.tmp 15), none, []⟩,
             ⟨some 17, .call (.func 54) [(.tmp 12), (.tmp 16)], none, []⟩] [12, 13, 14, 15, 16])
          (.cond (.tmp 17)
            (.seq
             (.region false [⟨some 4, .mv (.const (.bool true)), none, []⟩] [])
            .ret)
            .skip)))
       (.region false [⟨some 10, .mv (.tmp 5), none, []⟩,
         ⟨some 11, .bin .add (.tmp 10) (.const (.int .i64 1)), none, []⟩,
         ⟨some 5, .mv (.tmp 11), none, []⟩] [10, 11]))))))
  (.seq
   (.region false [⟨some 4, .mv (.const (.bool false)), none, []⟩] [])
  .ret)))
set_option maxRecDepth 100000 in
theorem klaw01_inOne : IsCode Try.prog 62 18 claw01_inOne [.tmp 4] :=
  ⟨Try.f62, _, [17, 9, 5, 1, 0, 4], Try.func62, rfl, by decide, rfl, by kernel_rfl, by kernel_rfl⟩
/-- law01_SpansCovered -/
def claw01_SpansCovered : ACode :=
  (.seq
   (.region false [⟨some 6, .mv (.const (.bool false)), none, []⟩] [])
  (.seq
   (.seq
    (.region false [⟨some 19, .mv (.tmp 0), none, []⟩,
      ⟨some 20, .call (.func 25) [(.tmp 19)], none, []⟩,
      ⟨some 21, .bin .neq (.tmp 20) (.const (.int .i64 0)), none, []⟩,
      ⟨some 22, .mv (.tmp 21), none, []⟩,
      ⟨some 23, .mv (.tmp 1), (some (some 22, false)), []⟩,
      ⟨some 24, .len_ (.tmp 23), (some (some 22, false)), []⟩,
      ⟨some 25, .bin .gtr (.tmp 24) (.const (.int .i64 6)), (some (some 22, false)), []⟩,
      ⟨some 26, .pick (.tmp 22) (.const (.bool true)) (.tmp 25), none, []⟩,
      ⟨some 27, .mv (.tmp 26), none, []⟩,
      ⟨some 28, .mv (.tmp 2), (some (some 27, false)), []⟩,
      ⟨some 29, .len_ (.tmp 28), (some (some 27, false)), []⟩,
      ⟨some 30, .mv (.tmp 0), (some (some 27, false)), []⟩,
      ⟨some 31, .len_ (.tmp 30), (some (some 27, false)), []⟩,
      ⟨some 32, .bin .neq (.tmp 29) (.tmp 31), (some (some 27, false)), []⟩,
      ⟨some 33, .pick (.tmp 27) (.const (.bool true)) (.tmp 32), none, []⟩] [19, 20, 21, 22, 23, 24, 25, 26, 27, 28, 29, 30, 31, 32])
   (.cond (.tmp 33)
     (.seq
      (.region false [⟨some 34, .call (.func 19) [], none, []⟩,
        ⟨some 6, .mv (.tmp 34), none, []⟩] [34])
     .ret)
     .skip))
  (.seq
   (.seq
    (.region false [⟨some 7, .mv (.const (.int .i64 0)), none, []⟩] [])
   (.block 0
     (.loop
       (.seq
        (.seq
         (.region false [⟨some 35, .mv (.tmp 7), none, []⟩,
           ⟨some 36, .mv (.tmp 1), none, []⟩,
           ⟨some 37, .len_ (.tmp 36), none, []⟩,
           ⟨some 38, .bin .lss (.tmp 35) (.tmp 37), none, []⟩] [35, 36, 37])
        (.cond (.tmp 38)
          .skip
          (.exit 0)))
       (.seq
        (.block 1
          (.seq
           (.region false [⟨some 41, .mv (.tmp 1), none, []⟩,
             ⟨some 42, .mv (.tmp 7), none, []⟩,
             ⟨some 43, .iadS 1 (.tmp 41) (.tmp 42), none, []⟩,
             ⟨some 44, .load1 (.tmp 43), none, []⟩,
             ⟨some 45, .call (.func 25) [(.tmp 44)], none, []⟩,
             ⟨some 46, .bin .neq (.tmp 45) (.const (.int .i64 0)), none, []⟩,
             ⟨some 47, .mv (.tmp 46), none, []⟩,
             ⟨some 48, .mv (.tmp 1), (some (some 47, false)), []⟩,
             ⟨some 49, .mv (.tmp 7), (some (some 47, false)), []⟩,
             ⟨some 50, .iadS 1 (.tmp 48) (.tmp 49), (some (some 47, false)), []⟩,
             ⟨some 51, .load1 (.tmp 50), (some (some 47, false)), []⟩,
             ⟨some 52, .len_ (.tmp 51), (some (some 47, false)), []⟩,
             ⟨some 53, .mv (.tmp 0), (some (some 47, false)), []⟩,
             ⟨some 54, .len_ (.tmp 53), (some (some 47, false)), []⟩,
             ⟨some 55, .bin .neq (.tmp 52) (.tmp 54), (some (some 47, false)), []⟩,
             ⟨some 56, .pick (.tmp 47) (.const (.bool true)) (.tmp 55), none, []⟩] [41, 42, 43, 44, 45, 46, 47, 48, 49, 50, 51, 52, 53, 54, 55])
          (.cond (.tmp 56)
            (.seq
             (.region false [⟨some 57, .call (.func 19) [], none, []⟩,
               ⟨some 6, .mv (.tmp 57), none, []⟩] [57])
            .ret)
            .skip)))
       (.region false [⟨some 39, .mv (.tmp 7), none, []⟩,
         ⟨some 40, .bin .add (.tmp 39) (.const (.int .i64 1)), none, []⟩,
         ⟨some 7, .mv (.tmp 40), none, []⟩] [39, 40]))))))
  (.seq
   (.region false [⟨some 59, .mv (.tmp 0), none, []⟩,
     ⟨some 60, .call (.func 24) [(.tmp 59)], none, []⟩,
     ⟨some 61, .mv (.tmp 1), none, []⟩,
     ⟨some 62, .call (.func 57) [(.tmp 61)], none, []⟩,
     ⟨some 63, .call (.func 59) [(.tmp 60), (.tmp 62)], none, []⟩,
     ⟨some 58, .mv (.tmp 63), none, []⟩,
     ⟨some 64, .ext (.tmp 58) 0, none, []⟩,
     ⟨some 65, .ext (.tmp 58) 1, none, []⟩,
     ⟨some 66, .ext (.tmp 58) 2, none, []⟩,
     ⟨some 8, .mv (.tmp 64), none, []⟩,
     ⟨some 9, .mv (.tmp 65), none, []⟩,
     ⟨some 10, .mv (.tmp 66), none, []⟩] [59, 60, 61, 62, 63, 58, 64, 65, 66])
  (.seq
   (.seq
    (.region false [⟨some 67, .mv (.tmp 10), none, []⟩,
      ⟨some 68, .bin .neq (.tmp 67) (.const (.int .i64 0)), none, []⟩,
      ⟨some 69, .mv (.tmp 68), none, []⟩,
      ⟨some 70, .mv (.tmp 9), (some (some 69, false)), []⟩,
      ⟨some 71, .un .not (.tmp 70), (some (some 69, false)), []⟩,
      ⟨some 72, .mv (.tmp 71), (some (some 69, false)), []⟩,
      ⟨some 73, .mv (.tmp 8), (some (some 72, true)), []⟩,
      ⟨some 74, .len_ (.tmp 73), (some (some 72, true)), []⟩,
      ⟨some 75, .mv (.tmp 0), (some (some 72, true)), []⟩,
      ⟨some 76, .len_ (.tmp 75), (some (some 72, true)), []⟩,
      ⟨some 77, .bin .neq (.tmp 74) (.tmp 76), (some (some 72, true)), []⟩,
      ⟨some 78, .mv (.tmp 77), (some (some 72, true)), []⟩,
      ⟨some 79, .mv (.tmp 8), (some (some 78, false)), []⟩,
      ⟨some 80, .mv (.tmp 0), (some (some 78, false)), []⟩,
      ⟨some 81, .call (.func 54) [(.tmp 79), (.tmp 80)], (some (some 78, false)), []⟩,
      ⟨some 82, .un .not (.tmp 81), (some (some 78, false)), []⟩,
      ⟨some 83, .pick (.tmp 78) (.const (.bool true)) (.tmp 82), (some (some 72, true)), []⟩,
      ⟨some 84, .mv (.tmp 83), (some (some 72, true)), []⟩,
      ⟨some 85, .mv (.tmp 8), (some (some 84, false)), []⟩,
      ⟨some 86, .mv (.tmp 1), (some (some 84, false)), []⟩,
      ⟨some 87, .call (.func 62) [(.tmp 85), (.tmp 86)], (some (some 84, false)), []⟩,
      ⟨some 88, .pick (.tmp 84) (.const (.bool true)) (.tmp 87), (some (some 72, true)), []⟩,
      ⟨some 89, .pick (.tmp 72) (.tmp 88) (.const (.bool false)), (some (some 69, false)), []⟩,
      ⟨some 90, .pick (.tmp 69) (.const (.bool true)) (.tmp 89), none, []⟩] [67, 68, 69, 70, 71, 72, 73, 74, 75, 76, 77, 78, 79, 80, 81, 82, 83, 84, 85, 86, 87, 88, 89])
   (.cond (.tmp 90)
     (.seq
      (.region false [⟨some 6, .mv (.const (.bool false)), none, []⟩] [])
     .ret)
     .skip))
  (.seq
   (.seq
    (.region false [⟨some 91, .mv (.tmp 2), none, []⟩,
      ⟨some 92, .mv (.tmp 0), none, []⟩,
      ⟨some 93, .call (.func 54) [(.tmp 91), (.tmp 92)], none, []⟩,
      ⟨some 94, .mv (.tmp 93), none, []⟩,
      ⟨some 95, .mv (.tmp 2), (some (some 94, true)), []⟩,
      ⟨some 96, .mv (.tmp 1), (some (some 94, true)), []⟩,
      ⟨some 97, .call (.func 62) [(.tmp 95), (.tmp 96)], (some (some 94, true)), []⟩,
      ⟨some 98, .un .not (.tmp 97), (some (some 94, true)), []⟩,
      ⟨some 99, .pick (.tmp 94) (.tmp 98) (.const (.bool false)), none, []⟩,
      ⟨some 100, .mv (.tmp 99), none, []⟩,
      ⟨some 101, .mv (.tmp 9), (some (some 100, true)), []⟩,
      ⟨some 102, .mv (.tmp 101), (some (some 100, true)), []⟩,
      ⟨some 103, .mv (.tmp 2), (some (some 102, false)), []⟩,
      ⟨some 104, .mv (.tmp 8), (some (some 102, false)), []⟩,
      ⟨some 105, .call (.func 63) [(.tmp 103), (.tmp 104)], (some (some 102, false)), []⟩,
      ⟨some 106, .pick (.tmp 102) (.const (.bool true)) (.tmp 105), (some (some 100, true)), []⟩,
      ⟨some 107, .pick (.tmp 100) (.tmp 106) (.const (.bool false)), none, []⟩] [91, 92, 93, 94, 95, 96, 97, 98, 99, 100, 101, 102, 103, 104, 105, 106])
   (.cond (.tmp 107)
     (.seq
      (.region false [⟨some 6, .mv (.const (.bool false)), none, []⟩] [])
     .ret)
     .skip))
  (.seq
   (.region false [⟨some 108, .mv (.tmp 1), none, []⟩,
     ⟨some 109, .call (.func 57) [(.tmp 108)], none, []⟩,
     ⟨some 110, .mv (.tmp 0), none, []⟩,
     ⟨some 111, .call (.func 24) [(.tmp 110)], none, []⟩,
     ⟨some 112, .buildSl 1 1 [(.val (.slice none 0 0))] [(0, 1, (.tmp 111))], none, []⟩,
     ⟨some 113, .app 1 24 (.tmp 109) (.tmp 112), none, []⟩,
     ⟨some 11, .mv (.tmp 113), none, []⟩] [108, 109, 110, 111, 112, 113])
  (.seq
   (.region false [⟨some 115, .mv (.tmp 0), none, []⟩,
     ⟨some 116, .call (.func 24) [(.tmp 115)], none, []⟩,
     ⟨some 117, .mv (.tmp 11), none, []⟩,
     ⟨some 118, .call (.func 59) [(.tmp 116), (.tmp 117)], none, []⟩,
     ⟨some 114, .mv (.tmp 118), none, []⟩,
     ⟨some 119, .ext (.tmp 114) 0, none, []⟩,
     ⟨some 120, .ext (.tmp 114) 1, none, []⟩,
     ⟨some 121, .ext (.tmp 114) 2, none, []⟩,
     ⟨some 12, .mv (.tmp 119), none, []⟩,
     ⟨some 13, .mv (.tmp 120), none, []⟩,
     ⟨some 14, .mv (.tmp 121), none, []⟩] [115, 116, 117, 118, 114, 119, 120, 121, 12])
  (.seq
   (.region false [⟨some 123, .mv (.tmp 1), none, []⟩,
     ⟨some 124, .call (.func 57) [(.tmp 123)], none, []⟩,
     ⟨some 125, .call (.func 56) [(.tmp 124)], none, []⟩,
     ⟨some 122, .mv (.tmp 125), none, []⟩,
     ⟨some 126, .ext (.tmp 122) 0, none, []⟩,
     ⟨some 127, .ext (.tmp 122) 1, none, []⟩,
     ⟨some 15, .mv (.tmp 126), none, []⟩,
     ⟨some 16, .mv (.tmp 127), none, []⟩] [123, 124, 125, 122, 126, 127])
  (.seq
   (.region false [⟨some 129, .mv (.tmp 11), none, []⟩,
     ⟨some 130, .call (.func 56) [(.tmp 129)], none, []⟩,
     ⟨some 128, .mv (.tmp 130), none, []⟩,
     ⟨some 131, .ext (.tmp 128) 0, none, []⟩,
     ⟨some 132, .ext (.tmp 128) 1, none, []⟩,
     ⟨some 17, .mv (.tmp 131), none, []⟩,
     ⟨some 18, .mv (.tmp 132), none, []⟩] [129, 130, 128, 131, 132])
  (.seq
   (.seq
    (.region false [⟨some 133, .mv (.tmp 14), none, []⟩,
      ⟨some 134, .bin .neq (.tmp 133) (.const (.int .i64 0)), none, []⟩,
      ⟨some 135, .mv (.tmp 134), none, []⟩,
      ⟨some 136, .mv (.tmp 13), (some (some 135, false)), []⟩,
      ⟨some 137, .un .not (.tmp 136), (some (some 135, false)), []⟩,
      ⟨some 138, .pick (.tmp 135) (.const (.bool true)) (.tmp 137), none, []⟩,
      ⟨some 139, .mv (.tmp 138), none, []⟩,
      ⟨some 140, .mv (.tmp 16), (some (some 139, false)), []⟩,
      ⟨some 141, .bin .neq (.tmp 140) (.const (.int .i64 0)), (some (some 139, false)), []⟩,
      ⟨some 142, .pick (.tmp 139) (.const (.bool true)) (.tmp 141), none, []⟩,
      ⟨some 143, .mv (.tmp 142), none, []⟩,
      ⟨some 144, .mv (.tmp 18), (some (some 143, false)), []⟩,
      ⟨some 145, .bin .neq (.tmp 144) (.const (.int .i64 0)), (some (some 143, false)), []⟩,
      ⟨some 146, .pick (.tmp 143) (.const (.bool true)) (.tmp 145), none, []⟩] [133, 134, 135, 136, 137, 138, 139, 140, 141, 142, 143, 144, 145])
   (.cond (.tmp 146)
     (.seq
      (.region false [⟨some 6, .mv (.const (.bool false)), none, []⟩] [])
     .ret)
     .skip))
  (.seq
   (.region false [⟨some 147, .mv (.tmp 15), none, []⟩,
     ⟨some 148, .bin .geq (.tmp 147) (.const (.int .i64 1000000000000000000)), none, []⟩,
     ⟨some 149, .mv (.tmp 148), none, []⟩,
     ⟨some 150, .mv (.tmp 17), (some (some 149, false)), []⟩,
     ⟨some 151, .mv (.tmp 15), (some (some 149, false)), []⟩,
     ⟨some 152, .bin .eql (.tmp 150) (.tmp 151), (some (some 149, false)), []⟩,
     ⟨some 153, .mv (.tmp 9), (some (some 149, false)), []⟩,
     ⟨some 154, .eqb false (.tmp 152) (.tmp 153), (some (some 149, false)), []⟩,
     ⟨some 155, .pick (.tmp 149) (.const (.bool true)) (.tmp 154), none, []⟩,
     ⟨some 156, .mv (.tmp 155), none, []⟩,
     ⟨some 157, .mv (.tmp 17), (some (some 156, true)), []⟩,
     ⟨some 158, .mv (.tmp 15), (some (some 156, true)), []⟩,
     ⟨some 159, .bin .geq (.tmp 157) (.tmp 158), (some (some 156, true)), []⟩,
     ⟨some 160, .pick (.tmp 156) (.tmp 159) (.const (.bool false)), none, []⟩,
     ⟨some 161, .mv (.tmp 160), none, []⟩,
     ⟨some 162, .call (.func 19) [], (some (some 161, true)), []⟩,
     ⟨some 163, .pick (.tmp 161) (.tmp 162) (.const (.bool false)), none, []⟩,
     ⟨some 6, .mv (.tmp 163), none, []⟩] [147, 148, 149, 150, 151, 152, 153, 154, 155, 156, 157, 158, 159, 160, 161, 162, 163])
  .ret))))))))))))
set_option maxRecDepth 100000 in
theorem klaw01_SpansCovered : IsCode Try.prog 16 164 claw01_SpansCovered [.tmp 6] :=
  ⟨Try.f16, _, [146, 107, 90, 56, 38, 33, 0, 1, 2, 7, 10, 9, 8, 11, 14, 13, 16, 18, 15, 17, 6], Try.func16, rfl, by decide, rfl, by kernel_rfl, by kernel_rfl⟩
end Go.Proofs.Ytfaiogajaaclcaa
