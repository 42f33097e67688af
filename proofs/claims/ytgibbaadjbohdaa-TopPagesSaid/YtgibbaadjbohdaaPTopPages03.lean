/- Texts of the law TopPages, part 3. No conditions. -/
import Derived.Test.YtgibbaadjbohdaaPTopPages02
import Derived.Test.YtgibbaadjbohdaaRows
/- The functions' bodies, translated. Written by a program; no conditions. -/
namespace Go.Proofs.Ytgibbaadjbohdaa
open Go.RowKit Lift

/-- spans_check -/
def cspans_check : ACode :=
  (.seq
   (.region false [⟨some 2, .mv (.const (.int .i64 0)), none, []⟩] [])
  (.seq
   (.seq
    (.region false [⟨some 8, .mv (.tmp 0), none, []⟩,
      ⟨some 9, .len_ (.tmp 8), none, []⟩,
      ⟨some 10, .mv (.const (.int .i64 0)), none, []⟩] [])
   (.block 0
     (.loop
       (.seq
        (.region false [⟨some 11, .bin .lss (.tmp 10) (.tmp 9), none, []⟩] [])
       (.seq
        (.cond (.tmp 11)
          .skip
          (.exit 0))
       (.seq
        (.block 1
          (.seq
           (.region false [⟨some 12, .iadS 1 (.tmp 8) (.tmp 10), none, []⟩,
             ⟨some 13, .load1 (.tmp 12), none, []⟩,
             ⟨some 4, .mv (.tmp 13), none, []⟩] [12, 13])
          (.seq
           (.region false [⟨some 14, .mv (.tmp 4), none, []⟩,
             ⟨some 15, .call (.func 77) [(.tmp 14)], none, []⟩,
             ⟨some 5, .mv (.tmp 15), none, []⟩] [14, 15])
          (.seq
           (.region false [⟨some 16, .mv (.tmp 5), none, []⟩,
             ⟨some 17, .bin .neq (.tmp 16) (.const (.int .i64 0)), none, []⟩] [16])
          (.cond (.tmp 17)
            (.seq
             (.region false [⟨some 18, .mv (.tmp 5), none, []⟩,
               ⟨some 2, .mv (.tmp 18), none, []⟩] [18])
            .ret)
            .skip)))))
       (.region false [⟨some 19, .bin .add (.tmp 10) (.const (.int .i64 1)), none, []⟩,
         ⟨some 10, .mv (.tmp 19), none, []⟩] [19])))))))
  (.seq
   (.seq
    (.region false [⟨some 20, .mv (.tmp 0), none, []⟩,
      ⟨some 21, .len_ (.tmp 20), none, []⟩,
      ⟨some 22, .mv (.const (.int .i64 0)), none, []⟩] [])
   (.block 2
     (.loop
       (.seq
        (.region false [⟨some 23, .bin .lss (.tmp 22) (.tmp 21), none, []⟩] [])
       (.seq
        (.cond (.tmp 23)
          .skip
          (.exit 2))
       (.seq
        (.block 3
          (.seq
           (.region false [⟨some 24, .iadS 1 (.tmp 20) (.tmp 22), none, []⟩,
             ⟨some 25, .load1 (.tmp 24), none, []⟩,
             ⟨some 7, .mv (.tmp 25), none, []⟩] [24, 25])
          (.seq
           (.region false [⟨some 26, .mv (.tmp 7), none, []⟩,
             ⟨some 27, .len_ (.tmp 26), none, []⟩,
             ⟨some 28, .mv (.tmp 0), none, []⟩,
             ⟨some 29, .iadS 1 (.tmp 28) (.const (.int .i64 0)), none, []⟩,
             ⟨some 30, .load1 (.tmp 29), none, []⟩,
             ⟨some 31, .len_ (.tmp 30), none, []⟩,
             ⟨some 32, .bin .neq (.tmp 27) (.tmp 31), none, []⟩] [26, 27, 28, 29, 30, 31])
          (.cond (.tmp 32)
            (.seq
             (.region false [⟨some 2, .mv (.const (.int .i64 1)), none, []⟩] [])
            .ret)
            .skip))))
       (.region false [⟨some 33, .bin .add (.tmp 22) (.const (.int .i64 1)), none, []⟩,
         ⟨some 22, .mv (.tmp 33), none, []⟩] [33])))))))
  (.seq
   (.region false [⟨some 2, .mv (.const (.int .i64 0)), none, []⟩] [])
  .ret))))
set_option maxRecDepth 100000 in
theorem kspans_check : IsCode Try.prog 39 34 cspans_check [.tmp 2] :=
  ⟨Try.f39, _, [32, 23, 17, 11, 0, 10, 9, 8, 4, 5, 22, 21, 20, 7, 2], Try.func39, rfl, by decide, rfl, by kernel_rfl, by kernel_rfl⟩
/-- spans_corner -/
def cspans_corner : ACode :=
  (.seq
   (.region false [⟨some 2, .mv (.const (.slice none 0 0)), none, []⟩] [])
  (.seq
   (.seq
    (.region false [⟨some 5, .mv (.tmp 0), none, []⟩,
      ⟨some 6, .len_ (.tmp 5), none, []⟩,
      ⟨some 7, .mv (.const (.int .i64 0)), none, []⟩] [])
   (.block 0
     (.loop
       (.seq
        (.region false [⟨some 8, .bin .lss (.tmp 7) (.tmp 6), none, []⟩] [])
       (.seq
        (.cond (.tmp 8)
          .skip
          (.exit 0))
       (.seq
        (.block 1
          (.seq
           (.region false [⟨some 9, .iadS 2 (.tmp 5) (.tmp 7), none, []⟩,
             ⟨some 10, .loadN 2 (.tmp 9), none, []⟩,
             ⟨some 4, .mem [(.val (.int .i64 0)), (.val (.int .i64 0))], none, []⟩,
             ⟨none, .store 2 (.tmp 4) (.tmp 10), none, []⟩] [9, 10])
          (.region false [⟨some 11, .mv (.tmp 2), none, []⟩,
            ⟨some 12, .fad 0 (.tmp 4), none, []⟩,
            ⟨some 13, .load1 (.tmp 12), none, []⟩,
            ⟨some 14, .buildSl 1 1 [(.val (.int .i64 0))] [(0, 1, (.tmp 13))], none, []⟩,
            ⟨some 15, .app 1 8 (.tmp 11) (.tmp 14), none, []⟩,
            ⟨some 2, .mv (.tmp 15), none, []⟩] [11, 12, 13, 14, 15])))
       (.region false [⟨some 16, .bin .add (.tmp 7) (.const (.int .i64 1)), none, []⟩,
         ⟨some 7, .mv (.tmp 16), none, []⟩] [16])))))))
  (.seq
   (.region false [⟨some 17, .mv (.tmp 2), none, []⟩,
     ⟨some 2, .mv (.tmp 17), none, []⟩] [17])
  .ret)))
set_option maxRecDepth 100000 in
theorem kspans_corner : IsCode Try.prog 41 18 cspans_corner [.tmp 2] :=
  ⟨Try.f41, _, [8, 0, 7, 6, 5, 2, 4], Try.func41, rfl, by decide, rfl, by kernel_rfl, by kernel_rfl⟩
/-- spans_Covers -/
def cspans_Covers : ACode :=
  (.seq
   (.region false [⟨some 4, .mv (.const (.slice none 0 0)), none, []⟩,
     ⟨some 5, .mv (.const (.bool false)), none, []⟩,
     ⟨some 6, .mv (.const (.int .i64 0)), none, []⟩] [])
  (.seq
   (.seq
    (.region false [⟨some 14, .mv (.tmp 1), none, []⟩,
      ⟨some 15, .len_ (.tmp 14), none, []⟩,
      ⟨some 16, .bin .gtr (.tmp 15) (.const (.int .i64 20)), none, []⟩] [14, 15])
   (.cond (.tmp 16)
     (.seq
      (.region false [⟨some 4, .mv (.const (.slice none 0 0)), none, []⟩,
        ⟨some 5, .mv (.const (.bool false)), none, []⟩,
        ⟨some 6, .mv (.const (.int .i64 2)), none, []⟩] [])
     .ret)
     .skip))
  (.seq
   (.seq
    (.region false [⟨some 17, .mv (.tmp 0), none, []⟩,
      ⟨some 18, .buildSl 1 1 [(.val (.slice none 0 0))] [(0, 1, (.tmp 17))], none, []⟩,
      ⟨some 19, .mv (.tmp 1), none, []⟩,
      ⟨some 20, .app 1 24 (.tmp 18) (.tmp 19), none, []⟩,
      ⟨some 21, .call (.func 39) [(.tmp 20)], none, []⟩,
      ⟨some 7, .mv (.tmp 21), none, []⟩] [17, 18, 19, 20, 21])
   (.seq
    (.region false [⟨some 22, .mv (.tmp 7), none, []⟩,
      ⟨some 23, .bin .neq (.tmp 22) (.const (.int .i64 0)), none, []⟩] [22])
   (.cond (.tmp 23)
     (.seq
      (.region false [⟨some 24, .mv (.tmp 7), none, []⟩,
        ⟨some 4, .mv (.const (.slice none 0 0)), none, []⟩,
        ⟨some 5, .mv (.const (.bool false)), none, []⟩,
        ⟨some 6, .mv (.tmp 24), none, []⟩] [24])
     .ret)
     .skip)))
  (.seq
   (.region false [⟨some 25, .mv (.tmp 0), none, []⟩,
     ⟨some 26, .buildSl 1 1 [(.val (.slice none 0 0))] [(0, 1, (.tmp 25))], none, []⟩,
     ⟨some 8, .mv (.tmp 26), none, []⟩] [25, 26])
  (.seq
   (.seq
    (.region false [⟨some 27, .mv (.tmp 1), none, []⟩,
      ⟨some 28, .len_ (.tmp 27), none, []⟩,
      ⟨some 29, .mv (.const (.int .i64 0)), none, []⟩] [])
   (.block 0
     (.loop
       (.seq
        (.region false [⟨some 30, .bin .lss (.tmp 29) (.tmp 28), none, []⟩] [])
       (.seq
        (.cond (.tmp 30)
          .skip
          (.exit 0))
       (.seq
        (.block 1
          (.seq
           (.region false [⟨some 31, .iadS 1 (.tmp 27) (.tmp 29), none, []⟩,
             ⟨some 32, .load1 (.tmp 31), none, []⟩,
             ⟨some 10, .mv (.tmp 32), none, []⟩] [31, 32])
          (.region false [⟨some 33, .mv (.tmp 8), none, []⟩,
            ⟨some 34, .mv (.tmp 10), none, []⟩,
            ⟨some 35, .call (.func 40) [(.tmp 33), (.tmp 34)], none, []⟩,
            ⟨some 8, .mv (.tmp 35), none, []⟩] [33, 34, 35])))
       (.region false [⟨some 36, .bin .add (.tmp 29) (.const (.int .i64 1)), none, []⟩,
         ⟨some 29, .mv (.tmp 36), none, []⟩] [36])))))))
  (.seq
   (.seq
    (.region false [⟨some 37, .mv (.tmp 8), none, []⟩,
      ⟨some 38, .len_ (.tmp 37), none, []⟩,
      ⟨some 39, .mv (.const (.int .i64 0)), none, []⟩] [])
   (.block 2
     (.loop
       (.seq
        (.region false [⟨some 40, .bin .lss (.tmp 39) (.tmp 38), none, []⟩] [])
       (.seq
        (.cond (.tmp 40)
          .skip
          (.exit 2))
       (.seq
        (.block 3
          (.seq
           (.region false [⟨some 41, .iadS 1 (.tmp 37) (.tmp 39), none, []⟩,
             ⟨some 42, .load1 (.tmp 41), none, []⟩,
             ⟨some 12, .mv (.tmp 42), none, []⟩] [41, 42])
          (.seq
           (.region false [⟨some 43, .mv (.tmp 12), none, []⟩,
             ⟨some 44, .call (.func 41) [(.tmp 43)], none, []⟩,
             ⟨some 13, .mv (.tmp 44), none, []⟩] [43, 44])
          (.seq
           (.region false [⟨some 45, .mv (.tmp 4), none, []⟩,
             ⟨some 46, .eqn false (.tmp 45) (.const (.slice none 0 0)), none, []⟩,
             ⟨some 47, .mv (.tmp 46), none, []⟩,
             ⟨some 48, .mv (.tmp 13), (some (some 47, false)), []⟩,
             ⟨some 49, .mv (.tmp 4), (some (some 47, false)), []⟩,
             ⟨some 50, .call (.func 42) [(.tmp 48), (.tmp 49)], (some (some 47, false)), []⟩,
             ⟨some 51, .bin .lss (.tmp 50) (.const (.int .i64 0)), (some (some 47, false)), []⟩,
             ⟨some 52, .pick (.tmp 47) (.const (.bool true)) (.tmp 51), none, []⟩] [45, 46, 47, 48, 49, 50, 51])
          (.cond (.tmp 52)
            (.region false [⟨some 53, .mv (.tmp 13), none, []⟩,
              ⟨some 4, .mv (.tmp 53), none, []⟩] [53])
            .skip)))))
       (.region false [⟨some 54, .bin .add (.tmp 39) (.const (.int .i64 1)), none, []⟩,
         ⟨some 39, .mv (.tmp 54), none, []⟩] [54])))))))
  (.seq
   (.region false [⟨some 55, .mv (.tmp 4), none, []⟩,
     ⟨some 56, .mv (.tmp 4), none, []⟩,
     ⟨some 57, .eqn false (.tmp 56) (.const (.slice none 0 0)), none, []⟩,
     ⟨some 4, .mv (.tmp 55), none, []⟩,
     ⟨some 5, .mv (.tmp 57), none, []⟩,
     ⟨some 6, .mv (.const (.int .i64 0)), none, []⟩] [55, 56, 57])
  .ret)))))))
set_option maxRecDepth 100000 in
theorem kspans_Covers : IsCode Try.prog 15 58 cspans_Covers [.tmp 4, .tmp 5, .tmp 6] :=
  ⟨Try.f15, _, [52, 40, 30, 23, 16, 1, 0, 7, 29, 28, 27, 8, 10, 39, 38, 37, 12, 4, 13, 5, 6], Try.func15, rfl, by decide, rfl, by kernel_rfl, by kernel_rfl⟩
/-- spans_Count -/
def cspans_Count : ACode :=
  (.seq
   (.region false [⟨some 2, .mv (.const (.int .i64 0)), none, []⟩,
     ⟨some 3, .mv (.const (.int .i64 0)), none, []⟩] [])
  (.seq
   (.seq
    (.region false [⟨some 15, .mv (.tmp 0), none, []⟩,
      ⟨some 16, .len_ (.tmp 15), none, []⟩,
      ⟨some 17, .bin .gtr (.tmp 16) (.const (.int .i64 20)), none, []⟩] [15, 16])
   (.cond (.tmp 17)
     (.seq
      (.region false [⟨some 2, .mv (.const (.int .i64 0)), none, []⟩,
        ⟨some 3, .mv (.const (.int .i64 2)), none, []⟩] [])
     .ret)
     .skip))
  (.seq
   (.seq
    (.region false [⟨some 18, .mv (.tmp 0), none, []⟩,
      ⟨some 19, .call (.func 39) [(.tmp 18)], none, []⟩,
      ⟨some 4, .mv (.tmp 19), none, []⟩] [18, 19])
   (.seq
    (.region false [⟨some 20, .mv (.tmp 4), none, []⟩,
      ⟨some 21, .bin .neq (.tmp 20) (.const (.int .i64 0)), none, []⟩] [20])
   (.cond (.tmp 21)
     (.seq
      (.region false [⟨some 22, .mv (.tmp 4), none, []⟩,
        ⟨some 2, .mv (.const (.int .i64 0)), none, []⟩,
        ⟨some 3, .mv (.tmp 22), none, []⟩] [22])
     .ret)
     .skip)))
  (.seq
   (.seq
    (.region false [⟨some 23, .mv (.tmp 0), none, []⟩,
      ⟨some 24, .len_ (.tmp 23), none, []⟩,
      ⟨some 25, .mv (.const (.int .i64 0)), none, []⟩] [])
   (.block 0
     (.loop
       (.seq
        (.region false [⟨some 26, .bin .lss (.tmp 25) (.tmp 24), none, []⟩] [])
       (.seq
        (.cond (.tmp 26)
          .skip
          (.exit 0))
       (.seq
        (.block 1
          (.seq
           (.region false [⟨some 27, .mv (.tmp 25), none, []⟩,
             ⟨some 28, .iadS 1 (.tmp 23) (.tmp 25), none, []⟩,
             ⟨some 29, .load1 (.tmp 28), none, []⟩,
             ⟨some 5, .mv (.tmp 27), none, []⟩,
             ⟨some 6, .mv (.tmp 29), none, []⟩] [27, 28, 29])
          (.seq
           (.region false [⟨some 30, .mv (.tmp 6), none, []⟩,
             ⟨some 31, .buildSl 1 1 [(.val (.slice none 0 0))] [(0, 1, (.tmp 30))], none, []⟩,
             ⟨some 7, .mv (.tmp 31), none, []⟩] [30, 31])
          (.seq
           (.seq
            (.region false [⟨some 32, .mv (.tmp 0), none, []⟩,
              ⟨some 33, .mv (.tmp 5), none, []⟩,
              ⟨some 34, .slS 1 (.tmp 32) none (some (.tmp 33)), none, []⟩,
              ⟨some 35, .len_ (.tmp 34), none, []⟩,
              ⟨some 36, .mv (.const (.int .i64 0)), none, []⟩] [32, 33])
           (.block 2
             (.loop
               (.seq
                (.region false [⟨some 37, .bin .lss (.tmp 36) (.tmp 35), none, []⟩] [])
               (.seq
                (.cond (.tmp 37)
                  .skip
                  (.exit 2))
               (.seq
                (.block 3
                  (.seq
                   (.region false [⟨some 38, .iadS 1 (.tmp 34) (.tmp 36), none, []⟩,
                     ⟨some 39, .load1 (.tmp 38), none, []⟩,
                     ⟨some 9, .mv (.tmp 39), none, []⟩] [38, 39])
                  (.region false [⟨some 40, .mv (.tmp 7), none, []⟩,
                    ⟨some 41, .mv (.tmp 9), none, []⟩,
                    ⟨some 42, .call (.func 40) [(.tmp 40), (.tmp 41)], none, []⟩,
                    ⟨some 7, .mv (.tmp 42), none, []⟩] [40, 41, 42])))
               (.region false [⟨some 43, .bin .add (.tmp 36) (.const (.int .i64 1)), none, []⟩,
                 ⟨some 36, .mv (.tmp 43), none, []⟩] [43])))))))
          (.seq
           (.region false [⟨some 44, .mv (.tmp 7), none, []⟩,
             ⟨some 45, .len_ (.tmp 44), none, []⟩,
             ⟨some 46, .mv (.const (.int .i64 0)), none, []⟩] [])
          (.block 4
            (.loop
              (.seq
               (.region false [⟨some 47, .bin .lss (.tmp 46) (.tmp 45), none, []⟩] [])
              (.seq
               (.cond (.tmp 47)
                 .skip
                 (.exit 4))
              (.seq
               (.block 5
                 (.seq
                  (.region false [⟨some 48, .iadS 1 (.tmp 44) (.tmp 46), none, []⟩,
                    ⟨some 49, .load1 (.tmp 48), none, []⟩,
                    ⟨some 11, .mv (.tmp 49), none, []⟩] [48, 49])
                 (.seq
                  (.region false [⟨some 12, .mv (.const (.int .i64 1)), none, []⟩] [])
                 (.seq
                  (.seq
                   (.region false [⟨some 50, .mv (.tmp 11), none, []⟩,
                     ⟨some 51, .len_ (.tmp 50), none, []⟩,
                     ⟨some 52, .mv (.const (.int .i64 0)), none, []⟩] [])
                  (.block 6
                    (.loop
                      (.seq
                       (.region false [⟨some 53, .bin .lss (.tmp 52) (.tmp 51), none, []⟩] [])
                      (.seq
                       (.cond (.tmp 53)
                         .skip
                         (.exit 6))
                      (.seq
                       (.block 7
                         (.seq
                          (.region false [⟨some 54, .iadS 2 (.tmp 50) (.tmp 52), none, []⟩,
                            ⟨some 55, .loadN 2 (.tmp 54), none, []⟩,
                            ⟨some 14, .mem [(.val (.int .i64 0)), (.val (.int .i64 0))], none, []⟩,
                            ⟨none, .store 2 (.tmp 14) (.tmp 55), none, []⟩] [54, 55])
                         (.region false [⟨some 56, .mv (.tmp 12), none, []⟩,
                           ⟨some 57, .fad 1 (.tmp 14), none, []⟩,
                           ⟨some 58, .load1 (.tmp 57), none, []⟩,
                           ⟨some 59, .fad 0 (.tmp 14), none, []⟩,
                           ⟨some 60, .load1 (.tmp 59), none, []⟩,
                           ⟨some 61, .bin .sub (.tmp 58) (.tmp 60), none, []⟩,
                           ⟨some 62, .bin .add (.tmp 61) (.const (.int .i64 1)), none, []⟩,
                           ⟨some 63, .bin .mul (.tmp 56) (.tmp 62), none, []⟩,
                           ⟨some 12, .mv (.tmp 63), none, []⟩] [56, 57, 58, 59, 60, 61, 62, 63])))
                      (.region false [⟨some 64, .bin .add (.tmp 52) (.const (.int .i64 1)), none, []⟩,
                        ⟨some 52, .mv (.tmp 64), none, []⟩] [64])))))))
                 (.region false [⟨some 65, .mv (.tmp 2), none, []⟩,
                   ⟨some 66, .mv (.tmp 12), none, []⟩,
                   ⟨some 67, .bin .add (.tmp 65) (.tmp 66), none, []⟩,
                   ⟨some 68, .mnx false [(.tmp 67), (.const (.int .i64 1000000000000000000))], none, []⟩,
                   ⟨some 2, .mv (.tmp 68), none, []⟩] [65, 66, 67, 68])))))
              (.region false [⟨some 69, .bin .add (.tmp 46) (.const (.int .i64 1)), none, []⟩,
                ⟨some 46, .mv (.tmp 69), none, []⟩] [69])))))))))))
       (.region false [⟨some 70, .bin .add (.tmp 25) (.const (.int .i64 1)), none, []⟩,
         ⟨some 25, .mv (.tmp 70), none, []⟩] [70])))))))
  (.seq
   (.region false [⟨some 71, .mv (.tmp 2), none, []⟩,
     ⟨some 2, .mv (.tmp 71), none, []⟩,
     ⟨some 3, .mv (.const (.int .i64 0)), none, []⟩] [71])
  .ret)))))
set_option maxRecDepth 100000 in
theorem kspans_Count : IsCode Try.prog 16 72 cspans_Count [.tmp 2, .tmp 3] :=
  ⟨Try.f16, _, [53, 47, 37, 26, 21, 17, 0, 4, 25, 24, 23, 6, 5, 36, 35, 34, 7, 9, 46, 45, 44, 11, 52, 51, 50, 12, 14, 2, 3], Try.func16, rfl, by decide, rfl, by kernel_rfl, by kernel_rfl⟩
/-- slices_Compare_L_L_Jint_Kint_J -/
def cslices_Compare_L_L_Jint_Kint_J : ACode :=
  (.seq
   (.region false [⟨some 4, .mv (.const (.int .i64 0)), none, []⟩] [])
  (.seq
   (.seq
    (.region false [⟨some 9, .mv (.tmp 0), none, []⟩,
      ⟨some 10, .len_ (.tmp 9), none, []⟩,
      ⟨some 11, .mv (.const (.int .i64 0)), none, []⟩] [])
   (.block 0
     (.loop
       (.seq
        (.region false [⟨some 12, .bin .lss (.tmp 11) (.tmp 10), none, []⟩] [])
       (.seq
        (.cond (.tmp 12)
          .skip
          (.exit 0))
       (.seq
        (.block 1
          (.seq
           (.region false [⟨some 13, .mv (.tmp 11), none, []⟩,
             ⟨some 14, .iadS 1 (.tmp 9) (.tmp 11), none, []⟩,
             ⟨some 15, .load1 (.tmp 14), none, []⟩,
             ⟨some 5, .mv (.tmp 13), none, []⟩,
             ⟨some 6, .mv (.tmp 15), none, []⟩] [13, 14, 15])
          (.seq
           (.seq
            (.region false [⟨some 16, .mv (.tmp 5), none, []⟩,
              ⟨some 17, .mv (.tmp 1), none, []⟩,
              ⟨some 18, .len_ (.tmp 17), none, []⟩,
              ⟨some 19, .bin .geq (.tmp 16) (.tmp 18), none, []⟩] [16, 17, 18])
           (.cond (.tmp 19)
             (.seq
              (.region false [⟨some 4, .mv (.const (.int .i64 1)), none, []⟩] [])
             .ret)
             .skip))
          (.seq
           (.region false [⟨some 20, .mv (.tmp 1), none, []⟩,
             ⟨some 21, .mv (.tmp 5), none, []⟩,
             ⟨some 22, .iadS 1 (.tmp 20) (.tmp 21), none, []⟩,
             ⟨some 23, .load1 (.tmp 22), none, []⟩,
             ⟨some 7, .mv (.tmp 23), none, []⟩] [20, 21, 22, 23])
          (.seq
           (.region false [⟨some 24, .mv (.tmp 6), none, []⟩,
             ⟨some 25, .mv (.tmp 7), none, []⟩,
             ⟨some 26, .call (.func 79) [(.tmp 24), (.tmp 25)], none, []⟩,
             ⟨some 8, .mv (.tmp 26), none, []⟩] [24, 25, 26])
          (.seq
           (.region false [⟨some 27, .mv (.tmp 8), none, []⟩,
             ⟨some 28, .bin .neq (.tmp 27) (.const (.int .i64 0)), none, []⟩] [27])
          (.cond (.tmp 28)
            (.seq
             (.region false [⟨some 29, .mv (.tmp 8), none, []⟩,
               ⟨some 4, .mv (.tmp 29), none, []⟩] [29])
            .ret)
            .skip)))))))
       (.region false [⟨some 30, .bin .add (.tmp 11) (.const (.int .i64 1)), none, []⟩,
         ⟨some 11, .mv (.tmp 30), none, []⟩] [30])))))))
  (.seq
   (.seq
    (.region false [⟨some 31, .mv (.tmp 0), none, []⟩,
      ⟨some 32, .len_ (.tmp 31), none, []⟩,
      ⟨some 33, .mv (.tmp 1), none, []⟩,
      ⟨some 34, .len_ (.tmp 33), none, []⟩,
      ⟨some 35, .bin .lss (.tmp 32) (.tmp 34), none, []⟩] [31, 32, 33, 34])
   (.cond (.tmp 35)
     (.seq
      (.region false [⟨some 4, .mv (.const (.int .i64 (-1))), none, []⟩] [])
     .ret)
     .skip))
  (.seq
   (.region false [⟨some 4, .mv (.const (.int .i64 0)), none, []⟩] [])
  .ret))))
set_option maxRecDepth 100000 in
theorem kslices_Compare_L_L_Jint_Kint_J : IsCode Try.prog 42 36 cslices_Compare_L_L_Jint_Kint_J [.tmp 4] :=
  ⟨Try.f42, _, [35, 28, 19, 12, 0, 11, 10, 9, 5, 1, 6, 7, 8, 4], Try.func42, rfl, by decide, rfl, by kernel_rfl, by kernel_rfl⟩
/-- cmp_Compare_Lint_J -/
def ccmp_Compare_Lint_J : ACode :=
  (.seq
   (.region false [⟨some 4, .mv (.const (.int .i64 0)), none, []⟩] [])
  (.seq
   (.region false [⟨some 7, .mv (.tmp 0), none, []⟩,
     ⟨some 8, .call (.func 117) [(.tmp 7)], none, []⟩,
     ⟨some 5, .mv (.tmp 8), none, []⟩] [7, 8])
  (.seq
   (.region false [⟨some 9, .mv (.tmp 1), none, []⟩,
     ⟨some 10, .call (.func 117) [(.tmp 9)], none, []⟩,
     ⟨some 6, .mv (.tmp 10), none, []⟩] [9, 10])
  (.seq
   (.seq
    (.region false [⟨some 11, .mv (.tmp 5), none, []⟩] [])
   (.cond (.tmp 11)
     (.seq
      (.seq
       (.region false [⟨some 12, .mv (.tmp 6), none, []⟩] [])
      (.cond (.tmp 12)
        (.seq
         (.region false [⟨some 4, .mv (.const (.int .i64 0)), none, []⟩] [])
        .ret)
        .skip))
     (.seq
      (.region false [⟨some 4, .mv (.const (.int .i64 (-1))), none, []⟩] [])
     .ret))
     .skip))
  (.seq
   (.seq
    (.region false [⟨some 13, .mv (.tmp 6), none, []⟩] [])
   (.cond (.tmp 13)
     (.seq
      (.region false [⟨some 4, .mv (.const (.int .i64 1)), none, []⟩] [])
     .ret)
     .skip))
  (.seq
   (.seq
    (.region false [⟨some 14, .mv (.tmp 0), none, []⟩,
      ⟨some 15, .mv (.tmp 1), none, []⟩,
      ⟨some 16, .bin .lss (.tmp 14) (.tmp 15), none, []⟩] [14, 15])
   (.cond (.tmp 16)
     (.seq
      (.region false [⟨some 4, .mv (.const (.int .i64 (-1))), none, []⟩] [])
     .ret)
     .skip))
  (.seq
   (.seq
    (.region false [⟨some 17, .mv (.tmp 0), none, []⟩,
      ⟨some 18, .mv (.tmp 1), none, []⟩,
      ⟨some 19, .bin .gtr (.tmp 17) (.tmp 18), none, []⟩] [17, 18])
   (.cond (.tmp 19)
     (.seq
      (.region false [⟨some 4, .mv (.const (.int .i64 1)), none, []⟩] [])
     .ret)
     .skip))
  (.seq
   (.region false [⟨some 4, .mv (.const (.int .i64 0)), none, []⟩] [])
  .ret))))))))
set_option maxRecDepth 100000 in
theorem kcmp_Compare_Lint_J : IsCode Try.prog 79 20 ccmp_Compare_Lint_J [.tmp 4] :=
  ⟨Try.f79, _, [19, 16, 13, 12, 11, 0, 1, 5, 6, 4], Try.func79, rfl, by decide, rfl, by kernel_rfl, by kernel_rfl⟩
/-- cmp_isNaN_Lint_J -/
def ccmp_isNaN_Lint_J : ACode :=
  (.seq
   (.region false [⟨some 2, .mv (.const (.bool false)), none, []⟩] [])
  (.seq
   (.region false [⟨some 3, .mv (.tmp 0), none, []⟩,
     ⟨some 4, .mv (.tmp 0), none, []⟩,
     ⟨some 5, .bin .neq (.tmp 3) (.tmp 4), none, []⟩,
     ⟨some 2, .mv (.tmp 5), none, []⟩] [3, 4, 5])
  .ret))
set_option maxRecDepth 100000 in
theorem kcmp_isNaN_Lint_J : IsCode Try.prog 117 6 ccmp_isNaN_Lint_J [.tmp 2] :=
  ⟨Try.f117, _, [0, 2], Try.func117, rfl, by decide, rfl, by kernel_rfl, by kernel_rfl⟩
end Go.Proofs.Ytgibbaadjbohdaa
/- The functions' bodies, translated. Written by a program; no conditions. -/
namespace Go.Proofs.Ytgibbaadjbohdaa
open Go.RowKit Lift

/-- spans_minus_S1 -/
def cspans_minus_S1 : ACode :=
  (.seq
   (.region false [⟨some 9, .load1 (.tmp 1), none, []⟩,
     ⟨some 10, .call (.func 116) [(.tmp 9)], none, []⟩,
     ⟨some 4, .mv (.tmp 10), none, []⟩] [9, 10])
  (.seq
   (.region false [⟨some 11, .mv (.tmp 4), none, []⟩,
     ⟨some 12, .len_ (.tmp 11), none, []⟩,
     ⟨some 13, .mv (.const (.int .i64 0)), none, []⟩] [11])
  (.block 0
    (.loop
      (.seq
       (.region false [⟨some 14, .bin .lss (.tmp 13) (.tmp 12), none, []⟩] [])
      (.seq
       (.cond (.tmp 14)
         .skip
         (.exit 0))
      (.seq
       (.block 1
         (.seq
          (.region false [⟨some 15, .mv (.tmp 13), none, []⟩,
            ⟨some 5, .mv (.tmp 15), none, []⟩] [15])
         (.seq
          (.seq
           (.region true [⟨some 16, .mv (.tmp 4), none, []⟩,
             ⟨some 17, .mv (.tmp 5), none, []⟩,
             ⟨some 18, .iadS 2 (.tmp 16) (.tmp 17), none, [0, 1]⟩,
             ⟨some 19, .fad 0 (.tmp 18), none, [2, 0, 1]⟩,
             ⟨some 20, .load1 (.tmp 19), none, [3, 2, 0, 1]⟩,
             ⟨some 21, .mv (.tmp 4), none, []⟩,
             ⟨some 22, .mv (.tmp 5), none, []⟩,
             ⟨some 23, .iadS 2 (.tmp 21) (.tmp 22), none, [5, 6]⟩,
             ⟨some 24, .fad 1 (.tmp 23), none, [7, 5, 6]⟩,
             ⟨some 25, .load1 (.tmp 24), none, [8, 7, 5, 6]⟩,
             ⟨some 26, .load1 (.tmp 2), none, []⟩,
             ⟨some 27, .mv (.tmp 5), none, []⟩,
             ⟨some 28, .iadS 2 (.tmp 26) (.tmp 27), none, [10, 11]⟩,
             ⟨some 29, .fad 0 (.tmp 28), none, [12, 10, 11]⟩,
             ⟨some 30, .load1 (.tmp 29), none, [13, 12, 10, 11]⟩,
             ⟨some 31, .bin .sub (.tmp 30) (.const (.int .i64 1)), none, [14, 13, 12, 10, 11]⟩,
             ⟨some 32, .mnx false [(.tmp 25), (.tmp 31)], none, [9, 8, 7, 5, 6, 15, 14, 13, 12, 10, 11]⟩,
             ⟨some 33, .build [(.val (.int .i64 0)), (.val (.int .i64 0))] [(0, 1, (.tmp 20)), (1, 1, (.tmp 32))], none, [4, 3, 2, 0, 1, 16, 9, 8, 7, 5, 6, 15, 14, 13, 12, 10, 11]⟩,
             ⟨some 34, .mv (.tmp 4), none, []⟩,
             ⟨some 35, .mv (.tmp 5), none, []⟩,
             ⟨some 36, .iadS 2 (.tmp 34) (.tmp 35), none, [18, 19]⟩,
             ⟨some 37, .fad 0 (.tmp 36), none, [20, 18, 19]⟩,
             ⟨some 38, .load1 (.tmp 37), none, [21, 20, 18, 19]⟩,
             ⟨some 39, .load1 (.tmp 2), none, []⟩,
             ⟨some 40, .mv (.tmp 5), none, []⟩,
             ⟨some 41, .iadS 2 (.tmp 39) (.tmp 40), none, [23, 24]⟩,
             ⟨some 42, .fad 1 (.tmp 41), none, [25, 23, 24]⟩,
             ⟨some 43, .load1 (.tmp 42), none, [26, 25, 23, 24]⟩,
             ⟨some 44, .bin .add (.tmp 43) (.const (.int .i64 1)), none, [27, 26, 25, 23, 24]⟩,
             ⟨some 45, .mnx true [(.tmp 38), (.tmp 44)], none, [22, 21, 20, 18, 19, 28, 27, 26, 25, 23, 24]⟩,
             ⟨some 46, .mv (.tmp 4), none, []⟩,
             ⟨some 47, .mv (.tmp 5), none, []⟩,
             ⟨some 48, .iadS 2 (.tmp 46) (.tmp 47), none, [30, 31]⟩,
             ⟨some 49, .fad 1 (.tmp 48), none, [32, 30, 31]⟩,
             ⟨some 50, .load1 (.tmp 49), none, [33, 32, 30, 31]⟩,
             ⟨some 51, .build [(.val (.int .i64 0)), (.val (.int .i64 0))] [(0, 1, (.tmp 45)), (1, 1, (.tmp 50))], none, [29, 22, 21, 20, 18, 19, 28, 27, 26, 25, 23, 24, 34, 33, 32, 30, 31]⟩,
             ⟨some 52, .build [(.val (.int .i64 0)), (.val (.int .i64 0)), (.val (.int .i64 0)), (.val (.int .i64 0))] [(0, 2, (.tmp 33)), (2, 2, (.tmp 51))], none, [17, 4, 3, 2, 0, 1, 16, 9, 8, 7, 5, 6, 15, 14, 13, 12, 10, 11, 35, 29, 22, 21, 20, 18, 19, 28, 27, 26, 25, 23, 24, 34, 33, 32, 30, 31]⟩,
             ⟨some 53, .mv (.const (.int .i64 0)), none, []⟩] [16, 17, 18, 19, 20, 21, 22, 23, 24, 25, 26, 27, 28, 29, 30, 31, 32, 33, 34, 35, 36, 37, 38, 39, 40, 41, 42, 43, 44, 45, 46, 47, 48, 49, 50, 51])
          (.block 2
            (.loop
              (.seq
               (.region false [⟨some 54, .bin .lss (.tmp 53) (.const (.int .i64 2)), none, []⟩] [])
              (.seq
               (.cond (.tmp 54)
                 .skip
                 (.exit 2))
              (.seq
               (.block 3
                 (.seq
                  (.region false [⟨some 55, .idxN 2 2 (.tmp 52) (.tmp 53), none, []⟩,
                    ⟨some 7, .mem [(.val (.int .i64 0)), (.val (.int .i64 0))], none, []⟩,
                    ⟨none, .store 2 (.tmp 7) (.tmp 55), none, []⟩] [55])
                 (.seq
                  (.seq
                   (.region false [⟨some 56, .fad 0 (.tmp 7), none, []⟩,
                     ⟨some 57, .load1 (.tmp 56), none, []⟩,
                     ⟨some 58, .fad 1 (.tmp 7), none, []⟩,
                     ⟨some 59, .load1 (.tmp 58), none, []⟩,
                     ⟨some 60, .bin .gtr (.tmp 57) (.tmp 59), none, []⟩] [56, 57, 58, 59])
                  (.cond (.tmp 60)
                    (.exit 3)
                    .skip))
                 (.seq
                  (.region false [⟨some 61, .mv (.tmp 4), none, []⟩,
                    ⟨some 62, .call (.func 116) [(.tmp 61)], none, []⟩,
                    ⟨some 8, .mv (.tmp 62), none, []⟩] [61, 62])
                 (.seq
                  (.region false [⟨some 63, .mv (.tmp 8), none, []⟩,
                    ⟨some 64, .mv (.tmp 5), none, []⟩,
                    ⟨some 65, .loadN 2 (.tmp 7), none, []⟩,
                    ⟨some 66, .iadS 2 (.tmp 63) (.tmp 64), none, []⟩,
                    ⟨none, .store 2 (.tmp 66) (.tmp 65), none, []⟩] [63, 64, 65, 66])
                 (.seq
                  (.region false [⟨some 67, .mv (.tmp 0), none, []⟩,
                    ⟨some 68, .mv (.tmp 8), none, []⟩,
                    ⟨some 69, .call (.tmp 67) [(.tmp 68)], none, []⟩,
                    ⟨some 70, .un .not (.tmp 69), none, []⟩] [67, 68, 69])
                 (.cond (.tmp 70)
                   .ret
                   .skip)))))))
              (.region false [⟨some 71, .bin .add (.tmp 53) (.const (.int .i64 1)), none, []⟩,
                ⟨some 53, .mv (.tmp 71), none, []⟩] [71])))))))
         (.seq
          (.region true [⟨some 72, .mv (.tmp 4), none, []⟩,
            ⟨some 73, .mv (.tmp 5), none, []⟩,
            ⟨some 74, .mv (.tmp 4), none, []⟩,
            ⟨some 75, .mv (.tmp 5), none, []⟩,
            ⟨some 76, .mv (.tmp 4), none, []⟩,
            ⟨some 77, .mv (.tmp 5), none, []⟩,
            ⟨some 78, .iadS 2 (.tmp 76) (.tmp 77), none, [4, 5]⟩,
            ⟨some 79, .fad 0 (.tmp 78), none, [6, 4, 5]⟩,
            ⟨some 80, .load1 (.tmp 79), none, [7, 6, 4, 5]⟩,
            ⟨some 81, .load1 (.tmp 2), none, []⟩,
            ⟨some 82, .mv (.tmp 5), none, []⟩,
            ⟨some 83, .iadS 2 (.tmp 81) (.tmp 82), none, [9, 10]⟩,
            ⟨some 84, .fad 0 (.tmp 83), none, [11, 9, 10]⟩,
            ⟨some 85, .load1 (.tmp 84), none, [12, 11, 9, 10]⟩,
            ⟨some 86, .mnx true [(.tmp 80), (.tmp 85)], none, [8, 7, 6, 4, 5, 13, 12, 11, 9, 10]⟩,
            ⟨some 87, .mv (.tmp 4), none, []⟩,
            ⟨some 88, .mv (.tmp 5), none, []⟩,
            ⟨some 89, .iadS 2 (.tmp 87) (.tmp 88), none, [15, 16]⟩,
            ⟨some 90, .fad 1 (.tmp 89), none, [17, 15, 16]⟩,
            ⟨some 91, .load1 (.tmp 90), none, [18, 17, 15, 16]⟩,
            ⟨some 92, .load1 (.tmp 2), none, []⟩,
            ⟨some 93, .mv (.tmp 5), none, []⟩,
            ⟨some 94, .iadS 2 (.tmp 92) (.tmp 93), none, [20, 21]⟩,
            ⟨some 95, .fad 1 (.tmp 94), none, [22, 20, 21]⟩,
            ⟨some 96, .load1 (.tmp 95), none, [23, 22, 20, 21]⟩,
            ⟨some 97, .mnx false [(.tmp 91), (.tmp 96)], none, [19, 18, 17, 15, 16, 24, 23, 22, 20, 21]⟩,
            ⟨some 98, .iadS 2 (.tmp 72) (.tmp 73), none, [0, 1, 4, 5, 6, 7, 8, 9, 10, 11, 12, 13, 14, 19, 18, 17, 15, 16, 24, 23, 22, 20, 21]⟩,
            ⟨some 99, .fad 0 (.tmp 98), none, [26, 0, 1, 4, 5, 6, 7, 8, 9, 10, 11, 12, 13, 14, 19, 18, 17, 15, 16, 24, 23, 22, 20, 21]⟩,
            ⟨none, .store 1 (.tmp 99) (.tmp 86), none, [27, 26, 0, 1, 4, 5, 6, 7, 8, 9, 10, 11, 12, 13, 14, 19, 18, 17, 15, 16, 24, 23, 22, 20, 21]⟩,
            ⟨some 100, .iadS 2 (.tmp 74) (.tmp 75), none, [2, 3, 0, 1, 4, 5, 6, 7, 8, 9, 10, 11, 12, 13, 14, 15, 16, 17, 18, 19, 20, 21, 22, 23, 24, 25, 26, 27, 28]⟩,
            ⟨some 101, .fad 1 (.tmp 100), none, [29, 2, 3, 0, 1, 4, 5, 6, 7, 8, 9, 10, 11, 12, 13, 14, 15, 16, 17, 18, 19, 20, 21, 22, 23, 24, 25, 26, 27, 28]⟩,
            ⟨none, .store 1 (.tmp 101) (.tmp 97), none, [30, 29, 2, 3, 0, 1, 4, 5, 6, 7, 8, 9, 10, 11, 12, 13, 14, 15, 16, 17, 18, 19, 20, 21, 22, 23, 24, 25, 26, 27, 28]⟩] [72, 73, 74, 75, 76, 77, 78, 79, 80, 81, 82, 83, 84, 85, 86, 87, 88, 89, 90, 91, 92, 93, 94, 95, 96, 97, 98, 99, 100, 101])
         (.seq
          (.region true [⟨some 102, .mv (.tmp 4), none, []⟩,
            ⟨some 103, .mv (.tmp 5), none, []⟩,
            ⟨some 104, .iadS 2 (.tmp 102) (.tmp 103), none, [0, 1]⟩,
            ⟨some 105, .fad 0 (.tmp 104), none, [2, 0, 1]⟩,
            ⟨some 106, .load1 (.tmp 105), none, [3, 2, 0, 1]⟩,
            ⟨some 107, .mv (.tmp 4), none, []⟩,
            ⟨some 108, .mv (.tmp 5), none, []⟩,
            ⟨some 109, .iadS 2 (.tmp 107) (.tmp 108), none, [5, 6]⟩,
            ⟨some 110, .fad 1 (.tmp 109), none, [7, 5, 6]⟩,
            ⟨some 111, .load1 (.tmp 110), none, [8, 7, 5, 6]⟩,
            ⟨some 112, .bin .gtr (.tmp 106) (.tmp 111), none, [4, 3, 2, 0, 1, 9, 8, 7, 5, 6]⟩] [102, 103, 104, 105, 106, 107, 108, 109, 110, 111])
         (.cond (.tmp 112)
           .ret
           .skip))))))
      (.region false [⟨some 113, .bin .add (.tmp 13) (.const (.int .i64 1)), none, []⟩,
        ⟨some 13, .mv (.tmp 113), none, []⟩] [113]))))))))
set_option maxRecDepth 100000 in
theorem kspans_minus_S1 : IsCode Try.prog 115 114 cspans_minus_S1 [] :=
  ⟨Try.f115, _, [112, 70, 60, 54, 14, 1, 4, 13, 12, 5, 2, 53, 52, 7, 8, 0], Try.func115, rfl, by decide, rfl, by kernel_rfl, by kernel_rfl⟩
/-- spans_minus -/
def cspans_minus : ACode :=
  (.seq
   (.region false [⟨some 2, .box (.tmp 0), none, []⟩,
     ⟨some 3, .box (.tmp 1), none, []⟩,
     ⟨some 4, .mv (.const (.nilFunc)), none, []⟩] [])
  (.seq
   (.region false [⟨some 5, .mkfn 115 [] [(.tmp 2), (.tmp 3)], none, []⟩,
     ⟨some 4, .mv (.tmp 5), none, []⟩] [5])
  .ret))
set_option maxRecDepth 100000 in
theorem kspans_minus : IsCode Try.prog 78 6 cspans_minus [.tmp 4] :=
  ⟨Try.f78, _, [0, 1, 2, 3, 4], Try.func78, rfl, by decide, rfl, by kernel_rfl, by kernel_rfl⟩
/-- spans_rest -/
def cspans_rest_B17 : ACode :=
  (.block 3
    (.region false [⟨some 18, .load1 (.tmp 4), none, []⟩,
      ⟨some 19, .mv (.tmp 7), none, []⟩,
      ⟨some 20, .buildSl 1 1 [(.val (.slice none 0 0))] [(0, 1, (.tmp 19))], none, []⟩,
      ⟨some 21, .app 1 24 (.tmp 18) (.tmp 20), none, []⟩,
      ⟨none, .store 1 (.tmp 4) (.tmp 21), none, []⟩] [18, 19, 20, 21]))
def cspans_rest : ACode :=
  (.seq
   (.region false [⟨some 4, .mem [(.val (.slice none 0 0))], none, []⟩] [])
  (.seq
   (.seq
    (.region false [⟨some 8, .mv (.tmp 0), none, []⟩,
      ⟨some 9, .len_ (.tmp 8), none, []⟩,
      ⟨some 10, .mv (.const (.int .i64 0)), none, []⟩] [])
   (.block 0
     (.loop
       (.seq
        (.region false [⟨some 11, .bin .lss (.tmp 10) (.tmp 9), none, []⟩] [])
       (.seq
        (.cond (.tmp 11)
          .skip
          (.exit 0))
       (.seq
        (.block 1
          (.seq
           (.region false [⟨some 12, .iadS 1 (.tmp 8) (.tmp 10), none, []⟩,
             ⟨some 13, .load1 (.tmp 12), none, []⟩,
             ⟨some 6, .mv (.tmp 13), none, []⟩] [12, 13])
          (.seq
           (.region false [⟨some 14, .mv (.tmp 6), none, []⟩,
             ⟨some 15, .mv (.tmp 1), none, []⟩,
             ⟨some 16, .call (.func 78) [(.tmp 14), (.tmp 15)], none, []⟩] [14, 15])
          (.block 2
            (.rangeFunc (.tmp 16) [17] [(7, 17)] cspans_rest_B17)))))
       (.region false [⟨some 22, .bin .add (.tmp 10) (.const (.int .i64 1)), none, []⟩,
         ⟨some 10, .mv (.tmp 22), none, []⟩] [22])))))))
  (.seq
   (.region false [⟨some 23, .load1 (.tmp 4), none, []⟩,
     ⟨none, .store 1 (.tmp 4) (.tmp 23), none, []⟩] [23])
  .ret)))
set_option maxRecDepth 100000 in
theorem kspans_rest : IsCode Try.prog 40 24 cspans_rest [.cell1 4] :=
  ⟨Try.f40, _, [17, 16, 11, 0, 10, 9, 8, 6, 1, 4, 7], Try.func40, rfl, by decide, rfl, by kernel_rfl, by kernel_rfl⟩
/-- slices_Clone_Lapi_Box_Kapi_Span_J -/
def cslices_Clone_Lapi_Box_Kapi_Span_J : ACode :=
  (.seq
   (.region false [⟨some 2, .mv (.const (.slice none 0 0)), none, []⟩] [])
  (.seq
   (.seq
    (.region false [⟨some 3, .mv (.tmp 0), none, []⟩,
      ⟨some 4, .eqn false (.tmp 3) (.const (.slice none 0 0)), none, []⟩] [3])
   (.cond (.tmp 4)
     (.seq
      (.region false [⟨some 2, .mv (.const (.slice none 0 0)), none, []⟩] [])
     .ret)
     .skip))
  (.seq
   (.region false [⟨some 5, .buildSl 2 0 [] [], none, []⟩,
     ⟨some 6, .mv (.tmp 0), none, []⟩,
     ⟨some 7, .app 2 16 (.tmp 5) (.tmp 6), none, []⟩,
     ⟨some 2, .mv (.tmp 7), none, []⟩] [5, 6, 7])
  .ret)))
set_option maxRecDepth 100000 in
theorem kslices_Clone_Lapi_Box_Kapi_Span_J : IsCode Try.prog 116 8 cslices_Clone_Lapi_Box_Kapi_Span_J [.tmp 2] :=
  ⟨Try.f116, _, [4, 0, 2], Try.func116, rfl, by decide, rfl, by kernel_rfl, by kernel_rfl⟩
/-- spans_Check -/
def cspans_Check : ACode :=
  (.seq
   (.region false [⟨some 2, .mv (.const (.int .i64 0)), none, []⟩] [])
  (.seq
   (.seq
    (.region false [⟨some 3, .mv (.tmp 0), none, []⟩,
      ⟨some 4, .len_ (.tmp 3), none, []⟩,
      ⟨some 5, .call (.func 74) [(.tmp 4), (.const (.int .i64 1)), (.const (.int .i64 3))], none, []⟩,
      ⟨some 6, .un .not (.tmp 5), none, []⟩] [3, 4, 5])
   (.cond (.tmp 6)
     (.seq
      (.region false [⟨some 2, .mv (.const (.int .i64 10)), none, []⟩] [])
     .ret)
     .skip))
  (.seq
   (.region false [⟨some 7, .mv (.tmp 0), none, []⟩,
     ⟨some 8, .call (.func 44) [(.tmp 7)], none, []⟩,
     ⟨some 2, .mv (.tmp 8), none, []⟩] [7, 8])
  .ret)))
set_option maxRecDepth 100000 in
theorem kspans_Check : IsCode Try.prog 77 9 cspans_Check [.tmp 2] :=
  ⟨Try.f77, _, [6, 0, 2], Try.func77, rfl, by decide, rfl, by kernel_rfl, by kernel_rfl⟩
/-- spans_spanned -/
def cspans_spanned : ACode :=
  (.seq
   (.region false [⟨some 2, .mv (.const (.int .i64 0)), none, []⟩] [])
  (.seq
   (.seq
    (.region false [⟨some 3, .mv (.tmp 0), none, []⟩,
      ⟨some 4, .call (.func 80) [(.tmp 3), (.func 81)], none, []⟩] [3])
   (.cond (.tmp 4)
     (.seq
      (.region false [⟨some 2, .mv (.const (.int .i64 10)), none, []⟩] [])
     .ret)
     .skip))
  (.seq
   (.region false [⟨some 2, .mv (.const (.int .i64 0)), none, []⟩] [])
  .ret)))
set_option maxRecDepth 100000 in
theorem kspans_spanned : IsCode Try.prog 44 5 cspans_spanned [.tmp 2] :=
  ⟨Try.f44, _, [4, 0, 2], Try.func44, rfl, by decide, rfl, by kernel_rfl, by kernel_rfl⟩
/-- spans_spanned_S1 -/
def cspans_spanned_S1 : ACode :=
  (.seq
   (.region false [⟨some 1, .box (.tmp 0), none, []⟩,
     ⟨some 2, .mv (.const (.bool false)), none, []⟩] [])
  (.seq
   (.region false [⟨some 3, .loadN 2 (.tmp 1), none, []⟩,
     ⟨some 4, .call (.func 82) [(.tmp 3)], none, []⟩,
     ⟨some 5, .un .not (.tmp 4), none, []⟩,
     ⟨some 2, .mv (.tmp 5), none, []⟩] [3, 4, 5])
  .ret))
set_option maxRecDepth 100000 in
theorem kspans_spanned_S1 : IsCode Try.prog 81 6 cspans_spanned_S1 [.tmp 2] :=
  ⟨Try.f81, _, [0, 1, 2], Try.func81, rfl, by decide, rfl, by kernel_rfl, by kernel_rfl⟩
/-- slices_ContainsFunc_L_L_Japi_Span_Kapi_Span_J -/
def cslices_ContainsFunc_L_L_Japi_Span_Kapi_Span_J : ACode :=
  (.seq
   (.region false [⟨some 4, .mv (.const (.bool false)), none, []⟩] [])
  (.seq
   (.region false [⟨some 5, .mv (.tmp 0), none, []⟩,
     ⟨some 6, .mv (.tmp 1), none, []⟩,
     ⟨some 7, .call (.func 118) [(.tmp 5), (.tmp 6)], none, []⟩,
     ⟨some 8, .bin .geq (.tmp 7) (.const (.int .i64 0)), none, []⟩,
     ⟨some 4, .mv (.tmp 8), none, []⟩] [5, 6, 7, 8])
  .ret))
set_option maxRecDepth 100000 in
theorem kslices_ContainsFunc_L_L_Japi_Span_Kapi_Span_J : IsCode Try.prog 80 9 cslices_ContainsFunc_L_L_Japi_Span_Kapi_Span_J [.tmp 4] :=
  ⟨Try.f80, _, [0, 1, 4], Try.func80, rfl, by decide, rfl, by kernel_rfl, by kernel_rfl⟩
/-- slices_IndexFunc_L_L_Japi_Span_Kapi_Span_J -/
def cslices_IndexFunc_L_L_Japi_Span_Kapi_Span_J : ACode :=
  (.seq
   (.region false [⟨some 4, .mv (.const (.int .i64 0)), none, []⟩] [])
  (.seq
   (.seq
    (.region false [⟨some 6, .mv (.tmp 0), none, []⟩,
      ⟨some 7, .len_ (.tmp 6), none, []⟩,
      ⟨some 8, .mv (.const (.int .i64 0)), none, []⟩] [6])
   (.block 0
     (.loop
       (.seq
        (.region false [⟨some 9, .bin .lss (.tmp 8) (.tmp 7), none, []⟩] [])
       (.seq
        (.cond (.tmp 9)
          .skip
          (.exit 0))
       (.seq
        (.block 1
          (.seq
           (.region false [⟨some 10, .mv (.tmp 8), none, []⟩,
             ⟨some 5, .mv (.tmp 10), none, []⟩] [10])
          (.seq
           (.region false [⟨some 11, .mv (.tmp 1), none, []⟩,
             ⟨some 12, .mv (.tmp 0), none, []⟩,
             ⟨some 13, .mv (.tmp 5), none, []⟩,
             ⟨some 14, .iadS 2 (.tmp 12) (.tmp 13), none, []⟩,
             ⟨some 15, .loadN 2 (.tmp 14), none, []⟩,
             ⟨some 16, .call (.tmp 11) [(.tmp 15)], none, []⟩] [11, 12, 13, 14, 15])
          (.cond (.tmp 16)
            (.seq
             (.region false [⟨some 17, .mv (.tmp 5), none, []⟩,
               ⟨some 4, .mv (.tmp 17), none, []⟩] [17])
            .ret)
            .skip))))
       (.region false [⟨some 18, .bin .add (.tmp 8) (.const (.int .i64 1)), none, []⟩,
         ⟨some 8, .mv (.tmp 18), none, []⟩] [18])))))))
  (.seq
   (.region false [⟨some 4, .mv (.const (.int .i64 (-1))), none, []⟩] [])
  .ret)))
set_option maxRecDepth 100000 in
theorem kslices_IndexFunc_L_L_Japi_Span_Kapi_Span_J : IsCode Try.prog 118 19 cslices_IndexFunc_L_L_Japi_Span_Kapi_Span_J [.tmp 4] :=
  ⟨Try.f118, _, [16, 9, 0, 8, 7, 1, 5, 4], Try.func118, rfl, by decide, rfl, by kernel_rfl, by kernel_rfl⟩
/-- spans_valid -/
def cspans_valid : ACode :=
  (.seq
   (.region false [⟨some 1, .box (.tmp 0), none, []⟩,
     ⟨some 2, .mv (.const (.bool false)), none, []⟩] [])
  (.seq
   (.region false [⟨some 3, .fad 0 (.tmp 1), none, []⟩,
     ⟨some 4, .load1 (.tmp 3), none, []⟩,
     ⟨some 5, .fad 1 (.tmp 1), none, []⟩,
     ⟨some 6, .load1 (.tmp 5), none, []⟩,
     ⟨some 7, .call (.func 74) [(.tmp 4), (.const (.int .i64 (-1000000))), (.tmp 6)], none, []⟩,
     ⟨some 8, .mv (.tmp 7), none, []⟩,
     ⟨some 9, .fad 1 (.tmp 1), (some (some 8, true)), []⟩,
     ⟨some 10, .load1 (.tmp 9), (some (some 8, true)), []⟩,
     ⟨some 11, .bin .leq (.tmp 10) (.const (.int .i64 1000000)), (some (some 8, true)), []⟩,
     ⟨some 12, .pick (.tmp 8) (.tmp 11) (.const (.bool false)), none, []⟩,
     ⟨some 2, .mv (.tmp 12), none, []⟩] [3, 4, 5, 6, 7, 8, 9, 10, 11, 12])
  .ret))
set_option maxRecDepth 100000 in
theorem kspans_valid : IsCode Try.prog 82 13 cspans_valid [.tmp 2] :=
  ⟨Try.f82, _, [0, 1, 2], Try.func82, rfl, by decide, rfl, by kernel_rfl, by kernel_rfl⟩
/-- spans_within -/
def cspans_within : ACode :=
  (.seq
   (.region false [⟨some 6, .mv (.const (.bool false)), none, []⟩] [])
  (.seq
   (.region false [⟨some 7, .mv (.tmp 0), none, []⟩,
     ⟨some 8, .mv (.tmp 1), none, []⟩,
     ⟨some 9, .bin .geq (.tmp 7) (.tmp 8), none, []⟩,
     ⟨some 10, .mv (.tmp 9), none, []⟩,
     ⟨some 11, .mv (.tmp 0), (some (some 10, true)), []⟩,
     ⟨some 12, .mv (.tmp 2), (some (some 10, true)), []⟩,
     ⟨some 13, .bin .leq (.tmp 11) (.tmp 12), (some (some 10, true)), []⟩,
     ⟨some 14, .pick (.tmp 10) (.tmp 13) (.const (.bool false)), none, []⟩,
     ⟨some 6, .mv (.tmp 14), none, []⟩] [7, 8, 9, 10, 11, 12, 13, 14])
  .ret))
set_option maxRecDepth 100000 in
theorem kspans_within : IsCode Try.prog 74 15 cspans_within [.tmp 6] :=
  ⟨Try.f74, _, [0, 1, 2, 6], Try.func74, rfl, by decide, rfl, by kernel_rfl, by kernel_rfl⟩
end Go.Proofs.Ytgibbaadjbohdaa
/- Lists of numbers, rows and spans as abstract values. No conditions. -/
namespace Go.Proofs.Ytgibbaadjbohdaa
open Go.RowKit Lift

def dI (n : Int) : D := .val (.int .i64 n)
def dB (b : Bool) : D := .val (.bool b)
def ints (l : List Int) : List (List D) := l.map fun n => [.val (.int .i64 n)]
def rows (l : List (List Int)) : List (List D) := l.map fun r => [.list (ints r)]
def tabD (xs ys : List Int) (vs : List (List Int)) : D := .agg [.list (ints xs), .list (ints ys), .list (rows vs)]
def spD (x : Int × Int) : D := .agg [.val (.int .i64 x.1), .val (.int .i64 x.2)]
theorem ints_len (l : List Int) : (ints l).length = l.length := by simp [ints]
theorem rows_len (l : List (List Int)) : (rows l).length = l.length := by simp [rows]
theorem ints_get (l : List Int) (k : Nat) (h : k < (ints l).length) : (ints l)[k] = [.val (.int .i64 (l[k]?.getD 0))] := by
  have h' : k < l.length := by simpa [ints] using h
  simp [ints, h']
theorem rows_get (l : List (List Int)) (k : Nat) (h : k < (rows l).length) : (rows l)[k] = [.list (ints (l[k]?.getD []))] := by
  have h' : k < l.length := by simpa [rows] using h
  simp [rows, h']
theorem ints_all (l : List Int) : (ints l).all (fun x => x.length == 1) = true := by simp [ints]
def icells (l : List Int) : List D := l.map fun n => .val (.int .i64 n)
def rcells (l : List (List Int)) : List D := l.map fun r => .list (ints r)
theorem ints_flat (l : List Int) : (ints l).flatten = icells l := by
  induction l with
  | nil => rfl
  | cons x l ih => simp [ints, icells] at ih ⊢; exact ih
theorem icells_leaf (l : List Int) : (icells l).all D.leaf = true := by simp [icells, D.leaf]
theorem icells_in (l : List Int) : ∀ d ∈ icells l, In (fun _ => False) d := by
  intro d hd; obtain ⟨x, _, rfl⟩ := List.mem_map.1 hd; exact .val _
theorem rcells_in (l : List (List Int)) : ∀ d ∈ rcells l, In (fun _ => False) d := by
  intro d hd; obtain ⟨x, _, rfl⟩ := List.mem_map.1 hd; exact .list _
theorem icells_len (l : List Int) : (icells l).length = l.length := by simp [icells]
theorem ints_one (l : List Int) : ∀ e ∈ ints l, e.length = 1 := by simp [ints]
theorem rows_one (l : List (List Int)) : ∀ e ∈ rows l, e.length = 1 := by simp [rows]
theorem ints_gd (l : List Int) (k : Nat) (h : k < l.length) : (ints l)[k]? = some [.val (.int .i64 (l[k]?.getD 0))] := by simp [ints, h]
end Go.Proofs.Ytgibbaadjbohdaa
/- Boxes as abstract values; what is left of a box without another one. No conditions. -/
namespace Go.Proofs.Ytgibbaadjbohdaa
open Go.RowKit Lift

abbrev Bx := List (Int × Int)
def sps (b : Bx) : List (List D) := b.map fun x => [.val (.int .i64 x.1), .val (.int .i64 x.2)]
def bxs (l : List Bx) : List (List D) := l.map fun b => [.list (sps b)]
def scells : Bx → List D
  | [] => []
  | x :: b => .val (.int .i64 x.1) :: .val (.int .i64 x.2) :: scells b
def bcells (l : List Bx) : List D := l.map fun b => .list (sps b)
def lo (b : Bx) (k : Nat) : Int := (b[k]?.getD (0, 0)).1
def hi (b : Bx) (k : Nat) : Int := (b[k]?.getD (0, 0)).2
theorem sps_len (b : Bx) : (sps b).length = b.length := by simp [sps]
theorem bxs_len (l : List Bx) : (bxs l).length = l.length := by simp [bxs]
theorem sps_all (b : Bx) : (sps b).all (fun x => x.length == 2) = true := by simp [sps]
theorem bxs_all (l : List Bx) : (bxs l).all (fun x => x.length == 1) = true := by simp [bxs]
theorem sps_two (b : Bx) : ∀ e ∈ sps b, e.length = 2 := by intro e he; obtain ⟨x, _, rfl⟩ := List.mem_map.1 he; rfl
theorem bxs_one (l : List Bx) : ∀ e ∈ bxs l, e.length = 1 := by simp [bxs]
theorem sps_flat (b : Bx) : (sps b).flatten = scells b := by
  induction b with
  | nil => rfl
  | cons x b ih => simp [sps, scells] at ih ⊢; exact ih
theorem bxs_flat (l : List Bx) : (bxs l).flatten = bcells l := by
  induction l with
  | nil => rfl
  | cons x l ih => simp [bxs, bcells] at ih ⊢; exact ih
theorem scells_len (b : Bx) : (scells b).length = b.length * 2 := by
  induction b with
  | nil => rfl
  | cons x b ih => simp [scells, ih]; omega
theorem bcells_len (l : List Bx) : (bcells l).length = l.length := by simp [bcells]
theorem scells_mem {b : Bx} : ∀ {d : D}, d ∈ scells b → ∃ n, d = .val (.int .i64 n) := by
  induction b with
  | nil => intro d h; simp [scells] at h
  | cons x b ih =>
    intro d h
    simp only [scells, List.mem_cons] at h
    rcases h with rfl | rfl | h
    · exact ⟨_, rfl⟩
    · exact ⟨_, rfl⟩
    · exact ih h
theorem scells_in (b : Bx) : ∀ d ∈ scells b, In (fun _ => False) d := fun d hd => by obtain ⟨n, rfl⟩ := scells_mem hd; exact .val _
theorem bcells_in (l : List Bx) : ∀ d ∈ bcells l, In (fun _ => False) d := by
  intro d hd; obtain ⟨x, _, rfl⟩ := List.mem_map.1 hd; exact .list _
theorem scells_leaf (b : Bx) : (scells b).all D.leaf = true := List.all_eq_true.2 fun d hd => by obtain ⟨n, rfl⟩ := scells_mem hd; rfl
theorem bcells_leaf (l : List Bx) : (bcells l).all D.leaf = true := by simp [bcells, D.leaf]
theorem scells_noY (b : Bx) : (scells b).all (noY 9) = true := List.all_eq_true.2 fun d hd => by obtain ⟨n, rfl⟩ := scells_mem hd; rfl
theorem bcells_noY (l : List Bx) : (bcells l).all (noY 9) = true := by simp [bcells, noY]
theorem sps_gd (b : Bx) (k : Nat) (h : k < b.length) : (sps b)[k]? = some [.val (.int .i64 (lo b k)), .val (.int .i64 (hi b k))] := by simp [sps, lo, hi, h]
theorem bxs_gd (l : List Bx) (k : Nat) (h : k < l.length) : (bxs l)[k]? = some [.list (sps (l[k]?.getD []))] := by simp [bxs, h]
theorem sc_lo : ∀ (b : Bx) (k : Nat), k < b.length → (scells b)[k * 2]? = some (.val (.int .i64 (lo b k)))
  | [], k, h => by simp at h
  | x :: b, 0, _ => rfl
  | x :: b, k + 1, h => by
    have := sc_lo b k (by simpa using h)
    rw [show (k + 1) * 2 = k * 2 + 1 + 1 by omega]
    simpa [scells, lo] using this
theorem sc_hi : ∀ (b : Bx) (k : Nat), k < b.length → (scells b)[k * 2 + 1]? = some (.val (.int .i64 (hi b k)))
  | [], k, h => by simp at h
  | x :: b, 0, _ => rfl
  | x :: b, k + 1, h => by
    have := sc_hi b k (by simpa using h)
    rw [show (k + 1) * 2 + 1 = k * 2 + 1 + 1 + 1 by omega]
    simpa [scells, hi] using this
theorem splice_cons (x : D) (c : List D) (n : Nat) (l : List D) : splice (x :: c) (n + 1) l = x :: splice c n l := by
  unfold splice
  rw [show n + 1 + l.length = (n + l.length) + 1 by omega]
  simp
theorem sc_set2 : ∀ (b : Bx) (k : Nat) (u v : Int), k < b.length → splice (scells b) (k * 2) [.val (.int .i64 u), .val (.int .i64 v)] = scells (b.set k (u, v))
  | [], k, _, _, h => by simp at h
  | x :: b, 0, u, v, _ => rfl
  | x :: b, k + 1, u, v, h => by
    have := sc_set2 b k u v (by simpa using h)
    rw [show (k + 1) * 2 = k * 2 + 1 + 1 by omega]
    simp only [scells, splice_cons, this, List.set_cons_succ]
theorem sc_setlo : ∀ (b : Bx) (k : Nat) (u : Int), k < b.length → splice (scells b) (k * 2) [.val (.int .i64 u)] = scells (b.set k (u, hi b k))
  | [], k, _, h => by simp at h
  | x :: b, 0, u, _ => rfl
  | x :: b, k + 1, u, h => by
    have := sc_setlo b k u (by simpa using h)
    rw [show (k + 1) * 2 = k * 2 + 1 + 1 by omega]
    simp only [scells, splice_cons, this, List.set_cons_succ]
    rfl
theorem sc_sethi : ∀ (b : Bx) (k : Nat) (v : Int), k < b.length → splice (scells b) (k * 2 + 1) [.val (.int .i64 v)] = scells (b.set k (lo b k, v))
  | [], k, _, h => by simp at h
  | x :: b, 0, v, _ => rfl
  | x :: b, k + 1, v, h => by
    have := sc_sethi b k v (by simpa using h)
    rw [show (k + 1) * 2 + 1 = k * 2 + 1 + 1 + 1 by omega]
    simp only [scells, splice_cons, this, List.set_cons_succ]
    rfl
theorem sc_t2 (b : Bx) (k : Nat) (u v : Int) (h : k < b.length) : (scells b).take (k * 2) ++ [.val (.int .i64 u), .val (.int .i64 v)] ++ (scells b).drop (k * 2 + 2) = scells (b.set k (u, v)) := sc_set2 b k u v h
theorem sc_tlo (b : Bx) (k : Nat) (u : Int) (h : k < b.length) : (scells b).take (k * 2) ++ [.val (.int .i64 u)] ++ (scells b).drop (k * 2 + 1) = scells (b.set k (u, hi b k)) := sc_setlo b k u h
theorem sc_thi (b : Bx) (k : Nat) (v : Int) (h : k < b.length) : (scells b).take (k * 2 + 1) ++ [.val (.int .i64 v)] ++ (scells b).drop (k * 2 + 1 + 1) = scells (b.set k (lo b k, v)) := sc_sethi b k v h
theorem sc_t3 (b : Bx) (k : Nat) (u w v : Int) (h : k < b.length) : (scells (b.set k (u, w))).take (k * 2 + 1) ++ [.val (.int .i64 v)] ++ (scells (b.set k (u, w))).drop (k * 2 + 1 + 1) = scells (b.set k (u, v)) := by
  have h1 := sc_sethi (b.set k (u, w)) k v (by simpa using h)
  have h2 : lo (b.set k (u, w)) k = u := by simp [lo, h]
  rw [h2, List.set_set] at h1
  exact h1
theorem sc_lo2 (b : Bx) (k : Nat) (u v : Int) (h : k < b.length) : (scells (b.set k (u, v)))[k * 2]? = some (.val (.int .i64 u)) := by
  rw [sc_lo _ k (by simpa using h)]; simp [lo, h]
theorem sc_hi2 (b : Bx) (k : Nat) (u v : Int) (h : k < b.length) : (scells (b.set k (u, v)))[k * 2 + 1]? = some (.val (.int .i64 v)) := by
  rw [sc_hi _ k (by simpa using h)]; simp [hi, h]
theorem bcells_app (l : List Bx) (b : Bx) : bcells l ++ [.list (sps b)] = bcells (l ++ [b]) := by simp [bcells]
theorem lo_set (b : Bx) (k : Nat) (u v : Int) (h : k < b.length) : lo (b.set k (u, v)) k = u := by simp [lo, h]
theorem hi_set (b : Bx) (k : Nat) (u v : Int) (h : k < b.length) : hi (b.set k (u, v)) k = v := by simp [hi, h]
theorem lo_set_ne (b : Bx) (k j : Nat) (x : Int × Int) (h : k ≠ j) : lo (b.set k x) j = lo b j := by simp [lo, List.getElem?_set_ne h]
theorem hi_set_ne (b : Bx) (k j : Nat) (x : Int × Int) (h : k ≠ j) : hi (b.set k x) j = hi b j := by simp [hi, List.getElem?_set_ne h]

/-! ### what the functions compute -/
def okS (x : Int × Int) : Bool := decide (-1000000 ≤ x.1) && decide (x.1 ≤ x.2) && decide (x.2 ≤ 1000000)
def boxE (b : Bx) : Int := if 1 ≤ b.length ∧ b.length ≤ 3 ∧ b.all okS = true then 0 else 10
structure OkB (b : Bx) : Prop where
  pos : 1 ≤ b.length
  len : b.length ≤ 3
  low : ∀ k, k < b.length → -1000000 ≤ lo b k
  le : ∀ k, k < b.length → lo b k ≤ hi b k
  high : ∀ k, k < b.length → hi b k ≤ 1000000
theorem boxE_zero {b : Bx} (h : boxE b = 0) : OkB b := by
  unfold boxE at h
  split at h
  · rename_i hc
    obtain ⟨h1, h2, h3⟩ := hc
    have key : ∀ k (hk : k < b.length), -1000000 ≤ lo b k ∧ lo b k ≤ hi b k ∧ hi b k ≤ 1000000 := fun k hk => by
      have := List.all_eq_true.1 h3 b[k] (List.getElem_mem hk)
      simp only [okS, Bool.and_eq_true, decide_eq_true_eq] at this
      simp only [lo, hi, hk, List.getElem?_eq_getElem, Option.getD_some]
      exact ⟨this.1.1, this.1.2, this.2⟩
    exact ⟨h1, h2, fun k hk => (key k hk).1, fun k hk => (key k hk).2.1, fun k hk => (key k hk).2.2⟩
  · omega
theorem boxE_two (b : Bx) : boxE b = 0 ∨ boxE b = 10 := by unfold boxE; split <;> simp
/-- at dimension d: the part below, the part above, what goes on -/
def pLow (l b : Bx) (d : Nat) : Int × Int := (lo l d, if lo b d - 1 < hi l d then lo b d - 1 else hi l d)
def pHigh (l b : Bx) (d : Nat) : Int × Int := (if hi b d + 1 > lo l d then hi b d + 1 else lo l d, hi l d)
def pMid (l b : Bx) (d : Nat) : Int × Int := (if lo b d > lo l d then lo b d else lo l d, if hi b d < hi l d then hi b d else hi l d)
def cut1 (l : Bx) (d : Nat) (x : Int × Int) : List Bx := if x.1 > x.2 then [] else [l.set d x]
def mnGo (b : Bx) : Nat → Bx → Nat → List Bx
  | 0, _, _ => []
  | n + 1, l, d => (cut1 l d (pLow l b d) ++ cut1 l d (pHigh l b d)) ++ (if (pMid l b d).1 > (pMid l b d).2 then [] else mnGo b n (l.set d (pMid l b d)) (d + 1))
def mnL (a b : Bx) : List Bx := mnGo b a.length a 0
end Go.Proofs.Ytgibbaadjbohdaa
