/- Texts of the law SpansInside, part 3. No conditions. -/
import Derived.Test.YtfaiogajaaclcaaPSpansInside02
import Derived.Test.YtfaiogajaaclcaaRows
import Derived.WalkKit
import Derived.WalkSpells
import Derived.WalkLawsBesides
import Derived.Deep.QuietTactic
import Derived.BigQuiet
import Derived.Lib.Hide
import Derived.Deep.RegionHeld3
import Derived.Laws.EntriesVeiled
import Derived.StillTailTactics
/- The functions' bodies, translated. Written by a program; no conditions. -/
namespace Go.Proofs.Ytfaiogajaaclcaa
open Go.RowKit Lift

/-- law01_SpansInside -/
def claw01_SpansInside : ACode :=
  (.seq
   (.region false [⟨some 2, .box (.tmp 0), none, []⟩,
     ⟨some 3, .box (.tmp 1), none, []⟩,
     ⟨some 4, .mv (.const (.bool false)), none, []⟩] [])
  (.seq
   (.seq
    (.region false [⟨some 23, .loadN 3 (.tmp 2), none, []⟩,
      ⟨some 24, .call (.func 17) [(.tmp 23)], none, []⟩,
      ⟨some 25, .mv (.tmp 24), none, []⟩,
      ⟨some 26, .loadN 3 (.tmp 2), (some (some 25, false)), []⟩,
      ⟨some 27, .fad 0 (.tmp 3), (some (some 25, false)), []⟩,
      ⟨some 28, .fad 0 (.tmp 27), (some (some 25, false)), []⟩,
      ⟨some 29, .loadN 2 (.tmp 28), (some (some 25, false)), []⟩,
      ⟨some 30, .fad 0 (.tmp 3), (some (some 25, false)), []⟩,
      ⟨some 31, .fad 2 (.tmp 30), (some (some 25, false)), []⟩,
      ⟨some 32, .loadN 2 (.tmp 31), (some (some 25, false)), []⟩,
      ⟨some 33, .call (.func 41) [(.tmp 26), (.tmp 29), (.tmp 32)], (some (some 25, false)), []⟩,
      ⟨some 34, .bin .neq (.tmp 33) (.const (.int .i64 0)), (some (some 25, false)), []⟩,
      ⟨some 35, .pick (.tmp 25) (.const (.bool true)) (.tmp 34), none, []⟩] [23, 24, 25, 26, 27, 28, 29, 30, 31, 32, 33, 34])
   (.cond (.tmp 35)
     (.seq
      (.region false [⟨some 36, .call (.func 19) [], none, []⟩,
        ⟨some 4, .mv (.tmp 36), none, []⟩] [36])
     .ret)
     .skip))
  (.seq
   (.region false [⟨some 37, .loadN 3 (.tmp 2), none, []⟩,
     ⟨some 38, .call (.func 21) [(.tmp 37)], none, []⟩,
     ⟨some 5, .mem [(.val (.slice none 0 0)), (.val (.slice none 0 0)), (.val (.slice none 0 0))], none, []⟩,
     ⟨none, .store 3 (.tmp 5) (.tmp 38), none, []⟩] [37, 38])
  (.seq
   (.region false [⟨some 40, .loadN 3 (.tmp 5), none, []⟩,
     ⟨some 41, .fad 0 (.tmp 3), none, []⟩,
     ⟨some 42, .fad 0 (.tmp 41), none, []⟩,
     ⟨some 43, .loadN 2 (.tmp 42), none, []⟩,
     ⟨some 44, .fad 0 (.tmp 3), none, []⟩,
     ⟨some 45, .fad 2 (.tmp 44), none, []⟩,
     ⟨some 46, .loadN 2 (.tmp 45), none, []⟩,
     ⟨some 47, .call (.func 27) [(.tmp 40), (.tmp 43), (.tmp 46)], none, []⟩,
     ⟨some 39, .mv (.tmp 47), none, []⟩,
     ⟨some 48, .ext (.tmp 39) 0, none, []⟩,
     ⟨some 49, .ext (.tmp 39) 1, none, []⟩,
     ⟨some 6, .mem [(.val (.int .i64 0)), (.val (.int .i64 0))], none, []⟩,
     ⟨none, .store 2 (.tmp 6) (.tmp 48), none, []⟩,
     ⟨some 7, .mv (.tmp 49), none, []⟩] [40, 41, 42, 43, 44, 45, 46, 47, 39, 48, 49])
  (.seq
   (.region true [⟨some 50, .fad 4 (.tmp 3), none, []⟩,
     ⟨some 51, .iadA 6 1 (.tmp 50) (.const (.int .i64 0)), none, [0]⟩,
     ⟨some 52, .load1 (.tmp 51), none, [1, 0]⟩,
     ⟨some 53, .fad 0 (.tmp 3), none, []⟩,
     ⟨some 54, .fad 0 (.tmp 53), none, [3]⟩,
     ⟨some 55, .loadN 2 (.tmp 54), none, [4, 3]⟩,
     ⟨some 56, .call (.func 42) [(.tmp 52), (.tmp 55)], none, [2, 1, 0, 5, 4, 3]⟩,
     ⟨some 57, .fad 4 (.tmp 3), none, []⟩,
     ⟨some 58, .iadA 6 1 (.tmp 57) (.const (.int .i64 1)), none, [7]⟩,
     ⟨some 59, .load1 (.tmp 58), none, [8, 7]⟩,
     ⟨some 60, .fad 0 (.tmp 3), none, []⟩,
     ⟨some 61, .fad 2 (.tmp 60), none, [10]⟩,
     ⟨some 62, .loadN 2 (.tmp 61), none, [11, 10]⟩,
     ⟨some 63, .call (.func 42) [(.tmp 59), (.tmp 62)], none, [9, 8, 7, 12, 11, 10, 6, 2, 1, 0, 5, 4, 3]⟩,
     ⟨some 8, .mv (.tmp 56), none, [6, 2, 1, 0, 5, 4, 3, 13, 9, 8, 7, 12, 11, 10]⟩,
     ⟨some 9, .mv (.tmp 63), none, [13, 9, 8, 7, 12, 11, 10, 6, 2, 1, 0, 5, 4, 3, 14]⟩] [50, 51, 52, 53, 54, 55, 56, 57, 58, 59, 60, 61, 62, 63])
  (.seq
   (.region false [⟨some 65, .loadN 3 (.tmp 5), none, []⟩,
     ⟨some 66, .mv (.tmp 8), none, []⟩,
     ⟨some 67, .mv (.tmp 9), none, []⟩,
     ⟨some 68, .call (.func 31) [(.tmp 65), (.tmp 66), (.tmp 67)], none, []⟩,
     ⟨some 64, .mv (.tmp 68), none, []⟩,
     ⟨some 69, .ext (.tmp 64) 0, none, []⟩,
     ⟨some 70, .ext (.tmp 64) 1, none, []⟩,
     ⟨some 10, .mem [(.val (.int .i64 0)), (.val (.int .i64 0))], none, []⟩,
     ⟨none, .store 2 (.tmp 10) (.tmp 69), none, []⟩,
     ⟨some 11, .mv (.tmp 70), none, []⟩] [65, 66, 67, 68, 64, 69, 70])
  (.seq
   (.region false [⟨some 72, .loadN 3 (.tmp 5), none, []⟩,
     ⟨some 73, .fad 0 (.tmp 3), none, []⟩,
     ⟨some 74, .fad 0 (.tmp 73), none, []⟩,
     ⟨some 75, .loadN 2 (.tmp 74), none, []⟩,
     ⟨some 76, .fad 0 (.tmp 3), none, []⟩,
     ⟨some 77, .fad 2 (.tmp 76), none, []⟩,
     ⟨some 78, .loadN 2 (.tmp 77), none, []⟩,
     ⟨some 79, .call (.func 29) [(.tmp 72), (.tmp 75), (.tmp 78)], none, []⟩,
     ⟨some 71, .mv (.tmp 79), none, []⟩,
     ⟨some 80, .ext (.tmp 71) 0, none, []⟩,
     ⟨some 81, .ext (.tmp 71) 1, none, []⟩,
     ⟨some 82, .ext (.tmp 71) 2, none, []⟩,
     ⟨some 12, .mv (.tmp 80), none, []⟩,
     ⟨some 13, .mv (.tmp 81), none, []⟩,
     ⟨some 14, .mv (.tmp 82), none, []⟩] [72, 73, 74, 75, 76, 77, 78, 79, 71, 80, 81, 82])
  (.seq
   (.seq
    (.region false [⟨some 83, .mv (.tmp 7), none, []⟩,
      ⟨some 84, .bin .neq (.tmp 83) (.const (.int .i64 0)), none, []⟩,
      ⟨some 85, .mv (.tmp 84), none, []⟩,
      ⟨some 86, .mv (.tmp 11), (some (some 85, false)), []⟩,
      ⟨some 87, .bin .neq (.tmp 86) (.const (.int .i64 0)), (some (some 85, false)), []⟩,
      ⟨some 88, .pick (.tmp 85) (.const (.bool true)) (.tmp 87), none, []⟩,
      ⟨some 89, .mv (.tmp 88), none, []⟩,
      ⟨some 90, .mv (.tmp 14), (some (some 89, false)), []⟩,
      ⟨some 91, .bin .neq (.tmp 90) (.const (.int .i64 0)), (some (some 89, false)), []⟩,
      ⟨some 92, .pick (.tmp 89) (.const (.bool true)) (.tmp 91), none, []⟩,
      ⟨some 93, .mv (.tmp 92), none, []⟩,
      ⟨some 94, .fad 0 (.tmp 10), (some (some 93, false)), []⟩,
      ⟨some 95, .load1 (.tmp 94), (some (some 93, false)), []⟩,
      ⟨some 96, .fad 0 (.tmp 6), (some (some 93, false)), []⟩,
      ⟨some 97, .load1 (.tmp 96), (some (some 93, false)), []⟩,
      ⟨some 98, .bin .lss (.tmp 95) (.tmp 97), (some (some 93, false)), []⟩,
      ⟨some 99, .pick (.tmp 93) (.const (.bool true)) (.tmp 98), none, []⟩,
      ⟨some 100, .mv (.tmp 99), none, []⟩,
      ⟨some 101, .fad 1 (.tmp 10), (some (some 100, false)), []⟩,
      ⟨some 102, .load1 (.tmp 101), (some (some 100, false)), []⟩,
      ⟨some 103, .fad 1 (.tmp 6), (some (some 100, false)), []⟩,
      ⟨some 104, .load1 (.tmp 103), (some (some 100, false)), []⟩,
      ⟨some 105, .bin .gtr (.tmp 102) (.tmp 104), (some (some 100, false)), []⟩,
      ⟨some 106, .pick (.tmp 100) (.const (.bool true)) (.tmp 105), none, []⟩] [83, 84, 85, 86, 87, 88, 89, 90, 91, 92, 93, 94, 95, 96, 97, 98, 99, 100, 101, 102, 103, 104, 105])
   (.cond (.tmp 106)
     (.seq
      (.region false [⟨some 4, .mv (.const (.bool false)), none, []⟩] [])
     .ret)
     .skip))
  (.seq
   (.region false [⟨some 108, .loadN 3 (.tmp 5), none, []⟩,
     ⟨some 109, .mv (.tmp 12), none, []⟩,
     ⟨some 110, .mv (.tmp 13), none, []⟩,
     ⟨some 111, .call (.func 31) [(.tmp 108), (.tmp 109), (.tmp 110)], none, []⟩,
     ⟨some 107, .mv (.tmp 111), none, []⟩,
     ⟨some 112, .ext (.tmp 107) 0, none, []⟩,
     ⟨some 113, .ext (.tmp 107) 1, none, []⟩,
     ⟨some 15, .mem [(.val (.int .i64 0)), (.val (.int .i64 0))], none, []⟩,
     ⟨none, .store 2 (.tmp 15) (.tmp 112), none, []⟩,
     ⟨some 16, .mv (.tmp 113), none, []⟩] [108, 109, 110, 111, 107, 112, 113])
  (.seq
   (.seq
    (.region false [⟨some 114, .mv (.tmp 16), none, []⟩,
      ⟨some 115, .bin .neq (.tmp 114) (.const (.int .i64 0)), none, []⟩,
      ⟨some 116, .mv (.tmp 115), none, []⟩,
      ⟨some 117, .fad 1 (.tmp 15), (some (some 116, false)), []⟩,
      ⟨some 118, .load1 (.tmp 117), (some (some 116, false)), []⟩,
      ⟨some 119, .fad 1 (.tmp 6), (some (some 116, false)), []⟩,
      ⟨some 120, .load1 (.tmp 119), (some (some 116, false)), []⟩,
      ⟨some 121, .bin .neq (.tmp 118) (.tmp 120), (some (some 116, false)), []⟩,
      ⟨some 122, .pick (.tmp 116) (.const (.bool true)) (.tmp 121), none, []⟩,
      ⟨some 123, .mv (.tmp 122), none, []⟩,
      ⟨some 124, .mv (.tmp 12), (some (some 123, false)), []⟩,
      ⟨some 125, .fad 0 (.tmp 3), (some (some 123, false)), []⟩,
      ⟨some 126, .fad 0 (.tmp 125), (some (some 123, false)), []⟩,
      ⟨some 127, .fad 0 (.tmp 126), (some (some 123, false)), []⟩,
      ⟨some 128, .load1 (.tmp 127), (some (some 123, false)), []⟩,
      ⟨some 129, .bin .lss (.tmp 124) (.tmp 128), (some (some 123, false)), []⟩,
      ⟨some 130, .pick (.tmp 123) (.const (.bool true)) (.tmp 129), none, []⟩,
      ⟨some 131, .mv (.tmp 130), none, []⟩,
      ⟨some 132, .mv (.tmp 12), (some (some 131, false)), []⟩,
      ⟨some 133, .fad 0 (.tmp 3), (some (some 131, false)), []⟩,
      ⟨some 134, .fad 0 (.tmp 133), (some (some 131, false)), []⟩,
      ⟨some 135, .fad 1 (.tmp 134), (some (some 131, false)), []⟩,
      ⟨some 136, .load1 (.tmp 135), (some (some 131, false)), []⟩,
      ⟨some 137, .bin .gtr (.tmp 132) (.tmp 136), (some (some 131, false)), []⟩,
      ⟨some 138, .pick (.tmp 131) (.const (.bool true)) (.tmp 137), none, []⟩,
      ⟨some 139, .mv (.tmp 138), none, []⟩,
      ⟨some 140, .mv (.tmp 13), (some (some 139, false)), []⟩,
      ⟨some 141, .fad 0 (.tmp 3), (some (some 139, false)), []⟩,
      ⟨some 142, .fad 2 (.tmp 141), (some (some 139, false)), []⟩,
      ⟨some 143, .fad 0 (.tmp 142), (some (some 139, false)), []⟩,
      ⟨some 144, .load1 (.tmp 143), (some (some 139, false)), []⟩,
      ⟨some 145, .bin .lss (.tmp 140) (.tmp 144), (some (some 139, false)), []⟩,
      ⟨some 146, .pick (.tmp 139) (.const (.bool true)) (.tmp 145), none, []⟩,
      ⟨some 147, .mv (.tmp 146), none, []⟩,
      ⟨some 148, .mv (.tmp 13), (some (some 147, false)), []⟩,
      ⟨some 149, .fad 0 (.tmp 3), (some (some 147, false)), []⟩,
      ⟨some 150, .fad 2 (.tmp 149), (some (some 147, false)), []⟩,
      ⟨some 151, .fad 1 (.tmp 150), (some (some 147, false)), []⟩,
      ⟨some 152, .load1 (.tmp 151), (some (some 147, false)), []⟩,
      ⟨some 153, .bin .gtr (.tmp 148) (.tmp 152), (some (some 147, false)), []⟩,
      ⟨some 154, .pick (.tmp 147) (.const (.bool true)) (.tmp 153), none, []⟩] [114, 115, 116, 117, 118, 119, 120, 121, 122, 123, 124, 125, 126, 127, 128, 129, 130, 131, 132, 133, 134, 135, 136, 137, 138, 139, 140, 141, 142, 143, 144, 145, 146, 147, 148, 149, 150, 151, 152, 153])
   (.cond (.tmp 154)
     (.seq
      (.region false [⟨some 4, .mv (.const (.bool false)), none, []⟩] [])
     .ret)
     .skip))
  (.seq
   (.region true [⟨some 155, .fad 4 (.tmp 3), none, []⟩,
     ⟨some 156, .iadA 6 1 (.tmp 155) (.const (.int .i64 2)), none, [0]⟩,
     ⟨some 157, .load1 (.tmp 156), none, [1, 0]⟩,
     ⟨some 158, .fad 0 (.tmp 3), none, []⟩,
     ⟨some 159, .fad 0 (.tmp 158), none, [3]⟩,
     ⟨some 160, .loadN 2 (.tmp 159), none, [4, 3]⟩,
     ⟨some 161, .call (.func 42) [(.tmp 157), (.tmp 160)], none, [2, 1, 0, 5, 4, 3]⟩,
     ⟨some 162, .fad 4 (.tmp 3), none, []⟩,
     ⟨some 163, .iadA 6 1 (.tmp 162) (.const (.int .i64 3)), none, [7]⟩,
     ⟨some 164, .load1 (.tmp 163), none, [8, 7]⟩,
     ⟨some 165, .fad 0 (.tmp 3), none, []⟩,
     ⟨some 166, .fad 0 (.tmp 165), none, [10]⟩,
     ⟨some 167, .loadN 2 (.tmp 166), none, [11, 10]⟩,
     ⟨some 168, .call (.func 42) [(.tmp 164), (.tmp 167)], none, [9, 8, 7, 12, 11, 10, 6, 2, 1, 0, 5, 4, 3]⟩,
     ⟨some 17, .mv (.tmp 161), none, [6, 2, 1, 0, 5, 4, 3, 13, 9, 8, 7, 12, 11, 10]⟩,
     ⟨some 18, .mv (.tmp 168), none, [13, 9, 8, 7, 12, 11, 10, 6, 2, 1, 0, 5, 4, 3, 14]⟩] [155, 156, 157, 158, 159, 160, 161, 162, 163, 164, 165, 166, 167, 168])
  (.seq
   (.region true [⟨some 169, .fad 4 (.tmp 3), none, []⟩,
     ⟨some 170, .iadA 6 1 (.tmp 169) (.const (.int .i64 4)), none, [0]⟩,
     ⟨some 171, .load1 (.tmp 170), none, [1, 0]⟩,
     ⟨some 172, .fad 0 (.tmp 3), none, []⟩,
     ⟨some 173, .fad 2 (.tmp 172), none, [3]⟩,
     ⟨some 174, .loadN 2 (.tmp 173), none, [4, 3]⟩,
     ⟨some 175, .call (.func 42) [(.tmp 171), (.tmp 174)], none, [2, 1, 0, 5, 4, 3]⟩,
     ⟨some 176, .fad 4 (.tmp 3), none, []⟩,
     ⟨some 177, .iadA 6 1 (.tmp 176) (.const (.int .i64 5)), none, [7]⟩,
     ⟨some 178, .load1 (.tmp 177), none, [8, 7]⟩,
     ⟨some 179, .fad 0 (.tmp 3), none, []⟩,
     ⟨some 180, .fad 2 (.tmp 179), none, [10]⟩,
     ⟨some 181, .loadN 2 (.tmp 180), none, [11, 10]⟩,
     ⟨some 182, .call (.func 42) [(.tmp 178), (.tmp 181)], none, [9, 8, 7, 12, 11, 10, 6, 2, 1, 0, 5, 4, 3]⟩,
     ⟨some 19, .mv (.tmp 175), none, [6, 2, 1, 0, 5, 4, 3, 13, 9, 8, 7, 12, 11, 10]⟩,
     ⟨some 20, .mv (.tmp 182), none, [13, 9, 8, 7, 12, 11, 10, 6, 2, 1, 0, 5, 4, 3, 14]⟩] [169, 170, 171, 172, 173, 174, 175, 176, 177, 178, 179, 180, 181, 182])
  (.seq
   (.region false [⟨some 184, .loadN 3 (.tmp 5), none, []⟩,
     ⟨some 185, .mv (.tmp 17), none, []⟩,
     ⟨some 186, .mv (.tmp 18), none, []⟩,
     ⟨some 187, .mnx false [(.tmp 185), (.tmp 186)], none, []⟩,
     ⟨some 188, .mv (.tmp 17), none, []⟩,
     ⟨some 189, .mv (.tmp 18), none, []⟩,
     ⟨some 190, .mnx true [(.tmp 188), (.tmp 189)], none, []⟩,
     ⟨some 191, .build [(.val (.int .i64 0)), (.val (.int .i64 0))] [(0, 1, (.tmp 187)), (1, 1, (.tmp 190))], none, []⟩,
     ⟨some 192, .mv (.tmp 19), none, []⟩,
     ⟨some 193, .mv (.tmp 20), none, []⟩,
     ⟨some 194, .mnx false [(.tmp 192), (.tmp 193)], none, []⟩,
     ⟨some 195, .mv (.tmp 19), none, []⟩,
     ⟨some 196, .mv (.tmp 20), none, []⟩,
     ⟨some 197, .mnx true [(.tmp 195), (.tmp 196)], none, []⟩,
     ⟨some 198, .build [(.val (.int .i64 0)), (.val (.int .i64 0))] [(0, 1, (.tmp 194)), (1, 1, (.tmp 197))], none, []⟩,
     ⟨some 199, .call (.func 27) [(.tmp 184), (.tmp 191), (.tmp 198)], none, []⟩,
     ⟨some 183, .mv (.tmp 199), none, []⟩,
     ⟨some 200, .ext (.tmp 183) 0, none, []⟩,
     ⟨some 201, .ext (.tmp 183) 1, none, []⟩,
     ⟨some 21, .mem [(.val (.int .i64 0)), (.val (.int .i64 0))], none, []⟩,
     ⟨none, .store 2 (.tmp 21) (.tmp 200), none, []⟩,
     ⟨some 22, .mv (.tmp 201), none, []⟩] [184, 185, 186, 187, 188, 189, 190, 191, 192, 193, 194, 195, 196, 197, 198, 199, 183, 200, 201])
  (.seq
   (.region false [⟨some 202, .mv (.tmp 22), none, []⟩,
     ⟨some 203, .bin .eql (.tmp 202) (.const (.int .i64 0)), none, []⟩,
     ⟨some 204, .mv (.tmp 203), none, []⟩,
     ⟨some 205, .fad 0 (.tmp 21), (some (some 204, true)), []⟩,
     ⟨some 206, .load1 (.tmp 205), (some (some 204, true)), []⟩,
     ⟨some 207, .fad 0 (.tmp 6), (some (some 204, true)), []⟩,
     ⟨some 208, .load1 (.tmp 207), (some (some 204, true)), []⟩,
     ⟨some 209, .bin .geq (.tmp 206) (.tmp 208), (some (some 204, true)), []⟩,
     ⟨some 210, .pick (.tmp 204) (.tmp 209) (.const (.bool false)), none, []⟩,
     ⟨some 211, .mv (.tmp 210), none, []⟩,
     ⟨some 212, .fad 1 (.tmp 21), (some (some 211, true)), []⟩,
     ⟨some 213, .load1 (.tmp 212), (some (some 211, true)), []⟩,
     ⟨some 214, .fad 1 (.tmp 6), (some (some 211, true)), []⟩,
     ⟨some 215, .load1 (.tmp 214), (some (some 211, true)), []⟩,
     ⟨some 216, .bin .leq (.tmp 213) (.tmp 215), (some (some 211, true)), []⟩,
     ⟨some 217, .pick (.tmp 211) (.tmp 216) (.const (.bool false)), none, []⟩,
     ⟨some 218, .mv (.tmp 217), none, []⟩,
     ⟨some 219, .call (.func 19) [], (some (some 218, true)), []⟩,
     ⟨some 220, .pick (.tmp 218) (.tmp 219) (.const (.bool false)), none, []⟩,
     ⟨some 4, .mv (.tmp 220), none, []⟩] [202, 203, 204, 205, 206, 207, 208, 209, 210, 211, 212, 213, 214, 215, 216, 217, 218, 219, 220])
  .ret))))))))))))))
set_option maxRecDepth 100000 in
theorem klaw01_SpansInside : IsCode Try.prog 9 221 claw01_SpansInside [.tmp 4] :=
  ⟨Try.f9, _, [154, 106, 35, 0, 1, 2, 3, 5, 8, 9, 7, 11, 14, 10, 6, 12, 13, 16, 15, 17, 18, 19, 20, 22, 21, 4], Try.func9, rfl, by decide, rfl, by kernel_rfl, by kernel_rfl⟩
end Go.Proofs.Ytfaiogajaaclcaa
/- The functions' bodies, translated. Written by a program; no conditions. -/
namespace Go.Proofs.Ytfaiogajaaclcaa
open Go.RowKit Lift

/-- ref01_Copy -/
def cref01_Copy : ACode :=
  (.seq
   (.region false [⟨some 1, .box (.tmp 0), none, []⟩,
     ⟨some 2, .mem [(.val (.slice none 0 0)), (.val (.slice none 0 0)), (.val (.slice none 0 0))], none, []⟩] [])
  (.seq
   (.region true [⟨some 5, .buildSl 1 0 [] [], none, []⟩,
     ⟨some 6, .fad 0 (.tmp 1), none, []⟩,
     ⟨some 7, .load1 (.tmp 6), none, [1]⟩,
     ⟨some 8, .app 1 8 (.tmp 5) (.tmp 7), none, [0, 2, 1]⟩,
     ⟨some 9, .buildSl 1 0 [] [], none, []⟩,
     ⟨some 10, .fad 1 (.tmp 1), none, []⟩,
     ⟨some 11, .load1 (.tmp 10), none, [5]⟩,
     ⟨some 12, .app 1 8 (.tmp 9) (.tmp 11), none, [4, 6, 5, 3, 0, 2, 1]⟩,
     ⟨some 13, .build [(.val (.slice none 0 0)), (.val (.slice none 0 0)), (.val (.slice none 0 0))] [(0, 1, (.tmp 8)), (1, 1, (.tmp 12))], none, [3, 0, 2, 1, 7, 4, 6, 5]⟩,
     ⟨some 3, .mem [(.val (.slice none 0 0)), (.val (.slice none 0 0)), (.val (.slice none 0 0))], none, []⟩,
     ⟨none, .store 3 (.tmp 3) (.tmp 13), none, [9, 8, 3, 0, 2, 1, 7, 4, 6, 5]⟩] [5, 6, 7, 8, 9, 10, 11, 12, 13])
  (.seq
   (.seq
    (.region false [⟨some 4, .mv (.const (.int .i64 0)), none, []⟩] [])
   (.block 0
     (.loop
       (.seq
        (.seq
         (.region false [⟨some 14, .mv (.tmp 4), none, []⟩,
           ⟨some 15, .fad 2 (.tmp 1), none, []⟩,
           ⟨some 16, .load1 (.tmp 15), none, []⟩,
           ⟨some 17, .len_ (.tmp 16), none, []⟩,
           ⟨some 18, .bin .lss (.tmp 14) (.tmp 17), none, []⟩] [14, 15, 16, 17])
        (.cond (.tmp 18)
          .skip
          (.exit 0)))
       (.seq
        (.block 1
          (.region true [⟨some 21, .fad 2 (.tmp 3), none, []⟩,
            ⟨some 22, .load1 (.tmp 21), none, [0]⟩,
            ⟨some 23, .buildSl 1 0 [] [], none, []⟩,
            ⟨some 24, .fad 2 (.tmp 1), none, []⟩,
            ⟨some 25, .load1 (.tmp 24), none, [3]⟩,
            ⟨some 26, .mv (.tmp 4), none, []⟩,
            ⟨some 27, .iadS 1 (.tmp 25) (.tmp 26), none, [4, 3, 5]⟩,
            ⟨some 28, .load1 (.tmp 27), none, [6, 4, 3, 5]⟩,
            ⟨some 29, .app 1 8 (.tmp 23) (.tmp 28), none, [2, 7, 6, 4, 3, 5]⟩,
            ⟨some 30, .buildSl 1 1 [(.val (.slice none 0 0))] [(0, 1, (.tmp 29))], none, [8, 2, 7, 6, 4, 3, 5]⟩,
            ⟨some 31, .app 1 24 (.tmp 22) (.tmp 30), none, [1, 0, 9, 8, 2, 7, 6, 4, 3, 5]⟩,
            ⟨some 32, .fad 2 (.tmp 3), none, [0, 1, 2, 3, 4, 5, 6, 7, 8, 9, 10]⟩,
            ⟨none, .store 1 (.tmp 32) (.tmp 31), none, [11, 0, 1, 2, 3, 4, 5, 6, 7, 8, 9, 10]⟩] [21, 22, 23, 24, 25, 26, 27, 28, 29, 30, 31, 32]))
       (.region false [⟨some 19, .mv (.tmp 4), none, []⟩,
         ⟨some 20, .bin .add (.tmp 19) (.const (.int .i64 1)), none, []⟩,
         ⟨some 4, .mv (.tmp 20), none, []⟩] [19, 20]))))))
  (.seq
   (.region false [⟨some 33, .loadN 3 (.tmp 3), none, []⟩,
     ⟨none, .store 3 (.tmp 2) (.tmp 33), none, []⟩] [33])
  .ret))))
set_option maxRecDepth 100000 in
theorem kref01_Copy : IsCode Try.prog 21 34 cref01_Copy [.cellN 2 3] :=
  ⟨Try.f21, _, [18, 0, 1, 4, 3, 2], Try.func21, rfl, by decide, rfl, by kernel_rfl, by kernel_rfl⟩
end Go.Proofs.Ytfaiogajaaclcaa
/- Lists of numbers, rows and spans as abstract values. No conditions. -/
namespace Go.Proofs.Ytfaiogajaaclcaa
open Go.RowKit Lift

def dI (n : Int) : D := .val (.int .i64 n)
def dB (b : Bool) : D := .val (.bool b)
def ints (l : List Int) : List (List D) := l.map fun n => [.val (.int .i64 n)]
def rows (l : List (List Int)) : List (List D) := l.map fun r => [.list (ints r)]
def tabD (xs ys : List Int) (vs : List (List Int)) : D := .agg [.list (ints xs), .list (ints ys), .list (rows vs)]
def spD (x : Int × Int) : D := .agg [.val (.int .i64 x.1), .val (.int .i64 x.2)]
theorem ints_len (l : List Int) : (ints l).length = l.length := by simp [ints]
theorem rows_len (l : List (List Int)) : (rows l).length = l.length := by simp [rows]
theorem ints_get (l : List Int) (k : Nat) (h : k < (ints l).length) : (ints l)[k] = [.val (.int .i64 (l[k]?.getD 0))] := by
  have h' : k < l.length := by simpa [ints] using h
  simp [ints, h']
theorem rows_get (l : List (List Int)) (k : Nat) (h : k < (rows l).length) : (rows l)[k] = [.list (ints (l[k]?.getD []))] := by
  have h' : k < l.length := by simpa [rows] using h
  simp [rows, h']
theorem ints_all (l : List Int) : (ints l).all (fun x => x.length == 1) = true := by simp [ints]
theorem rows_all (l : List (List Int)) : (rows l).all (fun x => x.length == 1) = true := by simp [rows]
def icells (l : List Int) : List D := l.map fun n => .val (.int .i64 n)
def rcells (l : List (List Int)) : List D := l.map fun r => .list (ints r)
theorem ints_flat (l : List Int) : (ints l).flatten = icells l := by
  induction l with
  | nil => rfl
  | cons x l ih => simp [ints, icells] at ih ⊢; exact ih
theorem rows_flat (l : List (List Int)) : (rows l).flatten = rcells l := by
  induction l with
  | nil => rfl
  | cons x l ih => simp [rows, rcells] at ih ⊢; exact ih
theorem icells_leaf (l : List Int) : (icells l).all D.leaf = true := by simp [icells, D.leaf]
theorem icells_in (l : List Int) : ∀ d ∈ icells l, In (fun _ => False) d := by
  intro d hd; obtain ⟨x, _, rfl⟩ := List.mem_map.1 hd; exact .val _
theorem rcells_in (l : List (List Int)) : ∀ d ∈ rcells l, In (fun _ => False) d := by
  intro d hd; obtain ⟨x, _, rfl⟩ := List.mem_map.1 hd; exact .list _
theorem rcells_len (l : List (List Int)) : (rcells l).length = l.length := by simp [rcells]
theorem ints_one (l : List Int) : ∀ e ∈ ints l, e.length = 1 := by simp [ints]
theorem rows_one (l : List (List Int)) : ∀ e ∈ rows l, e.length = 1 := by simp [rows]
end Go.Proofs.Ytfaiogajaaclcaa
/- Copy: a new table with the same numbers. -/
set_option linter.unusedSimpArgs false
set_option linter.unusedVariables false
namespace Go.Proofs.Ytfaiogajaaclcaa
open Go.RowKit Lift
set_option maxRecDepth 100000 in
set_option maxHeartbeats 2000000 in
theorem rcopy_ac (xs ys : List Int) (vs : List (List Int)) (hx : xs.length ≤ 15) (hy : ys.length ≤ 15) (hv : vs.length ≤ 15) (hr : ∀ r ∈ vs, r.length ≤ 15) : AC Try.prog 21 [tabD xs ys vs] [] [] (tabD xs ys vs) := by
  refine kref01_Copy.ac (n0 := 0) (by simp) ⟨.agg _ (by intro d hd; simp at hd; rcases hd with rfl | rfl | rfl <;> exact .list _), trivial⟩ trivial rfl ?_
  unfold cref01_Copy tabD
  refine aw_seq (aw_region ?_)
  simp (config := {maxSteps := 10000000}) (disch := first | exact okYes (by kernel_rfl) | omega) only [ARun_nil, ARun_none, ARun_some, ARun_skip, AOpRun, AGo_f, AGo_ok, AG_tt, AG_ff, AG_tf, AG_ft, AG_un, aexec, run1, asI, elems, base, opt1, fillD, splice, abin, ash, isSh, foldI, mn2, mx2, ↓eget_h, eget_c, eget_n, eput_c, eput_n, putO, ↓hget_h, hget_c, hget_n, hput_c, hput_n, hdel_c, hdel_n, hups, cond_true, cond_false,  ups, St.F, St.app, FSt.ev, dropE_c, dropE_n, inL_c, inL_n, envOf, thenQ, blockQ, D.isBot, D.isAgg, D.cells, D.leaf, scalarEq, eqCells, isB, Option.map, List.map, List.length, List.all, List.append, List.take, List.drop, List.cons_append, List.nil_append, List.append_nil, Option.isSome, List.getElem?_cons_zero, List.getElem?_cons_succ, if_true, if_false, true_and, and_true, Bool.not_true, Bool.not_false, Bool.true_or, Bool.false_or, Bool.or_true, Bool.or_false, Bool.false_eq_true, ↓reduceIte, Nat.reduceAdd, Nat.reduceMul, Nat.reduceEqDiff, Nat.reduceBEq, Nat.reduceSub, Nat.zero_add, Nat.reduceLeDiff, Nat.reduceGT, Nat.reduceLT, Nat.reduceBNe, okLog_f, reduceCtorEq, or_self, or_false, false_or, or_true, true_or, and_self, and_false, false_and, not_true_eq_false, not_false_eq_true, ne_eq, Bool.and_true, Bool.true_and, Bool.and_false, Bool.false_and, decide_eq_true_eq, decide_true, decide_false, Int.reduceBEq, Int.reduceBNe, Int.reduceLT, Int.reduceLE, Int.reduceAdd, Int.reduceSub, Int.reduceMul, Int.reduceNeg, Int.reduceEq, Int.toNat_zero, Int.reduceToNat, Int.zero_lt_one, Nat.zero_le, Int.le_refl, beq_self_eq_true, bne_self_eq_false, cast_lit, fits, wrap_in, Int.toNat_natCast, Int.natCast_nonneg]
  refine aw_seq (aw_region ?_)
  simp (config := {maxSteps := 10000000}) (disch := first | exact okYes (by kernel_rfl) | omega) only [ARun_nil, ARun_none, ARun_some, ARun_skip, AOpRun, AGo_f, AGo_ok, AG_tt, AG_ff, AG_tf, AG_ft, AG_un, aexec, run1, asI, elems, base, opt1, fillD, splice, abin, ash, isSh, foldI, mn2, mx2, ↓eget_h, eget_c, eget_n, eput_c, eput_n, putO, ↓hget_h, hget_c, hget_n, hput_c, hput_n, hdel_c, hdel_n, hups, cond_true, cond_false,  ups, St.F, St.app, FSt.ev, dropE_c, dropE_n, inL_c, inL_n, envOf, thenQ, blockQ, D.isBot, D.isAgg, D.cells, D.leaf, scalarEq, eqCells, isB, Option.map, List.map, List.length, List.all, List.append, List.take, List.drop, List.cons_append, List.nil_append, List.append_nil, Option.isSome, List.getElem?_cons_zero, List.getElem?_cons_succ, if_true, if_false, true_and, and_true, Bool.not_true, Bool.not_false, Bool.true_or, Bool.false_or, Bool.or_true, Bool.or_false, Bool.false_eq_true, ↓reduceIte, Nat.reduceAdd, Nat.reduceMul, Nat.reduceEqDiff, Nat.reduceBEq, Nat.reduceSub, Nat.zero_add, Nat.reduceLeDiff, Nat.reduceGT, Nat.reduceLT, Nat.reduceBNe, okLog_f, reduceCtorEq, or_self, or_false, false_or, or_true, true_or, and_self, and_false, false_and, not_true_eq_false, not_false_eq_true, ne_eq, Bool.and_true, Bool.true_and, Bool.and_false, Bool.false_and, decide_eq_true_eq, decide_true, decide_false, Int.reduceBEq, Int.reduceBNe, Int.reduceLT, Int.reduceLE, Int.reduceAdd, Int.reduceSub, Int.reduceMul, Int.reduceNeg, Int.reduceEq, Int.toNat_zero, Int.reduceToNat, Int.zero_lt_one, Nat.zero_le, Int.le_refl, beq_self_eq_true, bne_self_eq_false, cast_lit, fits, wrap_in, Int.toNat_natCast, Int.natCast_nonneg, ints_len, ints_all, ints_flat, icells_leaf]
  refine ago_if (by omega) ?_
  simp (config := {maxSteps := 10000000}) (disch := first | exact okYes (by kernel_rfl) | omega) only [ARun_nil, ARun_none, ARun_some, ARun_skip, AOpRun, AGo_f, AGo_ok, AG_tt, AG_ff, AG_tf, AG_ft, AG_un, aexec, run1, asI, elems, base, opt1, fillD, splice, abin, ash, isSh, foldI, mn2, mx2, ↓eget_h, eget_c, eget_n, eput_c, eput_n, putO, ↓hget_h, hget_c, hget_n, hput_c, hput_n, hdel_c, hdel_n, hups, cond_true, cond_false,  ups, St.F, St.app, FSt.ev, dropE_c, dropE_n, inL_c, inL_n, envOf, thenQ, blockQ, D.isBot, D.isAgg, D.cells, D.leaf, scalarEq, eqCells, isB, Option.map, List.map, List.length, List.all, List.append, List.take, List.drop, List.cons_append, List.nil_append, List.append_nil, Option.isSome, List.getElem?_cons_zero, List.getElem?_cons_succ, if_true, if_false, true_and, and_true, Bool.not_true, Bool.not_false, Bool.true_or, Bool.false_or, Bool.or_true, Bool.or_false, Bool.false_eq_true, ↓reduceIte, Nat.reduceAdd, Nat.reduceMul, Nat.reduceEqDiff, Nat.reduceBEq, Nat.reduceSub, Nat.zero_add, Nat.reduceLeDiff, Nat.reduceGT, Nat.reduceLT, Nat.reduceBNe, okLog_f, reduceCtorEq, or_self, or_false, false_or, or_true, true_or, and_self, and_false, false_and, not_true_eq_false, not_false_eq_true, ne_eq, Bool.and_true, Bool.true_and, Bool.and_false, Bool.false_and, decide_eq_true_eq, decide_true, decide_false, Int.reduceBEq, Int.reduceBNe, Int.reduceLT, Int.reduceLE, Int.reduceAdd, Int.reduceSub, Int.reduceMul, Int.reduceNeg, Int.reduceEq, Int.toNat_zero, Int.reduceToNat, Int.zero_lt_one, Nat.zero_le, Int.le_refl, beq_self_eq_true, bne_self_eq_false, cast_lit, fits, wrap_in, Int.toNat_natCast, Int.natCast_nonneg, ints_len, ints_all, ints_flat, icells_leaf]
  refine ago_if (by omega) ?_
  simp (config := {maxSteps := 10000000}) (disch := first | exact okYes (by kernel_rfl) | omega) only [ARun_nil, ARun_none, ARun_some, ARun_skip, AOpRun, AGo_f, AGo_ok, AG_tt, AG_ff, AG_tf, AG_ft, AG_un, aexec, run1, asI, elems, base, opt1, fillD, splice, abin, ash, isSh, foldI, mn2, mx2, ↓eget_h, eget_c, eget_n, eput_c, eput_n, putO, ↓hget_h, hget_c, hget_n, hput_c, hput_n, hdel_c, hdel_n, hups, cond_true, cond_false,  ups, St.F, St.app, FSt.ev, dropE_c, dropE_n, inL_c, inL_n, envOf, thenQ, blockQ, D.isBot, D.isAgg, D.cells, D.leaf, scalarEq, eqCells, isB, Option.map, List.map, List.length, List.all, List.append, List.take, List.drop, List.cons_append, List.nil_append, List.append_nil, Option.isSome, List.getElem?_cons_zero, List.getElem?_cons_succ, if_true, if_false, true_and, and_true, Bool.not_true, Bool.not_false, Bool.true_or, Bool.false_or, Bool.or_true, Bool.or_false, Bool.false_eq_true, ↓reduceIte, Nat.reduceAdd, Nat.reduceMul, Nat.reduceEqDiff, Nat.reduceBEq, Nat.reduceSub, Nat.zero_add, Nat.reduceLeDiff, Nat.reduceGT, Nat.reduceLT, Nat.reduceBNe, okLog_f, reduceCtorEq, or_self, or_false, false_or, or_true, true_or, and_self, and_false, false_and, not_true_eq_false, not_false_eq_true, ne_eq, Bool.and_true, Bool.true_and, Bool.and_false, Bool.false_and, decide_eq_true_eq, decide_true, decide_false, Int.reduceBEq, Int.reduceBNe, Int.reduceLT, Int.reduceLE, Int.reduceAdd, Int.reduceSub, Int.reduceMul, Int.reduceNeg, Int.reduceEq, Int.toNat_zero, Int.reduceToNat, Int.zero_lt_one, Nat.zero_le, Int.le_refl, beq_self_eq_true, bne_self_eq_false, cast_lit, fits, wrap_in, Int.toNat_natCast, Int.natCast_nonneg]
  refine aw_seq (aw_seq (aw_region ?_))
  simp (config := {maxSteps := 10000000}) (disch := first | exact okYes (by kernel_rfl) | omega) only [ARun_nil, ARun_none, ARun_some, ARun_skip, AOpRun, AGo_f, AGo_ok, AG_tt, AG_ff, AG_tf, AG_ft, AG_un, aexec, run1, asI, elems, base, opt1, fillD, splice, abin, ash, isSh, foldI, mn2, mx2, ↓eget_h, eget_c, eget_n, eput_c, eput_n, putO, ↓hget_h, hget_c, hget_n, hput_c, hput_n, hdel_c, hdel_n, hups, cond_true, cond_false,  ups, St.F, St.app, FSt.ev, dropE_c, dropE_n, inL_c, inL_n, envOf, thenQ, blockQ, D.isBot, D.isAgg, D.cells, D.leaf, scalarEq, eqCells, isB, Option.map, List.map, List.length, List.all, List.append, List.take, List.drop, List.cons_append, List.nil_append, List.append_nil, Option.isSome, List.getElem?_cons_zero, List.getElem?_cons_succ, if_true, if_false, true_and, and_true, Bool.not_true, Bool.not_false, Bool.true_or, Bool.false_or, Bool.or_true, Bool.or_false, Bool.false_eq_true, ↓reduceIte, Nat.reduceAdd, Nat.reduceMul, Nat.reduceEqDiff, Nat.reduceBEq, Nat.reduceSub, Nat.zero_add, Nat.reduceLeDiff, Nat.reduceGT, Nat.reduceLT, Nat.reduceBNe, okLog_f, reduceCtorEq, or_self, or_false, false_or, or_true, true_or, and_self, and_false, false_and, not_true_eq_false, not_false_eq_true, ne_eq, Bool.and_true, Bool.true_and, Bool.and_false, Bool.false_and, decide_eq_true_eq, decide_true, decide_false, Int.reduceBEq, Int.reduceBNe, Int.reduceLT, Int.reduceLE, Int.reduceAdd, Int.reduceSub, Int.reduceMul, Int.reduceNeg, Int.reduceEq, Int.toNat_zero, Int.reduceToNat, Int.zero_lt_one, Nat.zero_le, Int.le_refl, beq_self_eq_true, bne_self_eq_false, cast_lit, fits, wrap_in, Int.toNat_natCast, Int.natCast_nonneg]
  refine aw_block (aw_loop (fun k : Nat => ⟨[(1, .ptr 0 0), (2, .ptr 8 0), (3, .ptr 88 0), (4, .val (.int .i64 k))], [(0, [.list (ints xs), .list (ints ys), .list (rows vs)]), (8, [.val (.slice none 0 0), .val (.slice none 0 0), .val (.slice none 0 0)]), (88, [.vec 40 xs.length 1, .vec 72 ys.length 1, .vec 112 k 1]), (40, icells xs), (72, icells ys), (112, rcells (vs.take k))], 120⟩) (fun k => k ≤ vs.length) (fun k => vs.length - k) ⟨0, by omega, ?_⟩ ?_)
  · refine wk_to [] [(0, 0), (8, 8), (88, 88), (40, 40), (72, 72), (112, 112)] (by kernel_rfl) (by kernel_rfl) (by kernel_rfl) (by kernel_rfl) (by kernel_rfl) ?_ ?_ <;> repeat' (first | exact trivial | exact vr_val _ | exact vr_list _ | exact vr_at _ | exact vr_nil | exact vr_cap0 | exact vr_vec _ _ _ _ rfl | exact vr_own _ _ _ _ _ rfl | exact vr_ptr _ _ _ rfl | exact vr_nilv _ _ _ rfl | exact vr_bot _ | exact vr_cap0v _ _ _ rfl | exact vr_cap0l | apply vr_agg | apply vr_tup | apply vr_fn | refine vr_yld _ _ _ rfl ?_ | exact Ren.bot _ | exact Ren.val _ | exact Ren.list _ | exact Ren.at_ _ | exact Ren.ptr _ _ _ rfl | refine Ren.yld _ _ _ _ _ rfl rfl (RenL.get ?_).2 (fun _ _ _ h => h) | refine vr_fl _ _ _ _ _ (by decide) rfl ?_ ?_ ?_ ?_ | refine And.intro ⟨_, rfl, .inl ⟨_, rfl, by decide, ?_⟩⟩ ?_ | refine And.intro ⟨_, rfl, _, rfl, by decide, ?_⟩ ?_ | refine And.intro ⟨_, rfl, .inr ⟨rfl, rfl, of_decide_eq_true (by kernel_rfl)⟩⟩ ?_ | apply And.intro | exact vrl_flat _ (by first | exact icells_in _ | exact rcells_in _ | exact scells_in _ | exact bcells_in _ | assumption))
  · intro k hk
    refine aw_seq (aw_seq (aw_region ?_))
    simp (config := {maxSteps := 10000000}) (disch := first | exact okYes (by kernel_rfl) | omega) only [ARun_nil, ARun_none, ARun_some, ARun_skip, AOpRun, AGo_f, AGo_ok, AG_tt, AG_ff, AG_tf, AG_ft, AG_un, aexec, run1, asI, elems, base, opt1, fillD, splice, abin, ash, isSh, foldI, mn2, mx2, ↓eget_h, eget_c, eget_n, eput_c, eput_n, putO, ↓hget_h, hget_c, hget_n, hput_c, hput_n, hdel_c, hdel_n, hups, cond_true, cond_false,  ups, St.F, St.app, FSt.ev, dropE_c, dropE_n, inL_c, inL_n, envOf, thenQ, blockQ, D.isBot, D.isAgg, D.cells, D.leaf, scalarEq, eqCells, isB, Option.map, List.map, List.length, List.all, List.append, List.take, List.drop, List.cons_append, List.nil_append, List.append_nil, Option.isSome, List.getElem?_cons_zero, List.getElem?_cons_succ, if_true, if_false, true_and, and_true, Bool.not_true, Bool.not_false, Bool.true_or, Bool.false_or, Bool.or_true, Bool.or_false, Bool.false_eq_true, ↓reduceIte, Nat.reduceAdd, Nat.reduceMul, Nat.reduceEqDiff, Nat.reduceBEq, Nat.reduceSub, Nat.zero_add, Nat.reduceLeDiff, Nat.reduceGT, Nat.reduceLT, Nat.reduceBNe, okLog_f, reduceCtorEq, or_self, or_false, false_or, or_true, true_or, and_self, and_false, false_and, not_true_eq_false, not_false_eq_true, ne_eq, Bool.and_true, Bool.true_and, Bool.and_false, Bool.false_and, decide_eq_true_eq, decide_true, decide_false, Int.reduceBEq, Int.reduceBNe, Int.reduceLT, Int.reduceLE, Int.reduceAdd, Int.reduceSub, Int.reduceMul, Int.reduceNeg, Int.reduceEq, Int.toNat_zero, Int.reduceToNat, Int.zero_lt_one, Nat.zero_le, Int.le_refl, beq_self_eq_true, bne_self_eq_false, cast_lit, fits, wrap_in, Int.toNat_natCast, Int.natCast_nonneg, rows_len]
    refine aw_cond rfl (fun hc => ?_) (fun hc => ?_)
    · have hk' : k < vs.length := by have := of_decide_eq_true hc; omega
      have hg : (rows vs)[k]? = some [.list (ints vs[k])] := by simp [rows, hk']
      refine aw_skip (aw_seq (aw_block (aw_region ?_)))
      simp (config := {maxSteps := 10000000}) (disch := first | exact okYes (by kernel_rfl) | omega) only [ARun_nil, ARun_none, ARun_some, ARun_skip, AOpRun, AGo_f, AGo_ok, AG_tt, AG_ff, AG_tf, AG_ft, AG_un, aexec, run1, asI, elems, base, opt1, fillD, splice, abin, ash, isSh, foldI, mn2, mx2, ↓eget_h, eget_c, eget_n, eput_c, eput_n, putO, ↓hget_h, hget_c, hget_n, hput_c, hput_n, hdel_c, hdel_n, hups, cond_true, cond_false,  ups, St.F, St.app, FSt.ev, dropE_c, dropE_n, inL_c, inL_n, envOf, thenQ, blockQ, D.isBot, D.isAgg, D.cells, D.leaf, scalarEq, eqCells, isB, Option.map, List.map, List.length, List.all, List.append, List.take, List.drop, List.cons_append, List.nil_append, List.append_nil, Option.isSome, List.getElem?_cons_zero, List.getElem?_cons_succ, if_true, if_false, true_and, and_true, Bool.not_true, Bool.not_false, Bool.true_or, Bool.false_or, Bool.or_true, Bool.or_false, Bool.false_eq_true, ↓reduceIte, Nat.reduceAdd, Nat.reduceMul, Nat.reduceEqDiff, Nat.reduceBEq, Nat.reduceSub, Nat.zero_add, Nat.reduceLeDiff, Nat.reduceGT, Nat.reduceLT, Nat.reduceBNe, okLog_f, reduceCtorEq, or_self, or_false, false_or, or_true, true_or, and_self, and_false, false_and, not_true_eq_false, not_false_eq_true, ne_eq, Bool.and_true, Bool.true_and, Bool.and_false, Bool.false_and, decide_eq_true_eq, decide_true, decide_false, Int.reduceBEq, Int.reduceBNe, Int.reduceLT, Int.reduceLE, Int.reduceAdd, Int.reduceSub, Int.reduceMul, Int.reduceNeg, Int.reduceEq, Int.toNat_zero, Int.reduceToNat, Int.zero_lt_one, Nat.zero_le, Int.le_refl, beq_self_eq_true, bne_self_eq_false, cast_lit, fits, wrap_in, Int.toNat_natCast, Int.natCast_nonneg, hg, rows_all]
      simp (config := {maxSteps := 10000000}) (disch := first | exact okYes (by kernel_rfl) | omega) only [ARun_nil, ARun_none, ARun_some, ARun_skip, AOpRun, AGo_f, AGo_ok, AG_tt, AG_ff, AG_tf, AG_ft, AG_un, aexec, run1, asI, elems, base, opt1, fillD, splice, abin, ash, isSh, foldI, mn2, mx2, ↓eget_h, eget_c, eget_n, eput_c, eput_n, putO, ↓hget_h, hget_c, hget_n, hput_c, hput_n, hdel_c, hdel_n, hups, cond_true, cond_false,  ups, St.F, St.app, FSt.ev, dropE_c, dropE_n, inL_c, inL_n, envOf, thenQ, blockQ, D.isBot, D.isAgg, D.cells, D.leaf, scalarEq, eqCells, isB, Option.map, List.map, List.length, List.all, List.append, List.take, List.drop, List.cons_append, List.nil_append, List.append_nil, Option.isSome, List.getElem?_cons_zero, List.getElem?_cons_succ, if_true, if_false, true_and, and_true, Bool.not_true, Bool.not_false, Bool.true_or, Bool.false_or, Bool.or_true, Bool.or_false, Bool.false_eq_true, ↓reduceIte, Nat.reduceAdd, Nat.reduceMul, Nat.reduceEqDiff, Nat.reduceBEq, Nat.reduceSub, Nat.zero_add, Nat.reduceLeDiff, Nat.reduceGT, Nat.reduceLT, Nat.reduceBNe, okLog_f, reduceCtorEq, or_self, or_false, false_or, or_true, true_or, and_self, and_false, false_and, not_true_eq_false, not_false_eq_true, ne_eq, Bool.and_true, Bool.true_and, Bool.and_false, Bool.false_and, decide_eq_true_eq, decide_true, decide_false, Int.reduceBEq, Int.reduceBNe, Int.reduceLT, Int.reduceLE, Int.reduceAdd, Int.reduceSub, Int.reduceMul, Int.reduceNeg, Int.reduceEq, Int.toNat_zero, Int.reduceToNat, Int.zero_lt_one, Nat.zero_le, Int.le_refl, beq_self_eq_true, bne_self_eq_false, cast_lit, fits, wrap_in, Int.toNat_natCast, Int.natCast_nonneg, ints_len, ints_all, ints_flat, icells_leaf]
      have hrk := hr vs[k] (List.getElem_mem _)
      refine ago_if (by omega) ?_
      have ht : (rcells (vs.take k)).take k = rcells (vs.take k) := List.take_of_length_le (by simp [rcells_len]; omega)
      simp (config := {maxSteps := 10000000}) (disch := first | exact okYes (by kernel_rfl) | omega) only [ARun_nil, ARun_none, ARun_some, ARun_skip, AOpRun, AGo_f, AGo_ok, AG_tt, AG_ff, AG_tf, AG_ft, AG_un, aexec, run1, asI, elems, base, opt1, fillD, splice, abin, ash, isSh, foldI, mn2, mx2, ↓eget_h, eget_c, eget_n, eput_c, eput_n, putO, ↓hget_h, hget_c, hget_n, hput_c, hput_n, hdel_c, hdel_n, hups, cond_true, cond_false,  ups, St.F, St.app, FSt.ev, dropE_c, dropE_n, inL_c, inL_n, envOf, thenQ, blockQ, D.isBot, D.isAgg, D.cells, D.leaf, scalarEq, eqCells, isB, Option.map, List.map, List.length, List.all, List.append, List.take, List.drop, List.cons_append, List.nil_append, List.append_nil, Option.isSome, List.getElem?_cons_zero, List.getElem?_cons_succ, if_true, if_false, true_and, and_true, Bool.not_true, Bool.not_false, Bool.true_or, Bool.false_or, Bool.or_true, Bool.or_false, Bool.false_eq_true, ↓reduceIte, Nat.reduceAdd, Nat.reduceMul, Nat.reduceEqDiff, Nat.reduceBEq, Nat.reduceSub, Nat.zero_add, Nat.reduceLeDiff, Nat.reduceGT, Nat.reduceLT, Nat.reduceBNe, okLog_f, reduceCtorEq, or_self, or_false, false_or, or_true, true_or, and_self, and_false, false_and, not_true_eq_false, not_false_eq_true, ne_eq, Bool.and_true, Bool.true_and, Bool.and_false, Bool.false_and, decide_eq_true_eq, decide_true, decide_false, Int.reduceBEq, Int.reduceBNe, Int.reduceLT, Int.reduceLE, Int.reduceAdd, Int.reduceSub, Int.reduceMul, Int.reduceNeg, Int.reduceEq, Int.toNat_zero, Int.reduceToNat, Int.zero_lt_one, Nat.zero_le, Int.le_refl, beq_self_eq_true, bne_self_eq_false, cast_lit, fits, wrap_in, Int.toNat_natCast, Int.natCast_nonneg, rcells_len, List.length_take, Nat.min_eq_left hk, Nat.mul_one, Nat.le_refl, ht]
      refine ago_if (by omega) ?_
      simp (config := {maxSteps := 10000000}) (disch := first | exact okYes (by kernel_rfl) | omega) only [ARun_nil, ARun_none, ARun_some, ARun_skip, AOpRun, AGo_f, AGo_ok, AG_tt, AG_ff, AG_tf, AG_ft, AG_un, aexec, run1, asI, elems, base, opt1, fillD, splice, abin, ash, isSh, foldI, mn2, mx2, ↓eget_h, eget_c, eget_n, eput_c, eput_n, putO, ↓hget_h, hget_c, hget_n, hput_c, hput_n, hdel_c, hdel_n, hups, cond_true, cond_false,  ups, St.F, St.app, FSt.ev, dropE_c, dropE_n, inL_c, inL_n, envOf, thenQ, blockQ, D.isBot, D.isAgg, D.cells, D.leaf, scalarEq, eqCells, isB, Option.map, List.map, List.length, List.all, List.append, List.take, List.drop, List.cons_append, List.nil_append, List.append_nil, Option.isSome, List.getElem?_cons_zero, List.getElem?_cons_succ, if_true, if_false, true_and, and_true, Bool.not_true, Bool.not_false, Bool.true_or, Bool.false_or, Bool.or_true, Bool.or_false, Bool.false_eq_true, ↓reduceIte, Nat.reduceAdd, Nat.reduceMul, Nat.reduceEqDiff, Nat.reduceBEq, Nat.reduceSub, Nat.zero_add, Nat.reduceLeDiff, Nat.reduceGT, Nat.reduceLT, Nat.reduceBNe, okLog_f, reduceCtorEq, or_self, or_false, false_or, or_true, true_or, and_self, and_false, false_and, not_true_eq_false, not_false_eq_true, ne_eq, Bool.and_true, Bool.true_and, Bool.and_false, Bool.false_and, decide_eq_true_eq, decide_true, decide_false, Int.reduceBEq, Int.reduceBNe, Int.reduceLT, Int.reduceLE, Int.reduceAdd, Int.reduceSub, Int.reduceMul, Int.reduceNeg, Int.reduceEq, Int.toNat_zero, Int.reduceToNat, Int.zero_lt_one, Nat.zero_le, Int.le_refl, beq_self_eq_true, bne_self_eq_false, cast_lit, fits, wrap_in, Int.toNat_natCast, Int.natCast_nonneg]
      refine aw_region ?_
      simp (config := {maxSteps := 10000000}) (disch := first | exact okYes (by kernel_rfl) | omega) only [ARun_nil, ARun_none, ARun_some, ARun_skip, AOpRun, AGo_f, AGo_ok, AG_tt, AG_ff, AG_tf, AG_ft, AG_un, aexec, run1, asI, elems, base, opt1, fillD, splice, abin, ash, isSh, foldI, mn2, mx2, ↓eget_h, eget_c, eget_n, eput_c, eput_n, putO, ↓hget_h, hget_c, hget_n, hput_c, hput_n, hdel_c, hdel_n, hups, cond_true, cond_false,  ups, St.F, St.app, FSt.ev, dropE_c, dropE_n, inL_c, inL_n, envOf, thenQ, blockQ, D.isBot, D.isAgg, D.cells, D.leaf, scalarEq, eqCells, isB, Option.map, List.map, List.length, List.all, List.append, List.take, List.drop, List.cons_append, List.nil_append, List.append_nil, Option.isSome, List.getElem?_cons_zero, List.getElem?_cons_succ, if_true, if_false, true_and, and_true, Bool.not_true, Bool.not_false, Bool.true_or, Bool.false_or, Bool.or_true, Bool.or_false, Bool.false_eq_true, ↓reduceIte, Nat.reduceAdd, Nat.reduceMul, Nat.reduceEqDiff, Nat.reduceBEq, Nat.reduceSub, Nat.zero_add, Nat.reduceLeDiff, Nat.reduceGT, Nat.reduceLT, Nat.reduceBNe, okLog_f, reduceCtorEq, or_self, or_false, false_or, or_true, true_or, and_self, and_false, false_and, not_true_eq_false, not_false_eq_true, ne_eq, Bool.and_true, Bool.true_and, Bool.and_false, Bool.false_and, decide_eq_true_eq, decide_true, decide_false, Int.reduceBEq, Int.reduceBNe, Int.reduceLT, Int.reduceLE, Int.reduceAdd, Int.reduceSub, Int.reduceMul, Int.reduceNeg, Int.reduceEq, Int.toNat_zero, Int.reduceToNat, Int.zero_lt_one, Nat.zero_le, Int.le_refl, beq_self_eq_true, bne_self_eq_false, cast_lit, fits, wrap_in, Int.toNat_natCast, Int.natCast_nonneg]
      refine ⟨k + 1, hk', by omega, ?_⟩
      refine wk_to [224] [(0, 0), (8, 8), (88, 88), (40, 40), (72, 72), (112, 240)] (by kernel_rfl) (by kernel_rfl) (by kernel_rfl) (by kernel_rfl) (by kernel_rfl) ?_ ?_ <;> repeat' (first | exact trivial | exact vr_val _ | exact vr_list _ | exact vr_at _ | exact vr_nil | exact vr_cap0 | exact vr_vec _ _ _ _ rfl | exact vr_own _ _ _ _ _ rfl | exact vr_ptr _ _ _ rfl | exact vr_nilv _ _ _ rfl | exact vr_bot _ | exact vr_cap0v _ _ _ rfl | exact vr_cap0l | apply vr_agg | apply vr_tup | apply vr_fn | refine vr_yld _ _ _ rfl ?_ | exact Ren.bot _ | exact Ren.val _ | exact Ren.list _ | exact Ren.at_ _ | exact Ren.ptr _ _ _ rfl | refine Ren.yld _ _ _ _ _ rfl rfl (RenL.get ?_).2 (fun _ _ _ h => h) | refine vr_fl _ _ _ _ _ (by decide) rfl ?_ ?_ ?_ ?_ | refine And.intro ⟨_, rfl, .inl ⟨_, rfl, by decide, ?_⟩⟩ ?_ | refine And.intro ⟨_, rfl, _, rfl, by decide, ?_⟩ ?_ | refine And.intro ⟨_, rfl, .inr ⟨rfl, rfl, of_decide_eq_true (by kernel_rfl)⟩⟩ ?_ | apply And.intro | exact vrl_flat _ (by first | exact icells_in _ | exact rcells_in _ | exact scells_in _ | exact bcells_in _ | assumption))
      have hs : rcells (vs.take (k + 1)) = rcells (vs.take k) ++ [.list (ints vs[k])] := by
        unfold rcells
        rw [← List.take_append_getElem hk', List.map_append]; rfl
      show VRL _ _ _ _ (rcells (vs.take (k + 1)))
      rw [hs]
      refine vrl_app (vrl_flat _ (rcells_in _)) ?_
      repeat' (first | exact trivial | exact vr_val _ | exact vr_list _ | exact vr_at _ | exact vr_nil | exact vr_cap0 | exact vr_vec _ _ _ _ rfl | exact vr_own _ _ _ _ _ rfl | exact vr_ptr _ _ _ rfl | exact vr_nilv _ _ _ rfl | exact vr_bot _ | exact vr_cap0v _ _ _ rfl | exact vr_cap0l | apply vr_agg | apply vr_tup | apply vr_fn | refine vr_yld _ _ _ rfl ?_ | exact Ren.bot _ | exact Ren.val _ | exact Ren.list _ | exact Ren.at_ _ | exact Ren.ptr _ _ _ rfl | refine Ren.yld _ _ _ _ _ rfl rfl (RenL.get ?_).2 (fun _ _ _ h => h) | refine vr_fl _ _ _ _ _ (by decide) rfl ?_ ?_ ?_ ?_ | refine And.intro ⟨_, rfl, .inl ⟨_, rfl, by decide, ?_⟩⟩ ?_ | refine And.intro ⟨_, rfl, _, rfl, by decide, ?_⟩ ?_ | refine And.intro ⟨_, rfl, .inr ⟨rfl, rfl, of_decide_eq_true (by kernel_rfl)⟩⟩ ?_ | apply And.intro | exact vrl_flat _ (by first | exact icells_in _ | exact rcells_in _ | exact scells_in _ | exact bcells_in _ | assumption))
      · simp [ints]
      · exact ints_len _
      · exact ints_flat _
      · exact icells_in _
    · have hk' : k = vs.length := by have := of_decide_eq_false hc; omega
      subst hk'
      refine aw_exit (aw_seq (aw_region ?_))
      simp (config := {maxSteps := 10000000}) (disch := first | exact okYes (by kernel_rfl) | omega) only [ARun_nil, ARun_none, ARun_some, ARun_skip, AOpRun, AGo_f, AGo_ok, AG_tt, AG_ff, AG_tf, AG_ft, AG_un, aexec, run1, asI, elems, base, opt1, fillD, splice, abin, ash, isSh, foldI, mn2, mx2, ↓eget_h, eget_c, eget_n, eput_c, eput_n, putO, ↓hget_h, hget_c, hget_n, hput_c, hput_n, hdel_c, hdel_n, hups, cond_true, cond_false,  ups, St.F, St.app, FSt.ev, dropE_c, dropE_n, inL_c, inL_n, envOf, thenQ, blockQ, D.isBot, D.isAgg, D.cells, D.leaf, scalarEq, eqCells, isB, Option.map, List.map, List.length, List.all, List.append, List.take, List.drop, List.cons_append, List.nil_append, List.append_nil, Option.isSome, List.getElem?_cons_zero, List.getElem?_cons_succ, if_true, if_false, true_and, and_true, Bool.not_true, Bool.not_false, Bool.true_or, Bool.false_or, Bool.or_true, Bool.or_false, Bool.false_eq_true, ↓reduceIte, Nat.reduceAdd, Nat.reduceMul, Nat.reduceEqDiff, Nat.reduceBEq, Nat.reduceSub, Nat.zero_add, Nat.reduceLeDiff, Nat.reduceGT, Nat.reduceLT, Nat.reduceBNe, okLog_f, reduceCtorEq, or_self, or_false, false_or, or_true, true_or, and_self, and_false, false_and, not_true_eq_false, not_false_eq_true, ne_eq, Bool.and_true, Bool.true_and, Bool.and_false, Bool.false_and, decide_eq_true_eq, decide_true, decide_false, Int.reduceBEq, Int.reduceBNe, Int.reduceLT, Int.reduceLE, Int.reduceAdd, Int.reduceSub, Int.reduceMul, Int.reduceNeg, Int.reduceEq, Int.toNat_zero, Int.reduceToNat, Int.zero_lt_one, Nat.zero_le, Int.le_refl, beq_self_eq_true, bne_self_eq_false, cast_lit, fits, wrap_in, Int.toNat_natCast, Int.natCast_nonneg, List.take_length]
      refine aw_ret ?_
      refine end_to [40, 72, 112] [] (by first | exact .inl rfl | exact .inr rfl) rfl (by kernel_rfl) (by kernel_rfl) (by kernel_rfl) ?_ ?_ <;> repeat' (first | exact trivial | exact vr_val _ | exact vr_list _ | exact vr_at _ | exact vr_nil | exact vr_cap0 | exact vr_vec _ _ _ _ rfl | exact vr_own _ _ _ _ _ rfl | exact vr_ptr _ _ _ rfl | exact vr_nilv _ _ _ rfl | exact vr_bot _ | exact vr_cap0v _ _ _ rfl | exact vr_cap0l | apply vr_agg | apply vr_tup | apply vr_fn | refine vr_yld _ _ _ rfl ?_ | exact Ren.bot _ | exact Ren.val _ | exact Ren.list _ | exact Ren.at_ _ | exact Ren.ptr _ _ _ rfl | refine Ren.yld _ _ _ _ _ rfl rfl (RenL.get ?_).2 (fun _ _ _ h => h) | refine vr_fl _ _ _ _ _ (by decide) rfl ?_ ?_ ?_ ?_ | refine And.intro ⟨_, rfl, .inl ⟨_, rfl, by decide, ?_⟩⟩ ?_ | refine And.intro ⟨_, rfl, _, rfl, by decide, ?_⟩ ?_ | refine And.intro ⟨_, rfl, .inr ⟨rfl, rfl, of_decide_eq_true (by kernel_rfl)⟩⟩ ?_ | apply And.intro | exact vrl_flat _ (by first | exact icells_in _ | exact rcells_in _ | exact scells_in _ | exact bcells_in _ | assumption))
      all_goals first | exact ints_one _ | exact ints_len _ | exact ints_flat _ | exact icells_in _ | exact rows_one _ | exact rows_len _ | exact rows_flat _ | exact rcells_in _
end Go.Proofs.Ytfaiogajaaclcaa
/- Calls that change objects, checked by computing. No conditions. -/
namespace Go.Proofs.Ytfaiogajaaclcaa.Lift
open Go Go.RowKit

theorem aw_condT {rd : Bool} {P : Program} {n : Nat} {pre : List Nat} {Q : AExit → St → Prop} {s : St} {c : Operand} {x y : ACode} (hb : s.F.ev c = .val (.bool true)) (h : AWb rd P n pre x Q s) : AWb rd P n pre (.cond c x y) Q s := aw_cond hb (fun _ => h) (fun h => nomatch h)
theorem aw_condF {rd : Bool} {P : Program} {n : Nat} {pre : List Nat} {Q : AExit → St → Prop} {s : St} {c : Operand} {x y : ACode} (hb : s.F.ev c = .val (.bool false)) (h : AWb rd P n pre y Q s) : AWb rd P n pre (.cond c x y) Q s := aw_cond hb (fun h => nomatch h) (fun _ => h)
def HasAll (hp : Hp) : Hp → Prop
  | [] => True
  | x :: l => hget hp x.1 = some x.2 ∧ HasAll hp l
theorem HasAll.get {hp : Hp} : ∀ {h : Hp}, HasAll hp h → ∀ x ∈ h, hget hp x.1 = some x.2
  | [], _, x, hx => by simp at hx
  | y :: l, h, x, hx => by
    rcases List.mem_cons.1 hx with rfl | hx
    · exact h.1
    · exact HasAll.get h.2 x hx
theorem vr_valq {H : Heap} {V : List Nat} {m : List (Nat × Nat)} {v v' : Value} (h : v = v') : VR H V m (.val v) (.val v') := h ▸ vr_val v
theorem vr_listq {H : Heap} {V : List Nat} {m : List (Nat × Nat)} {l l' : List (List D)} (h : l = l') : VR H V m (.list l) (.list l') := h ▸ vr_list l
section
variable {P : Program} {dr : Bool} {b : Nat} {Q : St → Prop} {dst : Option Nat} {anc : List Nat} {l : List AOper} {k : Nat} {s : St} {log : Lg}
end
end Go.Proofs.Ytfaiogajaaclcaa.Lift
/- What comes behind a region, hidden while the region is walked. No conditions. -/
namespace Go.Proofs.Ytfaiogajaaclcaa.Lift
open Go Go.RowKit

theorem aw_hide {rd : Bool} {P : Program} {n : Nat} {pre : List Nat} {Q : AExit → St → Prop} {s : St} {x : ACode} (h : ∀ K : AExit → St → Prop, K = Q → AWb rd P n pre x K s) : AWb rd P n pre x Q s := h Q rfl
section
variable {K : St → Prop} {Q : AExit → St → Prop} {s : St}
theorem thenQ_n (h : K s) : thenQ K Q .norm s := h
theorem thenQ_e {i : Nat} (h : Q (.ex i) s) : thenQ K Q (.ex i) s := h
theorem blockQ_n {id : Nat} (h : Q .norm s) : blockQ id Q .norm s := h
theorem blockQ_t {id : Nat} (h : Q .norm s) : blockQ id Q (.ex id) s := by simp only [blockQ, if_true]; exact h
theorem blockQ_f {id i : Nat} (hn : i ≠ id) (h : Q (.ex i) s) : blockQ id Q (.ex i) s := by simp only [blockQ]; rw [if_neg hn]; exact h
end
end Go.Proofs.Ytfaiogajaaclcaa.Lift
/- Plain arithmetic: floor division by Go's '/' and '%'. -/
namespace Go.Proofs.Ytfaiogajaaclcaa

theorem floor_eq (a b : Int) (hb : 1 ≤ b) : a / b = if a.tmod b < 0 then a.tdiv b - 1 else a.tdiv b := by
  have e1 := Int.mul_tdiv_add_tmod a b
  have e5 := Int.tmod_lt_of_pos a (show 0 < b by omega)
  have e6 := Int.lt_tmod_of_pos a (show 0 < b by omega)
  split
  · rename_i h
    exact ((Int.ediv_emod_unique (a := a) (b := b) (r := a.tmod b + b) (q := a.tdiv b - 1) (by omega)).2 ⟨by rw [Int.mul_sub]; omega, by omega, by omega⟩).1
  · rename_i h
    exact ((Int.ediv_emod_unique (a := a) (b := b) (r := a.tmod b) (q := a.tdiv b) (by omega)).2 ⟨by omega, by omega, by omega⟩).1
theorem tdiv_bd (a b M : Int) (h1 : -M ≤ a) (h2 : a ≤ M) : -M ≤ a.tdiv b ∧ a.tdiv b ≤ M := by
  have := Int.natAbs_tdiv_le_natAbs a b
  omega
theorem ediv_bd (a b M : Int) (hM : 0 ≤ M) (hb : 1 ≤ b) (h1 : -M ≤ a) (h2 : a ≤ M) : -M ≤ a / b ∧ a / b ≤ M := by
  have e2 := Int.mul_ediv_add_emod a b
  have e3 := Int.emod_nonneg a (show b ≠ 0 by omega)
  constructor
  · refine (Int.le_ediv_iff_mul_le (by omega)).2 ?_
    have : -M * b ≤ -M * 1 := Int.mul_le_mul_of_nonpos_left (by omega) hb
    omega
  · refine Int.le_trans (Int.ediv_le_ediv (by omega) h2) ?_
    exact Int.ediv_le_self _ hM
end Go.Proofs.Ytfaiogajaaclcaa
/- What slices hold, said of lists: plain predicates on a world, kept by whatever leaves old blocks alone. -/
namespace Go.Proofs.Ytfaiogajaaclcaa
open Go.RowKit

def Ints (w : World) (A : Option Addr) (l : List Int) : Prop :=
  0 < l.length → ∃ b off, A = some ⟨b, off, none⟩ ∧ b < w.heap.size ∧ ∀ k, k < l.length → w.cell? ⟨b, off + k, none⟩ = some (.int .i64 (l[k]?.getD 0))
def Sps (w : World) (A : Option Addr) (l : List (Int × Int)) : Prop :=
  0 < l.length → ∃ b off, A = some ⟨b, off, none⟩ ∧ b < w.heap.size ∧ ∀ k, k < l.length →
    w.cell? ⟨b, off + k * 2, none⟩ = some (.int .i64 (l[k]?.getD (0, 0)).1) ∧ w.cell? ⟨b, off + k * 2 + 1, none⟩ = some (.int .i64 (l[k]?.getD (0, 0)).2)
def Mat (w : World) (A : Option Addr) (l : List (List Int)) : Prop :=
  0 < l.length → ∃ b off, A = some ⟨b, off, none⟩ ∧ b < w.heap.size ∧ ∀ k, k < l.length → ∃ B c, w.cell? ⟨b, off + k, none⟩ = some (.slice B (l[k]?.getD []).length c) ∧ Ints w B (l[k]?.getD [])
def Bxs (w : World) (A : Option Addr) (l : List (List (Int × Int))) : Prop :=
  0 < l.length → ∃ b off, A = some ⟨b, off, none⟩ ∧ b < w.heap.size ∧ ∀ k, k < l.length → ∃ B c, w.cell? ⟨b, off + k, none⟩ = some (.slice B (l[k]?.getD []).length c) ∧ Sps w B (l[k]?.getD [])

section
variable {w w' : World} {A : Option Addr}
theorem Ints.below {l : List Int} (h : Ints w A l) (hb : Below w.heap.size w w') : Ints w' A l := fun hl => by
  obtain ⟨b, off, e, hlt, hc⟩ := h hl
  exact ⟨b, off, e, Nat.lt_of_lt_of_le hlt hb.size, fun k hk => (hb.cell (p := ⟨b, off + k, none⟩) hlt).trans (hc k hk)⟩
theorem Sps.below {l : List (Int × Int)} (h : Sps w A l) (hb : Below w.heap.size w w') : Sps w' A l := fun hl => by
  obtain ⟨b, off, e, hlt, hc⟩ := h hl
  exact ⟨b, off, e, Nat.lt_of_lt_of_le hlt hb.size, fun k hk => ⟨(hb.cell (p := ⟨b, off + k * 2, none⟩) hlt).trans (hc k hk).1, (hb.cell (p := ⟨b, off + k * 2 + 1, none⟩) hlt).trans (hc k hk).2⟩⟩
theorem Mat.below {l : List (List Int)} (h : Mat w A l) (hb : Below w.heap.size w w') : Mat w' A l := fun hl => by
  obtain ⟨b, off, e, hlt, hc⟩ := h hl
  refine ⟨b, off, e, Nat.lt_of_lt_of_le hlt hb.size, fun k hk => ?_⟩
  obtain ⟨B, c, h1, h2⟩ := hc k hk
  exact ⟨B, c, (hb.cell (p := ⟨b, off + k, none⟩) hlt).trans h1, h2.below hb⟩
theorem Bxs.below {l : List (List (Int × Int))} (h : Bxs w A l) (hb : Below w.heap.size w w') : Bxs w' A l := fun hl => by
  obtain ⟨b, off, e, hlt, hc⟩ := h hl
  refine ⟨b, off, e, Nat.lt_of_lt_of_le hlt hb.size, fun k hk => ?_⟩
  obtain ⟨B, c, h1, h2⟩ := hc k hk
  exact ⟨B, c, (hb.cell (p := ⟨b, off + k, none⟩) hlt).trans h1, h2.below hb⟩
end
theorem Below.drewN' {B : Nat} {a w : World} (h : Below B a w) (n : Nat) : Below B a (w.drewN n) := ⟨h.os, h.tape, h.output, h.size, h.block⟩
end Go.Proofs.Ytfaiogajaaclcaa
/- The contracts of the small functions of package spans (floor, within, valid, spanned, Check ..): what each returns; old memory stays. -/
namespace Go.Proofs.Ytfaiogajaaclcaa
open Go.RowKit

def wB (a b c : Int) : Bool := decide (b ≤ a) && decide (a ≤ c)
theorem within_any (a b c : Int) (w : World) :
    Calls Try.prog 71 #[.int .i64 a, .int .i64 b, .int .i64 c] w fun e w' => e = .returned (.bool (wB a b c)) ∧ w' = w := by
  by_cases h1 : b ≤ a <;> by_cases h2 : a ≤ c
  all_goals
    go_enter Try.func71, Try.ntmps71
    go_wp2
    go_ret
    simp [wB, h1, h2]
def vB (x : Int × Int) : Bool := wB x.1 (-1000000) x.2 && decide (x.2 ≤ 1000000)
set_option maxHeartbeats 400000 in
theorem valid_any (x : Int × Int) (w : World) :
    Calls Try.prog 104 #[.agg #[.int .i64 x.1, .int .i64 x.2]] w fun e w' => e = .returned (.bool (vB x)) ∧ Below w.heap.size w w' := by
  obtain ⟨lo, hi⟩ := x
  show Calls Try.prog 104 #[.agg #[.int .i64 lo, .int .i64 hi]] w _
  have key : ∀ b : Bool, wB lo (-1000000) hi = b → Calls Try.prog 104 #[.agg #[.int .i64 lo, .int .i64 hi]] w fun e w' => e = .returned (.bool (b && decide (hi ≤ 1000000))) ∧ Below w.heap.size w w' := by
    intro b hb
    have H := Lib.hid hb
    clear hb
    cases b
    all_goals
      go_enter Try.func104, Try.ntmps104
      go_wp2_with (go_at_call 71; refine (within_any _ _ _ _).mono ?_; rintro e w' ⟨rfl, rfl⟩; rw [H.out])
      go_ret
      exact ⟨by simp, (Below.refl _ _).alloc (Nat.le_refl _) _⟩
  exact key _ rfl
set_option maxHeartbeats 400000 in
theorem spanned1_any (x : Int × Int) (w : World) :
    Calls Try.prog 103 #[.agg #[.int .i64 x.1, .int .i64 x.2]] w fun e w' => e = .returned (.bool (!vB x)) ∧ Below w.heap.size w w' := by
  obtain ⟨lo, hi⟩ := x
  show Calls Try.prog 103 #[.agg #[.int .i64 lo, .int .i64 hi]] w _
  go_enter Try.func103, Try.ntmps103
  go_wp2_with (go_at_call 104; refine (valid_any (_, _) _).mono ?_; rintro e w' ⟨rfl, hb⟩)
  go_ret
  exact ⟨rfl, ((Below.refl _ _).alloc (Nat.le_refl _) _).trans (hb.mono (by simp))⟩

def Enters (P : Program) (g : Nat) : Prop := ∀ (args : Array Value) (w : World), (callFunc g args).run P w = .ok (.enter g args) w
/-- the first index at which p holds, from k on -/
def idxP {α : Type} (p : α → Bool) : List α → Nat → Int
  | [], _ => -1
  | x :: xs, k => if p x then (k : Int) else idxP p xs (k + 1)
theorem idxP_ge {α : Type} (p : α → Bool) (l : List α) (k : Nat) : decide (0 ≤ idxP p l k) = l.any p := by
  induction l generalizing k with
  | nil => simp [idxP]
  | cons x xs ih => unfold idxP; by_cases h : p x = true <;> simp [h, ih]
theorem idxP_drop {α : Type} (p : α → Bool) (l : List α) (d : α) (k : Nat) (h : k < l.length) : idxP p (l.drop k) k = if p (l[k]?.getD d) then (k : Int) else idxP p (l.drop (k + 1)) (k + 1) := by
  rw [List.drop_eq_getElem_cons h]
  simp [idxP, h]
set_option maxHeartbeats 400000 in
theorem indexFuncSpan (g : Nat) (p : Int × Int → Bool) (A : Option Addr) (l : List (Int × Int)) (c : Nat) (w : World) (hl : l.length ≤ 4611686018427387904) (hA : Sps w A l) (he : Enters Try.prog g)
   (hg : ∀ (x : Int × Int) (w' : World), Calls Try.prog g #[.agg #[.int .i64 x.1, .int .i64 x.2]] w' fun e w'' => e = .returned (.bool (p x)) ∧ Below w'.heap.size w' w'') :
   Calls Try.prog 114 #[.slice A l.length c, .func (.func g) #[] #[]] w fun e w' => e = .returned (.int .i64 (idxP p l 0)) ∧ Below w.heap.size w w' := by
  have HG := Lib.hid hg
  have HA := Lib.hid hA
  clear hg hA
  unfold Enters at he
  go_enter Try.func114, Try.ntmps114
  go_wp2
  go_loopw [5, 8] (fun _ i wr => ∃ k : Nat, k ≤ l.length ∧ i = .int .i64 k ∧ idxP p (l.drop k) k = idxP p l 0 ∧ Below w.heap.size w wr) (fun _ i _ => l.length - (intOf i).toNat)
  case atStart => exact ⟨0, by omega, rfl, by simp, Below.refl _ _⟩
  case round =>
    obtain ⟨k, hk, rfl, hp, hb⟩ := hrel
    have HP := Lib.hid hp
    clear hp
    by_cases hlt : k < l.length
    · obtain ⟨b, off, rfl, hbl, hc⟩ := HA.out (by omega)
      have h1 := (hb.cell (p := ⟨b, off + k * 2, none⟩) hbl).trans (hc k hlt).1
      have h2 := (hb.cell (p := ⟨b, off + k * 2 + 1, none⟩) hbl).trans (hc k hlt).2
      have hd := Lib.hid (idxP_drop p l (0, 0) k hlt)
      clear hc
      generalize hx : l[k]?.getD (0, 0) = x at h1 h2
      have HX := Lib.hid hx
      clear hx
      go_wp2_with fail
      refine (HG.out x _).mono ?_
      rintro e w1 ⟨rfl, hb1⟩
      have hb2 := hb.trans (hb1.mono hb.size)
      clear hb1
      by_cases hpx : p x = true
      · rw [hpx]
        go_wp2
        go_ret
        refine ⟨?_, hb2⟩
        rw [← HP.out, hd.out, HX.out, if_pos hpx]; rfl
      · have hpx' : p x = false := by simpa using hpx
        rw [hpx']
        go_wp2
        go_roundw
        case rel => exact ⟨k + 1, by omega, by go_num, by rw [← HP.out, hd.out, HX.out, if_neg hpx], hb2⟩
        case measure => simp [intOf]; omega
    · go_wp2
      go_ret
      refine ⟨?_, hb⟩
      rw [← HP.out, List.drop_eq_nil_of_le (by omega)]; rfl
set_option maxHeartbeats 400000 in
theorem containsFuncSpan (g : Nat) (p : Int × Int → Bool) (A : Option Addr) (l : List (Int × Int)) (c : Nat) (w : World) (hl : l.length ≤ 4611686018427387904) (hA : Sps w A l) (he : Enters Try.prog g)
   (hg : ∀ (x : Int × Int) (w' : World), Calls Try.prog g #[.agg #[.int .i64 x.1, .int .i64 x.2]] w' fun e w'' => e = .returned (.bool (p x)) ∧ Below w'.heap.size w' w'') :
   Calls Try.prog 102 #[.slice A l.length c, .func (.func g) #[] #[]] w fun e w' => e = .returned (.bool (l.any p)) ∧ Below w.heap.size w w' := by
  have H := Lib.hid (indexFuncSpan g p A l c w hl hA he hg)
  clear hg hA he
  go_enter Try.func102, Try.ntmps102
  go_wp2_with fail
  refine H.out.mono ?_
  rintro e w1 ⟨rfl, hb1⟩
  go_wp2
  go_ret
  exact ⟨by rw [← idxP_ge p l 0]; rfl, hb1⟩

theorem enters_spanned1 : Enters Try.prog 103 := fun _ _ => by kernel_rfl
def spErr (l : List (Int × Int)) : Int := if l.any (fun x => !vB x) then 10 else 0
set_option maxHeartbeats 400000 in
theorem spanned_any (A : Option Addr) (l : List (Int × Int)) (c : Nat) (w : World) (hl : l.length ≤ 4611686018427387904) (hA : Sps w A l) :
   Calls Try.prog 72 #[.slice A l.length c] w fun e w' => e = .returned (.int .i64 (spErr l)) ∧ Below w.heap.size w w' := by
  have H := Lib.hid (containsFuncSpan 103 (fun x => !vB x) A l c w hl hA enters_spanned1 (fun x w' => spanned1_any x w'))
  clear hA
  by_cases h : l.any (fun x => !vB x) = true
  · have E := Lib.hid h
    have R : Hid (spErr l = 10) := by unfold Hid spErr; rw [if_pos h]
    clear h
    go_enter Try.func72, Try.ntmps72
    go_wp2_with fail
    refine H.out.mono ?_
    rintro e w1 ⟨rfl, hb1⟩
    rw [E.out]
    go_wp2
    go_ret
    exact ⟨by rw [R.out]; rfl, hb1⟩
  · have R : Hid (spErr l = 0) := by unfold Hid spErr; rw [if_neg h]
    have h' : l.any (fun x => !vB x) = false := by simpa using h
    have E := Lib.hid h'
    clear h h'
    go_enter Try.func72, Try.ntmps72
    go_wp2_with fail
    refine H.out.mono ?_
    rintro e w1 ⟨rfl, hb1⟩
    rw [E.out]
    go_wp2
    go_ret
    exact ⟨by rw [R.out]; rfl, hb1⟩
end Go.Proofs.Ytfaiogajaaclcaa
/- The contracts of axis, CheckTable and what it hands to slices.ContainsFunc, floor, ceil: what each returns; old memory stays. -/
namespace Go.Proofs.Ytfaiogajaaclcaa
open Go.RowKit

set_option maxHeartbeats 400000 in
theorem floor_any (a b : Int) (w : World) (hb : 1 ≤ b) (hb' : b ≤ 4000000000000000000) (ha : -4000000000000000000 ≤ a) (ha' : a ≤ 4000000000000000000):
    Calls Try.prog 78 #[.int .i64 a, .int .i64 b] w fun e w' => e = .returned (.int .i64 (a / b)) ∧ w' = w := by
  have F := Lib.hid (floor_eq a b hb)
  obtain ⟨hq1, hq2⟩ := tdiv_bd a b _ ha ha'
  go_enter Try.func78, Try.ntmps78
  go_wp2
  all_goals
    go_ret
    refine ⟨?_, rfl⟩
  · rw [F.out, if_pos (by assumption)]; rfl
  · rw [F.out, if_neg (by omega)]; rfl
set_option maxHeartbeats 400000 in
theorem ceil_any (a b : Int) (w : World) (hb : 1 ≤ b) (hb' : b ≤ 4000000000000000000) (ha : -4000000000000000000 ≤ a) (ha' : a ≤ 4000000000000000000):
    Calls Try.prog 84 #[.int .i64 a, .int .i64 b] w fun e w' => e = .returned (.int .i64 (-(-a / b))) ∧ w' = w := by
  obtain ⟨hq1, hq2⟩ := ediv_bd (-a) b 4000000000000000000 (by omega) hb (by omega) (by omega)
  go_enter Try.func84, Try.ntmps84
  go_wp2_with (go_at_call 78; refine (floor_any _ _ _ (by omega) (by omega) (by omega) (by omega)).mono ?_; rintro e w' ⟨rfl, rfl⟩)
  go_ret
  exact ⟨rfl, rfl⟩
set_option maxHeartbeats 400000 in
theorem up_any (a b : Int) (w : World) (hb : 1 ≤ b) (hb' : b ≤ 4000000000000000000) (ha : -4000000000000000000 ≤ a) (ha' : a ≤ 4000000000000000000):
    Calls Try.prog 68 #[.agg #[.int .i64 a, .int .i64 b]] w fun e w' => e = .returned (.int .i64 (-(-a / b))) ∧ Below w.heap.size w w' := by
  go_enter Try.func68, Try.ntmps68
  go_wp2_with (go_at_call 84; refine (ceil_any _ _ _ (by omega) (by omega) (by omega) (by omega)).mono ?_; rintro e w' ⟨rfl, rfl⟩)
  go_ret
  exact ⟨rfl, (Below.refl _ _).alloc (Nat.le_refl _) _⟩

/-- knots, the one before the first at hand -/
def axFrom : Option Int → List Int → Bool
  | _, [] => true
  | p, x :: xs => wB x (-1000000) 1000000 && (match p with | none => true | some y => wB (x - y) 1 10000) && axFrom (some x) xs
def axB (l : List Int) : Bool := wB l.length 2 12 && axFrom none l
def prev (l : List Int) (k : Nat) : Option Int := if k = 0 then none else some (l[k - 1]?.getD 0)
theorem axFrom_drop (l : List Int) (k : Nat) (h : k < l.length) : axFrom (prev l k) (l.drop k) = (wB (l[k]?.getD 0) (-1000000) 1000000 && (if k = 0 then true else wB (l[k]?.getD 0 - l[k-1]?.getD 0) 1 10000) && axFrom (prev l (k + 1)) (l.drop (k + 1))) := by
  rw [List.drop_eq_getElem_cons h]
  have e : l[k]?.getD 0 = l[k] := by simp [h]
  by_cases hk : k = 0
  · subst hk; simp [prev, e, axFrom]
  · simp [prev, hk, e, axFrom]
theorem wB_iff {a b c : Int} : wB a b c = true ↔ b ≤ a ∧ a ≤ c := by simp [wB]
set_option maxHeartbeats 1000000 in
theorem axis_any (A : Option Addr) (l : List Int) (c : Nat) (w : World) (hl : l.length ≤ 4611686018427387904) (hA : Ints w A l) :
    Calls Try.prog 76 #[.slice A l.length c] w fun e w' => e = .returned (.bool (axB l)) ∧ w' = w := by
  by_cases hw : wB l.length 2 12 = true
  · have E := Lib.hid hw
    obtain ⟨h2, h12⟩ := wB_iff.1 hw
    have R : Hid (axB l = axFrom none l) := by unfold Hid axB; rw [hw]; rfl
    obtain ⟨b, off, rfl, hbl, hc⟩ := hA (by omega)
    have HC := Lib.hid hc
    clear hw hc hA
    go_enter Try.func76, Try.ntmps76
    go_wp2_with (go_at_call 71; refine (within_any _ _ _ _).mono ?_; rintro e w' ⟨rfl, rfl⟩; rw [E.out])
    go_loop [3, 4, 11] (fun _ _ i => ∃ k : Nat, k ≤ l.length ∧ i = .int .i64 k ∧ axFrom (prev l k) (l.drop k) = axFrom none l ∧ (0 < k → -1000000 ≤ l[k-1]?.getD 0 ∧ l[k-1]?.getD 0 ≤ 1000000)) (fun _ _ i => l.length - (intOf i).toNat)
    case atStart => exact ⟨0, by omega, rfl, by simp [prev], by omega⟩
    case round =>
      obtain ⟨k, hk, rfl, hp, hbd⟩ := hrel
      have HP := Lib.hid hp
      have HB := Lib.hid hbd
      clear hp hbd
      by_cases hlt : k < l.length
      · have hd := Lib.hid (axFrom_drop l k hlt)
        have h1 := HC.out k hlt
        generalize hx : l[k]?.getD 0 = x at h1
        have HX := Lib.hid hx
        clear hx
        by_cases hv : wB x (-1000000) 1000000 = true
        · have hvb := wB_iff.1 hv
          have HV := Lib.hid hv
          clear hv
          by_cases hk0 : k = 0
          · subst hk0
            simp only [Nat.add_zero] at h1
            go_wp2_with (go_at_call 71; refine (within_any _ _ _ _).mono ?_; rintro e w' ⟨rfl, rfl⟩; rw [HV.out])
            go_round
            case rel => exact ⟨1, by omega, by go_num, by rw [← HP.out, hd.out, HX.out, HV.out]; simp, fun _ => by simpa [HX.out] using hvb⟩
            case measure => simp [intOf]; omega
          · obtain ⟨j, rfl⟩ : ∃ j, k = j + 1 := ⟨k - 1, by omega⟩
            have h3 := HC.out j (by omega)
            have hyb := HB.out (by omega)
            simp only [Nat.add_sub_cancel] at hyb
            generalize hy : l[j]?.getD 0 = y at h3 hyb
            have HY := Lib.hid hy
            clear hy hk0
            have hj0 : (0 : Int) < (j : Int) + 1 := by omega
            by_cases hv2 : wB (x - y) 1 10000 = true
            · have HV2 := Lib.hid hv2
              clear hv2
              go_wp2_with (go_at_call 71; refine (within_any _ _ _ _).mono ?_; rintro e w' ⟨rfl, rfl⟩; first | rw [HV.out] | rw [HV2.out])
              go_round
              case rel => exact ⟨j + 1 + 1, by omega, by go_num, by rw [← HP.out, hd.out, HX.out, HV.out]; simp [HY.out, HV2.out], fun _ => by simpa [HX.out] using hvb⟩
              case measure => simp [intOf]; omega
            · have hv3 : wB (x - y) 1 10000 = false := by simpa using hv2
              have HV2 := Lib.hid hv3
              clear hv2 hv3
              go_wp2_with (go_at_call 71; refine (within_any _ _ _ _).mono ?_; rintro e w' ⟨rfl, rfl⟩; first | rw [HV.out] | rw [HV2.out])
              go_ret
              exact ⟨by rw [R.out, ← HP.out, hd.out, HX.out, HV.out]; simp [HY.out, HV2.out], rfl⟩
        · have hv3 : wB x (-1000000) 1000000 = false := by simpa using hv
          have HV := Lib.hid hv3
          clear hv hv3
          go_wp2_with (go_at_call 71; refine (within_any _ _ _ _).mono ?_; rintro e w' ⟨rfl, rfl⟩; rw [HV.out])
          go_ret
          exact ⟨by rw [R.out, ← HP.out, hd.out, HX.out, HV.out]; simp, rfl⟩
      · go_wp2
        go_ret
        exact ⟨by rw [R.out, ← HP.out, List.drop_eq_nil_of_le (by omega)]; simp [axFrom], rfl⟩
  · have hw' : wB l.length 2 12 = false := by simpa using hw
    have E := Lib.hid hw'
    have R : Hid (axB l = false) := by unfold Hid axB; rw [hw']; rfl
    clear hw hw' hA
    go_enter Try.func76, Try.ntmps76
    go_wp2_with (go_at_call 71; refine (within_any _ _ _ _).mono ?_; rintro e w' ⟨rfl, rfl⟩; rw [E.out])
    go_ret
    exact ⟨by rw [R.out]; rfl, rfl⟩
end Go.Proofs.Ytfaiogajaaclcaa
/- The contract of spans.CheckTable: 0 or ErrTable; old memory stays. -/
namespace Go.Proofs.Ytfaiogajaaclcaa
open Go.RowKit

theorem ct1_any (n : Int) (w : World) :
    Calls Try.prog 73 #[.int .i64 n] w fun e w' => e = .returned (.bool (!wB n (-1000000) 1000000)) ∧ w' = w := by
  go_enter Try.func73, Try.ntmps73
  go_wp2_with (go_at_call 71; refine (within_any _ _ _ _).mono ?_; rintro e w' ⟨rfl, rfl⟩)
  go_ret
  exact ⟨rfl, rfl⟩
set_option maxHeartbeats 400000 in
theorem indexFuncInt (g : Nat) (p : Int → Bool) (A : Option Addr) (l : List Int) (c : Nat) (w : World) (hl : l.length ≤ 4611686018427387904) (hA : Ints w A l) (he : Enters Try.prog g)
   (hg : ∀ (x : Int) (w' : World), Calls Try.prog g #[.int .i64 x] w' fun e w'' => e = .returned (.bool (p x)) ∧ Below w'.heap.size w' w'') :
   Calls Try.prog 105 #[.slice A l.length c, .func (.func g) #[] #[]] w fun e w' => e = .returned (.int .i64 (idxP p l 0)) ∧ Below w.heap.size w w' := by
  have HG := Lib.hid hg
  have HA := Lib.hid hA
  clear hg hA
  unfold Enters at he
  go_enter Try.func105, Try.ntmps105
  go_wp2
  go_loopw [5, 8] (fun _ i wr => ∃ k : Nat, k ≤ l.length ∧ i = .int .i64 k ∧ idxP p (l.drop k) k = idxP p l 0 ∧ Below w.heap.size w wr) (fun _ i _ => l.length - (intOf i).toNat)
  case atStart => exact ⟨0, by omega, rfl, by simp, Below.refl _ _⟩
  case round =>
    obtain ⟨k, hk, rfl, hp, hb⟩ := hrel
    have HP := Lib.hid hp
    clear hp
    by_cases hlt : k < l.length
    · obtain ⟨b, off, rfl, hbl, hc⟩ := HA.out (by omega)
      have h1 := (hb.cell (p := ⟨b, off + k, none⟩) hbl).trans (hc k hlt)
      have hd := Lib.hid (idxP_drop p l 0 k hlt)
      clear hc
      generalize hx : l[k]?.getD 0 = x at h1
      have HX := Lib.hid hx
      clear hx
      go_wp2_with fail
      refine (HG.out x _).mono ?_
      rintro e w1 ⟨rfl, hb1⟩
      have hb2 := hb.trans (hb1.mono hb.size)
      clear hb1
      by_cases hpx : p x = true
      · rw [hpx]
        go_wp2
        go_ret
        refine ⟨?_, hb2⟩
        rw [← HP.out, hd.out, HX.out, if_pos hpx]; rfl
      · have hpx' : p x = false := by simpa using hpx
        rw [hpx']
        go_wp2
        go_roundw
        case rel => exact ⟨k + 1, by omega, by go_num, by rw [← HP.out, hd.out, HX.out, if_neg hpx], hb2⟩
        case measure => simp [intOf]; omega
    · go_wp2
      go_ret
      refine ⟨?_, hb⟩
      rw [← HP.out, List.drop_eq_nil_of_le (by omega)]; rfl
set_option maxHeartbeats 400000 in
theorem containsFuncInt (g : Nat) (p : Int → Bool) (A : Option Addr) (l : List Int) (c : Nat) (w : World) (hl : l.length ≤ 4611686018427387904) (hA : Ints w A l) (he : Enters Try.prog g)
   (hg : ∀ (x : Int) (w' : World), Calls Try.prog g #[.int .i64 x] w' fun e w'' => e = .returned (.bool (p x)) ∧ Below w'.heap.size w' w'') :
   Calls Try.prog 75 #[.slice A l.length c, .func (.func g) #[] #[]] w fun e w' => e = .returned (.bool (l.any p)) ∧ Below w.heap.size w w' := by
  have H := Lib.hid (indexFuncInt g p A l c w hl hA he hg)
  clear hg hA he
  go_enter Try.func75, Try.ntmps75
  go_wp2_with fail
  refine H.out.mono ?_
  rintro e w1 ⟨rfl, hb1⟩
  go_wp2
  go_ret
  exact ⟨by rw [← idxP_ge p l 0]; rfl, hb1⟩
theorem enters_ct1 : Enters Try.prog 73 := fun _ _ => by kernel_rfl
theorem enters_ct2 : Enters Try.prog 74 := fun _ _ => by kernel_rfl

/- rows and a function value that has caught two variables -/
set_option maxHeartbeats 400000 in
theorem indexFuncRow (g : Nat) (p : List Int → Bool) (u v : Value) (A : Option Addr) (l : List (List Int)) (c : Nat) (w : World) (hl : l.length ≤ 4611686018427387904) (hA : Mat w A l) (he : Enters Try.prog g)
   (hg : ∀ (B : Option Addr) (x : List Int) (d : Nat) (w' : World), x ∈ l → Below w.heap.size w w' → Ints w' B x → Calls Try.prog g #[.slice B x.length d, u, v] w' fun e w'' => e = .returned (.bool (p x)) ∧ Below w'.heap.size w' w'') :
   Calls Try.prog 106 #[.slice A l.length c, .func (.func g) #[] #[u, v]] w fun e w' => e = .returned (.int .i64 (idxP p l 0)) ∧ Below w.heap.size w w' := by
  have HG := Lib.hid hg
  have HA := Lib.hid hA
  clear hg hA
  unfold Enters at he
  go_enter Try.func106, Try.ntmps106
  go_wp2
  go_loopw [5, 8] (fun _ i wr => ∃ k : Nat, k ≤ l.length ∧ i = .int .i64 k ∧ idxP p (l.drop k) k = idxP p l 0 ∧ Below w.heap.size w wr) (fun _ i _ => l.length - (intOf i).toNat)
  case atStart => exact ⟨0, by omega, rfl, by simp, Below.refl _ _⟩
  case round =>
    obtain ⟨k, hk, rfl, hp, hb⟩ := hrel
    have HP := Lib.hid hp
    clear hp
    by_cases hlt : k < l.length
    · obtain ⟨b, off, rfl, hbl, hc⟩ := HA.out (by omega)
      obtain ⟨B, d, hc1, hB⟩ := hc k hlt
      have h1 := (hb.cell (p := ⟨b, off + k, none⟩) hbl).trans hc1
      have hd := Lib.hid (idxP_drop p l [] k hlt)
      have hm : l[k]?.getD [] ∈ l := by simp [hlt]
      have HI := Lib.hid (hB.below hb)
      clear hc hc1 hB
      generalize hx : l[k]?.getD [] = x at h1 HI hm
      have HX := Lib.hid hx
      have HM := Lib.hid hm
      clear hx hm
      go_wp2_with fail
      refine (HG.out B x d _ HM.out hb HI.out).mono ?_
      rintro e w1 ⟨rfl, hb1⟩
      have hb2 := hb.trans (hb1.mono hb.size)
      clear hb1
      by_cases hpx : p x = true
      · rw [hpx]
        go_wp2
        go_ret
        refine ⟨?_, hb2⟩
        rw [← HP.out, hd.out, HX.out, if_pos hpx]; rfl
      · have hpx' : p x = false := by simpa using hpx
        rw [hpx']
        go_wp2
        go_roundw
        case rel => exact ⟨k + 1, by omega, by go_num, by rw [← HP.out, hd.out, HX.out, if_neg hpx], hb2⟩
        case measure => simp [intOf]; omega
    · go_wp2
      go_ret
      refine ⟨?_, hb⟩
      rw [← HP.out, List.drop_eq_nil_of_le (by omega)]; rfl
set_option maxHeartbeats 400000 in
theorem containsFuncRow (g : Nat) (p : List Int → Bool) (u v : Value) (A : Option Addr) (l : List (List Int)) (c : Nat) (w : World) (hl : l.length ≤ 4611686018427387904) (hA : Mat w A l) (he : Enters Try.prog g)
   (hg : ∀ (B : Option Addr) (x : List Int) (d : Nat) (w' : World), x ∈ l → Below w.heap.size w w' → Ints w' B x → Calls Try.prog g #[.slice B x.length d, u, v] w' fun e w'' => e = .returned (.bool (p x)) ∧ Below w'.heap.size w' w'') :
   Calls Try.prog 77 #[.slice A l.length c, .func (.func g) #[] #[u, v]] w fun e w' => e = .returned (.bool (l.any p)) ∧ Below w.heap.size w w' := by
  have H := Lib.hid (indexFuncRow g p u v A l c w hl hA he hg)
  clear hg hA he
  go_enter Try.func77, Try.ntmps77
  go_wp2_with fail
  refine H.out.mono ?_
  rintro e w1 ⟨rfl, hb1⟩
  go_wp2
  go_ret
  exact ⟨by rw [← idxP_ge p l 0]; rfl, hb1⟩

def rowBad (n : Nat) (r : List Int) : Bool := ((r.length : Int) != (n : Int)) || r.any (fun x => !wB x (-1000000) 1000000)
set_option maxHeartbeats 400000 in
theorem ct2_any (B Y : Option Addr) (x ys : List Int) (d cy bt bo : Nat) (w : World) (hx : x.length ≤ 4611686018427387904) (hB : Ints w B x)
    (h1 : w.cell? ⟨bt, 1, none⟩ = some (.slice Y ys.length cy)) (h2 : w.cell? ⟨bo, 0, none⟩ = some (.func (.func 73) #[] #[])) :
    Calls Try.prog 74 #[.slice B x.length d, .pointer (some ⟨bt, 0, none⟩), .pointer (some ⟨bo, 0, none⟩)] w fun e w' => e = .returned (.bool (rowBad ys.length x)) ∧ Below w.heap.size w w' := by
  have H := Lib.hid (containsFuncInt 73 (fun x => !wB x (-1000000) 1000000) B x d w hx hB enters_ct1 (fun x w' => (ct1_any x w').mono (fun e w'' ⟨h, h'⟩ => ⟨h, h' ▸ Below.refl _ _⟩)))
  clear hB
  by_cases hn : ((x.length : Int) != (ys.length : Int)) = true
  · have R : Hid (rowBad ys.length x = true) := by unfold Hid rowBad; rw [hn]; rfl
    go_enter Try.func74, Try.ntmps74
    go_wp2
    go_ret
    exact ⟨by rw [R.out]; rfl, Below.refl _ _⟩
  · have hn' : ((x.length : Int) != (ys.length : Int)) = false := by simpa using hn
    have R : Hid (rowBad ys.length x = x.any (fun x => !wB x (-1000000) 1000000)) := by unfold Hid rowBad; rw [hn']; rfl
    clear hn
    go_enter Try.func74, Try.ntmps74
    go_wp2_with fail
    refine H.out.mono ?_
    rintro e w1 ⟨rfl, hb1⟩
    go_wp2
    go_ret
    exact ⟨by rw [R.out]; rfl, hb1⟩
end Go.Proofs.Ytfaiogajaaclcaa
/- The contract of spans.CheckTable: 0 or ErrTable; old memory stays. -/
namespace Go.Proofs.Ytfaiogajaaclcaa
open Go.RowKit

def tabB (xs ys : List Int) (vs : List (List Int)) : Bool := axB xs && axB ys && !((vs.length : Int) != (xs.length : Int)) && !vs.any (rowBad ys.length)
def tabErr (xs ys : List Int) (vs : List (List Int)) : Int := if tabB xs ys vs then 0 else 11
def RowsLe (vs : List (List Int)) : Prop := ∀ r, r ∈ vs → r.length ≤ 4611686018427387904
set_option maxHeartbeats 1000000 in
theorem checkTable_any (xs ys : List Int) (vs : List (List Int)) (X Y V : Option Addr) (cx cy cv : Nat) (w : World)
   (hxl : xs.length ≤ 4611686018427387904) (hyl : ys.length ≤ 4611686018427387904) (hvl : vs.length ≤ 4611686018427387904) (hr : RowsLe vs)
   (hX : Ints w X xs) (hY : Ints w Y ys) (hV : Mat w V vs) :
   Calls Try.prog 26 #[.agg #[.slice X xs.length cx, .slice Y ys.length cy, .slice V vs.length cv]] w fun e w' => e = .returned (.int .i64 (tabErr xs ys vs)) ∧ Below w.heap.size w w' := by
  have hB2 : ∀ (o1 o2 : Obj), Below w.heap.size w ((w.alloc o1).alloc o2) := fun o1 o2 => ((Below.refl _ w).alloc (Nat.le_refl _) _).alloc (by simp) _
  have HB2 := Lib.hid hB2
  have HXx := Lib.hid hX
  have HYy := Lib.hid hY
  have HVv := Lib.hid hV
  have HR := Lib.hid hr
  clear hX hY hV hr hB2
  by_cases hx : axB xs = true
  · have EX := Lib.hid hx
    by_cases hy : axB ys = true
    · have EY := Lib.hid hy
      by_cases hn : ((vs.length : Int) != (xs.length : Int)) = true
      · have R : Hid (tabErr xs ys vs = 11) := by unfold Hid tabErr tabB; rw [hn]; simp
        clear hx hy
        go_enter Try.func26, Try.ntmps26
        go_wp2_with fail
        refine (axis_any X xs cx _ hxl (HXx.out.below (HB2.out _ _))).mono ?_
        rintro e w' ⟨rfl, rfl⟩
        rw [EX.out]
        go_wp2_with fail
        refine (axis_any Y ys cy _ hyl (HYy.out.below (HB2.out _ _))).mono ?_
        rintro e w' ⟨rfl, rfl⟩
        rw [EY.out]
        go_wp2_with fail
        go_ret
        exact ⟨by rw [R.out]; rfl, HB2.out _ _⟩
      · have hn' : ((vs.length : Int) != (xs.length : Int)) = false := by simpa using hn
        have R : Hid (tabErr xs ys vs = if vs.any (rowBad ys.length) then 11 else 0) := by unfold Hid tabErr tabB; rw [hn', hx, hy]; cases vs.any (rowBad ys.length) <;> rfl
        clear hx hy hn
        go_enter Try.func26, Try.ntmps26
        go_wp2_with fail
        refine (axis_any X xs cx _ hxl (HXx.out.below (HB2.out _ _))).mono ?_
        rintro e w' ⟨rfl, rfl⟩
        rw [EX.out]
        go_wp2_with fail
        refine (axis_any Y ys cy _ hyl (HYy.out.below (HB2.out _ _))).mono ?_
        rintro e w' ⟨rfl, rfl⟩
        rw [EY.out]
        go_wp2_with fail
        refine (containsFuncRow 74 (rowBad ys.length) _ _ V vs cv _ hvl (HVv.out.below (HB2.out _ _)) enters_ct2 ?_).mono ?_
        · intro B x d w' hm hb hI
          exact ct2_any B Y x ys d cy w.heap.size (w.heap.size + 1) w' (HR.out x hm) hI (by rw [hb.cell (by simp <;> omega)]; simp) (by rw [hb.cell (by simp <;> omega)]; simp)
        · rintro e w1 ⟨rfl, hb1⟩
          have hb2 := (HB2.out _ _).trans (hb1.mono (by simp; omega))
          clear hb1
          by_cases ha : vs.any (rowBad ys.length) = true
          · rw [ha]
            go_wp2_with fail
            go_ret
            exact ⟨by rw [R.out, if_pos ha]; rfl, hb2⟩
          · have ha' : vs.any (rowBad ys.length) = false := by simpa using ha
            rw [ha']
            go_wp2_with fail
            go_ret
            exact ⟨by rw [R.out, if_neg ha]; rfl, hb2⟩
    · have hy' : axB ys = false := by simpa using hy
      have EY := Lib.hid hy'
      have R : Hid (tabErr xs ys vs = 11) := by unfold Hid tabErr tabB; rw [hy']; simp
      clear hx hy hy'
      go_enter Try.func26, Try.ntmps26
      go_wp2_with fail
      refine (axis_any X xs cx _ hxl (HXx.out.below (HB2.out _ _))).mono ?_
      rintro e w' ⟨rfl, rfl⟩
      rw [EX.out]
      go_wp2_with fail
      refine (axis_any Y ys cy _ hyl (HYy.out.below (HB2.out _ _))).mono ?_
      rintro e w' ⟨rfl, rfl⟩
      rw [EY.out]
      go_wp2_with fail
      go_ret
      exact ⟨by rw [R.out]; rfl, HB2.out _ _⟩
  · have hx' : axB xs = false := by simpa using hx
    have EX := Lib.hid hx'
    have R : Hid (tabErr xs ys vs = 11) := by unfold Hid tabErr tabB; rw [hx']; simp
    clear hx hx'
    go_enter Try.func26, Try.ntmps26
    go_wp2_with fail
    refine (axis_any X xs cx _ hxl (HXx.out.below (HB2.out _ _))).mono ?_
    rintro e w' ⟨rfl, rfl⟩
    rw [EX.out]
    go_wp2_with fail
    go_ret
    exact ⟨by rw [R.out]; rfl, HB2.out _ _⟩
end Go.Proofs.Ytfaiogajaaclcaa
/- The contract of slices.BinarySearch at ints, and of spans.cell. -/
namespace Go.Proofs.Ytfaiogajaaclcaa
open Go.RowKit

theorem isNaN_any (n : Int) (w : World) : Calls Try.prog 120 #[.int .i64 n] w fun e w' => e = .returned (.bool false) ∧ w' = w := by
  have h : (n != n) = false := by simp
  go_enter Try.func120, Try.ntmps120
  go_wp2
  go_ret
  exact ⟨rfl, rfl⟩
theorem cisNaN_any (n : Int) (w : World) : Calls Try.prog 118 #[.int .i64 n] w fun e w' => e = .returned (.bool false) ∧ w' = w := by
  have h : (n != n) = false := by simp
  go_enter Try.func118, Try.ntmps118
  go_wp2
  go_ret
  exact ⟨rfl, rfl⟩
set_option maxHeartbeats 400000 in
theorem less_any (a b : Int) (w : World) : Calls Try.prog 119 #[.int .i64 a, .int .i64 b] w fun e w' => e = .returned (.bool (decide (a < b))) ∧ w' = w := by
  go_enter Try.func119, Try.ntmps119
  go_wp2_with (go_at_call 118; refine (cisNaN_any _ _).mono ?_; rintro e w' ⟨rfl, rfl⟩)
  go_ret
  exact ⟨rfl, rfl⟩
def BinAt (l : List Int) (x : Int) (i : Nat) : Prop := i ≤ l.length ∧ (0 < i → l[i-1]?.getD 0 < x) ∧ (i < l.length → x ≤ l[i]?.getD 0)
def BinPost (l : List Int) (x : Int) (w : World) (e : Ending) (w' : World) : Prop := ∃ (i : Nat) (b : Bool), BinAt l x i ∧ e = .returned (.tuple #[.int .i64 i, .bool b]) ∧ w' = w
set_option maxHeartbeats 400000 in
theorem binSearch_any (A : Option Addr) (l : List Int) (c : Nat) (x : Int) (w : World) (hl : l.length ≤ 1000000000) (hA : Ints w A l) :
    Calls Try.prog 115 #[.slice A l.length c, .int .i64 x] w (BinPost l x w) := by
  have HA := Lib.hid hA
  clear hA
  go_enter Try.func115, Try.ntmps115
  go_wp2
  go_loop [7, 8, 9] (fun i j _ => ∃ a b : Nat, a ≤ b ∧ b ≤ l.length ∧ i = .int .i64 a ∧ j = .int .i64 b ∧ (0 < a → l[a-1]?.getD 0 < x) ∧ (b < l.length → x ≤ l[b]?.getD 0)) (fun i j _ => (intOf j).toNat - (intOf i).toNat)
  case atStart => exact ⟨0, l.length, by omega, by omega, rfl, rfl, by omega, by omega⟩
  case round =>
    obtain ⟨a, b, hab, hbl, rfl, rfl, h1, h2⟩ := hrel
    have H1 := Lib.hid h1
    have H2 := Lib.hid h2
    clear h1 h2
    by_cases hlt : a < b
    · obtain ⟨bb, off, rfl, hbl2, hc⟩ := HA.out (by omega)
      have hc1 := hc ((a + b) / 2) (by omega)
      clear hc
      generalize hy : l[(a + b) / 2]?.getD 0 = y at hc1
      have HY := Lib.hid hy
      clear hy
      go_wp2_with fail
      refine (less_any _ _ _).mono ?_
      rintro e w' ⟨rfl, rfl⟩
      by_cases hyx : y < x
      · rw [decide_eq_true hyx]
        go_wp2_with fail
        go_round
        case rel => exact ⟨(a + b) / 2 + 1, b, by omega, by omega, by go_num, rfl, fun _ => by rw [Nat.add_sub_cancel, HY.out]; exact hyx, H2.out⟩
        case measure => simp [intOf]; omega
      · rw [decide_eq_false hyx]
        go_wp2_with fail
        go_round
        case rel => exact ⟨a, (a + b) / 2, by omega, by omega, rfl, by go_num, H1.out, fun _ => by rw [HY.out]; omega⟩
        case measure => simp [intOf]; omega
    · obtain rfl : a = b := by omega
      have HB : Hid (BinAt l x a) := ⟨hbl, H1.out, H2.out⟩
      clear H1 H2
      by_cases hal : a < l.length
      · obtain ⟨bb, off, rfl, hbl2, hc⟩ := HA.out (by omega)
        have hc1 := hc a hal
        clear hc
        generalize l[a]?.getD 0 = y at hc1
        by_cases hyx : (y == x) = true
        · go_wp2_with (go_at_call 120; refine (isNaN_any _ _).mono ?_; rintro e w' ⟨rfl, rfl⟩)
          go_ret2
          exact ⟨a, _, HB.out, rfl, rfl⟩
        · have hyx' : (y == x) = false := by simpa using hyx
          clear hyx
          go_wp2_with (go_at_call 120; refine (isNaN_any _ _).mono ?_; rintro e w' ⟨rfl, rfl⟩)
          go_ret2
          exact ⟨a, _, HB.out, rfl, rfl⟩
      · obtain rfl : a = l.length := by omega
        go_wp2_with (go_at_call 120; refine (isNaN_any _ _).mono ?_; rintro e w' ⟨rfl, rfl⟩)
        go_ret2
        exact ⟨_, _, HB.out, rfl, rfl⟩
end Go.Proofs.Ytfaiogajaaclcaa
/- The contract of spans.cell. -/
namespace Go.Proofs.Ytfaiogajaaclcaa
open Go.RowKit

/-- the number of the part of an axis: what spans.cell may return -/
def CellAt (l : List Int) (x : Int) (i : Nat) : Prop := i + 2 ≤ l.length ∧ (0 < i → l[i]?.getD 0 < x) ∧ (i + 2 < l.length → x ≤ l[i+1]?.getD 0)
theorem cellAt_of_bin (l : List Int) (x : Int) (i : Nat) (h2 : 2 ≤ l.length) (h : BinAt ((l.drop 1).take (l.length - 2)) x i) : CellAt l x i := by
  obtain ⟨h1, h3, h4⟩ := h
  have e : ((l.drop 1).take (l.length - 2)).length = l.length - 2 := by simp; omega
  rw [e] at h1 h4
  refine ⟨by omega, fun h0 => ?_, fun hi => ?_⟩
  · have := h3 h0
    rw [List.getElem?_take, if_pos (by omega), List.getElem?_drop, show 1 + (i - 1) = i by omega] at this
    exact this
  · have := h4 (by omega)
    rw [List.getElem?_take, if_pos (by omega), List.getElem?_drop, show 1 + i = i + 1 by omega] at this
    exact this
def CellPost (l : List Int) (x : Int) (w : World) (e : Ending) (w' : World) : Prop := ∃ i : Nat, CellAt l x i ∧ e = .returned (.int .i64 i) ∧ w' = w
set_option maxHeartbeats 400000 in
theorem cell_any (A : Option Addr) (l : List Int) (c : Nat) (x : Int) (w : World) (h2 : 2 ≤ l.length) (hl : l.length ≤ 1000000) (hlc : l.length ≤ c) (hA : Ints w A l) :
    Calls Try.prog 108 #[.slice A l.length c, .int .i64 x] w (CellPost l x w) := by
  obtain ⟨b, off, rfl, hb, hc⟩ := hA (by omega)
  have e : ((l.drop 1).take (l.length - 2)).length = l.length - 1 - 1 := by simp; omega
  have hsub : Ints w (some ⟨b, off + 1, none⟩) ((l.drop 1).take (l.length - 2)) := fun _ => ⟨b, off + 1, rfl, hb, fun k hk => by
    rw [e] at hk
    rw [List.getElem?_take, if_pos (by omega), List.getElem?_drop, show off + 1 + k = off + (1 + k) by omega]
    exact hc (1 + k) (by omega)⟩
  have h := binSearch_any (some ⟨b, off + 1, none⟩) ((l.drop 1).take (l.length - 2)) (c - 1) x w (by omega) hsub
  rw [e] at h
  have H := Lib.hid h
  have hi1 : (1 : Int) ≤ (l.length : Int) - 1 := by omega
  have hi2 : (l.length : Int) - 1 ≤ (c : Int) := by omega
  clear hc hA e hsub h
  go_enter Try.func108, Try.ntmps108
  go_wp2_with fail
  refine H.out.mono ?_
  rintro e w' ⟨i, bb, hbin, rfl, rfl⟩
  have HB := Lib.hid hbin
  clear hbin
  go_wp2_with fail
  go_ret
  exact ⟨i, cellAt_of_bin l x i h2 HB.out, rfl, rfl⟩
end Go.Proofs.Ytfaiogajaaclcaa
/- Plain facts of an axis that is valid, and of the part of it in which a number lies. -/
namespace Go.Proofs.Ytfaiogajaaclcaa
open Go.RowKit

theorem axFrom_all (p : Option Int) (l : List Int) (h : axFrom p l = true) : (∀ k, k < l.length → -1000000 ≤ l[k]?.getD 0 ∧ l[k]?.getD 0 ≤ 1000000) ∧
    (∀ k, k + 1 < l.length → 1 ≤ l[k+1]?.getD 0 - l[k]?.getD 0 ∧ l[k+1]?.getD 0 - l[k]?.getD 0 ≤ 10000) ∧ (∀ y, p = some y → 0 < l.length → 1 ≤ l[0]?.getD 0 - y ∧ l[0]?.getD 0 - y ≤ 10000) := by
  induction l generalizing p with
  | nil => simp
  | cons x xs ih =>
    simp only [axFrom, Bool.and_eq_true] at h
    obtain ⟨⟨h1, h2⟩, h3⟩ := h
    obtain ⟨i1, i2, i3⟩ := ih _ h3
    have hx := wB_iff.1 h1
    refine ⟨fun k hk => ?_, fun k hk => ?_, fun y hy _ => ?_⟩
    · cases k with
      | zero => simpa using hx
      | succ k => simpa using i1 k (by simpa using hk)
    · cases k with
      | zero => simpa using i3 x rfl (by simpa using hk)
      | succ k => simpa using i2 k (by simpa using hk)
    · subst hy
      simpa using wB_iff.1 h2
structure Axis (l : List Int) : Prop where
  two : 2 ≤ l.length
  twelve : l.length ≤ 12
  bd : ∀ k, k < l.length → -1000000 ≤ l[k]?.getD 0 ∧ l[k]?.getD 0 ≤ 1000000
  gap : ∀ k, k + 1 < l.length → 1 ≤ l[k+1]?.getD 0 - l[k]?.getD 0 ∧ l[k+1]?.getD 0 - l[k]?.getD 0 ≤ 10000
theorem axis_of {l : List Int} (h : axB l = true) : Axis l := by
  unfold axB at h
  simp only [Bool.and_eq_true] at h
  have h1 := wB_iff.1 h.1
  obtain ⟨a, b, _⟩ := axFrom_all none l h.2
  exact ⟨by omega, by omega, a, b⟩
theorem Axis.mono {l : List Int} (h : Axis l) (i j : Nat) (hij : i ≤ j) (hj : j < l.length) : l[i]?.getD 0 ≤ l[j]?.getD 0 := by
  induction j with
  | zero => obtain rfl : i = 0 := by omega
            exact Int.le_refl _
  | succ j ih =>
    by_cases e : i = j + 1
    · subst e; exact Int.le_refl _
    · have := ih (by omega) (by omega)
      have := h.gap j hj
      omega
theorem Axis.cell_unique {l : List Int} (h : Axis l) {x : Int} {i j : Nat} (hi : CellAt l x i) (hj : CellAt l x j) : i = j := by
  have key : ∀ {i j : Nat}, CellAt l x i → CellAt l x j → ¬ i < j := by
    intro i j hi hj hlt
    have h1 := hi.2.2 (by have := hj.1; omega)
    have h2 := hj.2.1 (by omega)
    have h3 := h.mono (i + 1) j (by omega) (by have := hj.1; omega)
    omega
  have h1 := key hi hj
  have h2 := key hj hi
  omega
instance (l : List Int) (x : Int) (i : Nat) : Decidable (CellAt l x i) := by unfold CellAt; exact inferInstance
def cellI (l : List Int) (x : Int) : Nat := ((List.range l.length).find? (fun i => decide (CellAt l x i))).getD 0
theorem Axis.cellI_eq {l : List Int} (h : Axis l) {x : Int} {i : Nat} (hi : CellAt l x i) : cellI l x = i := by
  unfold cellI
  cases e : (List.range l.length).find? (fun i => decide (CellAt l x i)) with
  | none =>
    have := List.find?_eq_none.1 e i (by have := hi.1; simp; omega)
    simp [hi] at this
  | some j =>
    have := List.find?_some e
    exact h.cell_unique (by simpa using this) hi
theorem cellI_any (A : Option Addr) (l : List Int) (c : Nat) (x : Int) (w : World) (h : Axis l) (hlc : l.length ≤ c) (hA : Ints w A l) :
    Calls Try.prog 108 #[.slice A l.length c, .int .i64 x] w fun e w' => e = .returned (.int .i64 (cellI l x)) ∧ w' = w :=
  (cell_any A l c x w h.two (by have := h.twelve; omega) hlc hA).mono fun _ _ ⟨i, hi, he, hw⟩ => ⟨by rw [h.cellI_eq hi]; exact he, hw⟩
/-- a number that lies on an axis -/
def OnAx (l : List Int) (x : Int) : Prop := l[0]?.getD 0 ≤ x ∧ x ≤ l[l.length - 1]?.getD 0
theorem Axis.cell_exists {l : List Int} (h : Axis l) (x : Int) : ∃ i, CellAt l x i := by
  -- the first i from 0 on at which the number is at most the next knot, or the last part
  have key : ∀ n i, i + n + 2 = l.length → (0 < i → l[i]?.getD 0 < x) → ∃ j, CellAt l x j := by
    intro n
    induction n with
    | zero => intro i hi h0; exact ⟨i, by omega, h0, by omega⟩
    | succ n ih =>
      intro i hi h0
      by_cases hx : x ≤ l[i+1]?.getD 0
      · exact ⟨i, by omega, h0, fun _ => hx⟩
      · exact ih (i + 1) (by omega) (fun _ => by omega)
  exact key (l.length - 2) 0 (by have := h.two; omega) (by omega)
theorem Axis.cellI_at {l : List Int} (h : Axis l) (x : Int) : CellAt l x (cellI l x) := by
  obtain ⟨i, hi⟩ := h.cell_exists x
  rw [h.cellI_eq hi]; exact hi
theorem Axis.cell_on {l : List Int} (h : Axis l) {x : Int} (ho : OnAx l x) : cellI l x + 1 < l.length ∧ l[cellI l x]?.getD 0 ≤ x ∧ x ≤ l[cellI l x + 1]?.getD 0 ∧ l[cellI l x + 1]?.getD 0 - l[cellI l x]?.getD 0 ≤ 10000 ∧ 1 ≤ l[cellI l x + 1]?.getD 0 - l[cellI l x]?.getD 0 := by
  obtain ⟨h1, h2, h3⟩ := h.cellI_at x
  generalize cellI l x = i at *
  have g := h.gap i (by omega)
  refine ⟨by omega, ?_, ?_, g.2, g.1⟩
  · by_cases h0 : 0 < i
    · have := h2 h0; omega
    · obtain rfl : i = 0 := by omega
      exact ho.1
  · by_cases h0 : i + 2 < l.length
    · exact h3 h0
    · have : i + 1 = l.length - 1 := by omega
      rw [this]; exact ho.2
end Go.Proofs.Ytfaiogajaaclcaa
/- The contract of spans.at: the value of a valid table at a point on it, as a fraction; old memory stays. -/
namespace Go.Proofs.Ytfaiogajaaclcaa
open Go.RowKit

theorem wp_region_tail {P : Program} {id : Nat} {Q : Exit → Act → World → Prop} {a : Act} {w : World} {l : List Oper} (n : Nat) (hm : P.follows .mixedOrders = true) (hB : Region.lexTailB .any l.toArray n = true)
    (h : wpStill P l.toArray w.drew (fun a' => wpList P l.toArray Q (l.drop n) a' w.drew) (l.take n) a) : (Code.region id l.toArray true).wp P Q a w := wp_region_still_tail n hm hB h
def numF (a b c d z00 z10 z01 z11 : Int) : Int := a * c * z00 + b * c * z10 + a * d * z01 + b * d * z11
def denF (a b c d : Int) : Int := (a + b) * (c + d)
theorem mul_bd {a b A B : Int} (ha : 0 ≤ a) (ha' : a ≤ A) (hb : 0 ≤ b) (hb' : b ≤ B) : 0 ≤ a * b ∧ a * b ≤ A * B :=
  ⟨Int.mul_nonneg ha hb, Int.mul_le_mul ha' hb' hb (by omega)⟩
theorem mul_bd2 {a z A B : Int} (ha : 0 ≤ a) (ha' : a ≤ A) (hz : -B ≤ z) (hz' : z ≤ B) (hB : 0 ≤ B) : -(A * B) ≤ a * z ∧ a * z ≤ A * B := by
  have h1 : a * z ≤ a * B := Int.mul_le_mul_of_nonneg_left hz' ha
  have h2 : a * (-B) ≤ a * z := Int.mul_le_mul_of_nonneg_left hz ha
  have h3 : a * B ≤ A * B := Int.mul_le_mul_of_nonneg_right ha' hB
  rw [Int.mul_neg] at h2
  omega
/-- what a table in memory reads as -/
structure TabR (w : World) (X Y V : Option Addr) (cx cy cv : Nat) (xs ys : List Int) (vs : List (List Int)) : Prop where
  hX : Ints w X xs
  hY : Ints w Y ys
  hV : Mat w V vs
  lx : xs.length ≤ cx
  ly : ys.length ≤ cy
theorem TabR.below {w w' : World} {X Y V : Option Addr} {cx cy cv : Nat} {xs ys : List Int} {vs : List (List Int)} (h : TabR w X Y V cx cy cv xs ys vs) (hb : Below w.heap.size w w') : TabR w' X Y V cx cy cv xs ys vs :=
  ⟨h.hX.below hb, h.hY.below hb, h.hV.below hb, h.lx, h.ly⟩
structure Tbl (xs ys : List Int) (vs : List (List Int)) : Prop where
  ax : Axis xs
  ay : Axis ys
  len : vs.length = xs.length
  row : ∀ k, k < vs.length → (vs[k]?.getD []).length = ys.length
  val : ∀ k j, k < vs.length → j < ys.length → -1000000 ≤ (vs[k]?.getD [])[j]?.getD 0 ∧ (vs[k]?.getD [])[j]?.getD 0 ≤ 1000000
theorem tbl_of {xs ys : List Int} {vs : List (List Int)} (h : tabB xs ys vs = true) : Tbl xs ys vs := by
  unfold tabB at h
  simp only [Bool.and_eq_true, Bool.not_eq_true', bne_eq_false_iff_eq, List.any_eq_false] at h
  obtain ⟨⟨⟨h1, h2⟩, h3⟩, h4⟩ := h
  have hr : ∀ k, k < vs.length → rowBad ys.length (vs[k]?.getD []) = false := fun k hk => by
    have := h4 (vs[k]?.getD []) (by simp [hk])
    simpa using this
  refine ⟨axis_of h1, axis_of h2, by omega, fun k hk => ?_, fun k j hk hj => ?_⟩
  · have := hr k hk
    unfold rowBad at this
    simp only [Bool.or_eq_false_iff, bne_eq_false_iff_eq] at this
    omega
  · have := hr k hk
    unfold rowBad at this
    simp only [Bool.or_eq_false_iff, bne_eq_false_iff_eq, List.any_eq_false] at this
    have h5 := this.2 ((vs[k]?.getD [])[j]?.getD 0) (by
      have : j < (vs[k]?.getD []).length := by omega
      simp [this])
    simp only [Bool.not_eq_true', Bool.not_eq_false] at h5
    exact wB_iff.1 h5
def atN (xs ys : List Int) (vs : List (List Int)) (x y : Int) : Int :=
  let i := cellI xs x; let k := cellI ys y
  numF (xs[i+1]?.getD 0 - x) (x - xs[i]?.getD 0) (ys[k+1]?.getD 0 - y) (y - ys[k]?.getD 0)
    ((vs[i]?.getD [])[k]?.getD 0) ((vs[i+1]?.getD [])[k]?.getD 0) ((vs[i]?.getD [])[k+1]?.getD 0) ((vs[i+1]?.getD [])[k+1]?.getD 0)
def atD (xs ys : List Int) (x y : Int) : Int :=
  let i := cellI xs x; let k := cellI ys y
  denF (xs[i+1]?.getD 0 - x) (x - xs[i]?.getD 0) (ys[k+1]?.getD 0 - y) (y - ys[k]?.getD 0)
set_option maxHeartbeats 2000000 in
set_option maxRecDepth 100000 in
theorem at_any (xs ys : List Int) (vs : List (List Int)) (X Y V : Option Addr) (cx cy cv : Nat) (x y : Int) (w : World)
   (hT : Tbl xs ys vs) (hR : TabR w X Y V cx cy cv xs ys vs) (hx : OnAx xs x) (hy : OnAx ys y) :
   Calls Try.prog 83 #[.agg #[.slice X xs.length cx, .slice Y ys.length cy, .slice V vs.length cv], .int .i64 x, .int .i64 y] w
     fun e w' => e = .returned (.agg #[.int .i64 (atN xs ys vs x y), .int .i64 (atD xs ys x y)]) ∧ Below w.heap.size w w' := by
  have q1 := hT.ax.cell_on hx
  have q2 := hT.ay.cell_on hy
  have hq1 : ∀ W, Below w.heap.size w W → Calls Try.prog 108 #[.slice X xs.length cx, .int .i64 x] W fun e w' => e = .returned (.int .i64 (cellI xs x)) ∧ w' = W :=
    fun W hb => cellI_any X xs cx x W hT.ax hR.lx (hR.hX.below hb)
  have hq2 : ∀ W, Below w.heap.size w W → Calls Try.prog 108 #[.slice Y ys.length cy, .int .i64 y] W fun e w' => e = .returned (.int .i64 (cellI ys y)) ∧ w' = W :=
    fun W hb => cellI_any Y ys cy y W hT.ay hR.ly (hR.hY.below hb)
  have hN : atN xs ys vs x y = numF (xs[cellI xs x + 1]?.getD 0 - x) (x - xs[cellI xs x]?.getD 0) (ys[cellI ys y + 1]?.getD 0 - y) (y - ys[cellI ys y]?.getD 0)
    ((vs[cellI xs x]?.getD [])[cellI ys y]?.getD 0) ((vs[cellI xs x + 1]?.getD [])[cellI ys y]?.getD 0) ((vs[cellI xs x]?.getD [])[cellI ys y + 1]?.getD 0) ((vs[cellI xs x + 1]?.getD [])[cellI ys y + 1]?.getD 0) := rfl
  have hD : atD xs ys x y = denF (xs[cellI xs x + 1]?.getD 0 - x) (x - xs[cellI xs x]?.getD 0) (ys[cellI ys y + 1]?.getD 0 - y) (y - ys[cellI ys y]?.getD 0) := rfl
  generalize cellI xs x = i at *
  generalize cellI ys y = k at *
  have t12x := hT.ax.twelve
  have t12y := hT.ay.twelve
  have lenv := hT.len
  have r0 := hT.row i (by omega)
  have r1 := hT.row (i+1) (by omega)
  have b00 := hT.val i k (by omega) (by omega)
  have b01 := hT.val i (k+1) (by omega) (by omega)
  have b10 := hT.val (i+1) k (by omega) (by omega)
  have b11 := hT.val (i+1) (k+1) (by omega) (by omega)
  obtain ⟨bx, ox, rfl, hbx, hcx⟩ := hR.hX (by omega)
  obtain ⟨bY, oy, rfl, hby, hcy⟩ := hR.hY (by omega)
  obtain ⟨bv, ov, rfl, hbv, hcv⟩ := hR.hV (by omega)
  obtain ⟨R0, c0, e0, hR0⟩ := hcv i (by omega)
  obtain ⟨R1, c1, e1, hR1⟩ := hcv (i+1) (by omega)
  obtain ⟨b0, o0, rfl, hb0, hc0⟩ := hR0 (by omega)
  obtain ⟨b1, o1, rfl, hb1, hc1⟩ := hR1 (by omega)
  have cx0 := hcx i (by omega)
  have cx1 := hcx (i+1) (by omega)
  have cy0 := hcy k (by omega)
  have cy1 := hcy (k+1) (by omega)
  have v00 := hc0 k (by omega)
  have v01 := hc0 (k+1) (by omega)
  have v10 := hc1 k (by omega)
  have v11 := hc1 (k+1) (by omega)
  rw [r0] at e0
  rw [r1] at e1
  generalize xs[i]?.getD 0 = x0 at *
  generalize xs[i+1]?.getD 0 = x1 at *
  generalize ys[k]?.getD 0 = y0 at *
  generalize ys[k+1]?.getD 0 = y1 at *
  generalize (vs[i]?.getD [])[k]?.getD 0 = z00 at *
  generalize (vs[i]?.getD [])[k+1]?.getD 0 = z01 at *
  generalize (vs[i+1]?.getD [])[k]?.getD 0 = z10 at *
  generalize (vs[i+1]?.getD [])[k+1]?.getD 0 = z11 at *
  obtain ⟨hi, hx0, hx1, hgx, _⟩ := q1
  obtain ⟨hk, hy0, hy1, hgy, _⟩ := q2
  have p1 := mul_bd (a := x1 - x) (b := y1 - y) (A := 10000) (B := 10000) (by omega) (by omega) (by omega) (by omega)
  have p2 := mul_bd (a := x - x0) (b := y1 - y) (A := 10000) (B := 10000) (by omega) (by omega) (by omega) (by omega)
  have p3 := mul_bd (a := x1 - x) (b := y - y0) (A := 10000) (B := 10000) (by omega) (by omega) (by omega) (by omega)
  have p4 := mul_bd (a := x - x0) (b := y - y0) (A := 10000) (B := 10000) (by omega) (by omega) (by omega) (by omega)
  have p5 := mul_bd (a := x1 - x + (x - x0)) (b := y1 - y + (y - y0)) (A := 10000) (B := 10000) (by omega) (by omega) (by omega) (by omega)
  have s1 := mul_bd2 (A := 100000000) (B := 1000000) p1.1 (by omega) b00.1 b00.2 (by omega)
  have s2 := mul_bd2 (A := 100000000) (B := 1000000) p2.1 (by omega) b10.1 b10.2 (by omega)
  have s3 := mul_bd2 (A := 100000000) (B := 1000000) p3.1 (by omega) b01.1 b01.2 (by omega)
  have s4 := mul_bd2 (A := 100000000) (B := 1000000) p4.1 (by omega) b11.1 b11.2 (by omega)
  have HN := Lib.hid hN
  have HD := Lib.hid hD
  have HQ1 := Lib.hid hq1
  have HQ2 := Lib.hid hq2
  have hlv : i + 1 < vs.length := by omega
  have hlv2 : vs.length ≤ 12 := by omega
  clear hN hD hq1 hq2 hcx hcy hcv hc0 hc1 hR0 hR1 hR hT hx hy lenv r0 r1 
  have hBd : ∀ (o1 o2 : Obj) (n : Nat), Below w.heap.size w (((w.alloc o1).alloc o2).drewN n) := fun o1 o2 n => Below.drewN' (((Below.refl _ w).alloc (Nat.le_refl _) _).alloc (by simp) _) n
  have HBd := Lib.hid hBd
  clear hBd
  go_enter Try.func83, Try.ntmps83
  go_wp2_with fail
  go_quiet ((go_at_call 108; first | (with_reducible exact Calls.quiet_of_same (HQ1.out _ (HBd.out _ _ _))) | (with_reducible exact Calls.quiet_of_same (HQ2.out _ (HBd.out _ _ _)))))
  go_wp2_with fail
  go_quiet (fail)
  go_wp2_with fail
  go_quiet (fail)
  go_wp2_with fail
  have t1 : ((i : Int) + 1).toNat = i + 1 := by omega
  have t2 : ((k : Int) + 1).toNat = k + 1 := by omega
  have t3 : (0 : Int) ≤ (i : Int) + 1 := by omega
  have t4 : (0 : Int) ≤ (k : Int) + 1 := by omega
  have t5 : (i : Int) < (vs.length : Int) := by omega
  have t6 : (i : Int) + 1 < (vs.length : Int) := by omega
  have t7 : (k : Int) < (ys.length : Int) := by omega
  have t8 : (k : Int) + 1 < (ys.length : Int) := by omega
  have u1 : IntKind.i64.wrap ((i : Int) + 1) = (i : Int) + 1 := IntWalk.i64_in _ (by omega)
  have u2 : IntKind.i64.wrap ((k : Int) + 1) = (k : Int) + 1 := IntWalk.i64_in _ (by omega)
  have u3 : IntKind.i64.wrap ((x1 - x) * (y1 - y)) = (x1 - x) * (y1 - y) := IntWalk.i64_in _ (by omega)
  have u4 : IntKind.i64.wrap ((x - x0) * (y1 - y)) = (x - x0) * (y1 - y) := IntWalk.i64_in _ (by omega)
  have u5 : IntKind.i64.wrap ((x1 - x) * (y - y0)) = (x1 - x) * (y - y0) := IntWalk.i64_in _ (by omega)
  have u6 : IntKind.i64.wrap ((x - x0) * (y - y0)) = (x - x0) * (y - y0) := IntWalk.i64_in _ (by omega)
  have u7 : IntKind.i64.wrap ((x1 - x) * (y1 - y) * z00) = (x1 - x) * (y1 - y) * z00 := IntWalk.i64_in _ (by omega)
  have u8 : IntKind.i64.wrap ((x - x0) * (y1 - y) * z10) = (x - x0) * (y1 - y) * z10 := IntWalk.i64_in _ (by omega)
  have u9 : IntKind.i64.wrap ((x1 - x) * (y - y0) * z01) = (x1 - x) * (y - y0) * z01 := IntWalk.i64_in _ (by omega)
  have u10 : IntKind.i64.wrap ((x - x0) * (y - y0) * z11) = (x - x0) * (y - y0) * z11 := IntWalk.i64_in _ (by omega)
  have u11 : IntKind.i64.wrap ((x1 - x) * (y1 - y) * z00 + (x - x0) * (y1 - y) * z10) = (x1 - x) * (y1 - y) * z00 + (x - x0) * (y1 - y) * z10 := IntWalk.i64_in _ (by omega)
  have u12 : IntKind.i64.wrap ((x1 - x) * (y1 - y) * z00 + (x - x0) * (y1 - y) * z10 + (x1 - x) * (y - y0) * z01) = (x1 - x) * (y1 - y) * z00 + (x - x0) * (y1 - y) * z10 + (x1 - x) * (y - y0) * z01 := IntWalk.i64_in _ (by omega)
  have u13 : IntKind.i64.wrap ((x1 - x) * (y1 - y) * z00 + (x - x0) * (y1 - y) * z10 + (x1 - x) * (y - y0) * z01 + (x - x0) * (y - y0) * z11) = (x1 - x) * (y1 - y) * z00 + (x - x0) * (y1 - y) * z10 + (x1 - x) * (y - y0) * z01 + (x - x0) * (y - y0) * z11 := IntWalk.i64_in _ (by omega)
  have u14 : IntKind.i64.wrap (x1 - x + (x - x0)) = x1 - x + (x - x0) := IntWalk.i64_in _ (by omega)
  have u15 : IntKind.i64.wrap (y1 - y + (y - y0)) = y1 - y + (y - y0) := IntWalk.i64_in _ (by omega)
  have u16 : IntKind.i64.wrap ((x1 - x + (x - x0)) * (y1 - y + (y - y0))) = (x1 - x + (x - x0)) * (y1 - y + (y - y0)) := IntWalk.i64_in _ (by omega)
  refine wp_region_tail 59 (by kernel_rfl) (by kernel_rfl) ?_
  simp only [List.take_succ_cons, List.take_zero, List.drop_succ_cons, List.drop_zero]
  repeat still_step
  refine wpStill_nil ?_
  clear t1 t2 t3 t4 t5 t6 t7 t8 u1 u2 u3 u4 u5 u6 u7 u8 u9 u10 u11 u12 u13 u14 u15 u16
  go_wp2_with fail
  refine bodyPost_ret (v := .agg #[.int .i64 (numF (x1 - x) (x - x0) (y1 - y) (y - y0) z00 z10 z01 z11), .int .i64 (denF (x1 - x) (x - x0) (y1 - y) (y - y0))]) (by simp [results, Try.results83, go_sem, numF, denF]) rfl ⟨?_, ?_⟩
  · rw [HN.out, HD.out]
  · repeat (first | exact HBd.out _ _ _ | refine Below.setCell ?_ (by simp) _ | refine Below.drew ?_)
end Go.Proofs.Ytfaiogajaaclcaa
