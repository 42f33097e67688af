/- Texts of the laws, shared part 3. No conditions. -/
import Derived.Test.YthohcimmoobaoaaPLin02
import Derived.Test.YthohcimmoobaoaaRows
import Derived.WalkKit
import Derived.WalkSpells
import Derived.WalkLawsBesides
import Derived.Deep.QuietTactic
import Derived.BigQuiet
import Derived.Lib.Hide
import Derived.Deep.RegionHeld3
import Derived.Laws.EntriesVeiled
import Derived.StillTailTactics
import Derived.Maps.AppendAt
/- What comes behind a region, hidden while the region is walked. No conditions. -/
namespace Go.Proofs.Ythohcimmoobaoaa.Lift
open Go Go.RowKit

theorem aw_hide {rd : Bool} {P : Program} {n : Nat} {pre : List Nat} {Q : AExit → St → Prop} {s : St} {x : ACode} (h : ∀ K : AExit → St → Prop, K = Q → AWb rd P n pre x K s) : AWb rd P n pre x Q s := h Q rfl
section
variable {K : St → Prop} {Q : AExit → St → Prop} {s : St}
theorem thenQ_n (h : K s) : thenQ K Q .norm s := h
theorem thenQ_e {i : Nat} (h : Q (.ex i) s) : thenQ K Q (.ex i) s := h
theorem blockQ_n {id : Nat} (h : Q .norm s) : blockQ id Q .norm s := h
theorem blockQ_t {id : Nat} (h : Q .norm s) : blockQ id Q (.ex id) s := by simp only [blockQ, if_true]; exact h
theorem blockQ_f {id i : Nat} (hn : i ≠ id) (h : Q (.ex i) s) : blockQ id Q (.ex i) s := by simp only [blockQ]; rw [if_neg hn]; exact h
end
end Go.Proofs.Ythohcimmoobaoaa.Lift
/- The functions' bodies, translated. Written by a program; no conditions. -/
namespace Go.Proofs.Ythohcimmoobaoaa
open Go.RowKit Lift

/-- law07_SlingLinear -/
def claw07_SlingLinear : ACode :=
  (.seq
   (.region false [⟨some 3, .box (.tmp 0), none, []⟩,
     ⟨some 4, .box (.tmp 1), none, []⟩,
     ⟨some 5, .box (.tmp 2), none, []⟩,
     ⟨some 6, .mv (.const (.bool false)), none, []⟩] [])
  (.seq
   (.seq
    (.region false [⟨some 20, .fad 2 (.tmp 4), none, []⟩,
      ⟨some 21, .load1 (.tmp 20), none, []⟩,
      ⟨some 22, .len_ (.tmp 21), none, []⟩,
      ⟨some 23, .fad 2 (.tmp 5), none, []⟩,
      ⟨some 24, .load1 (.tmp 23), none, []⟩,
      ⟨some 25, .len_ (.tmp 24), none, []⟩,
      ⟨some 26, .bin .neq (.tmp 22) (.tmp 25), none, []⟩] [20, 21, 22, 23, 24, 25])
   (.cond (.tmp 26)
     (.seq
      (.region false [⟨some 27, .call (.func 15) [], none, []⟩,
        ⟨some 6, .mv (.tmp 27), none, []⟩] [27])
     .ret)
     .skip))
  (.seq
   (.region true [⟨some 28, .fad 0 (.tmp 4), none, []⟩,
     ⟨some 29, .iadA 2 1 (.tmp 28) (.const (.int .i64 0)), none, [0]⟩,
     ⟨some 30, .load1 (.tmp 29), none, [1, 0]⟩,
     ⟨some 31, .fad 0 (.tmp 5), none, []⟩,
     ⟨some 32, .iadA 2 1 (.tmp 31) (.const (.int .i64 0)), none, [3]⟩,
     ⟨some 33, .load1 (.tmp 32), none, [4, 3]⟩,
     ⟨some 34, .bin .add (.tmp 30) (.tmp 33), none, [2, 1, 0, 5, 4, 3]⟩,
     ⟨some 35, .fad 0 (.tmp 4), none, []⟩,
     ⟨some 36, .iadA 2 1 (.tmp 35) (.const (.int .i64 1)), none, [7]⟩,
     ⟨some 37, .load1 (.tmp 36), none, [8, 7]⟩,
     ⟨some 38, .fad 0 (.tmp 5), none, []⟩,
     ⟨some 39, .iadA 2 1 (.tmp 38) (.const (.int .i64 1)), none, [10]⟩,
     ⟨some 40, .load1 (.tmp 39), none, [11, 10]⟩,
     ⟨some 41, .bin .add (.tmp 37) (.tmp 40), none, [9, 8, 7, 12, 11, 10]⟩,
     ⟨some 42, .build [(.val (.int .i64 0)), (.val (.int .i64 0))] [(0, 1, (.tmp 34)), (1, 1, (.tmp 41))], none, [6, 2, 1, 0, 5, 4, 3, 13, 9, 8, 7, 12, 11, 10]⟩,
     ⟨some 43, .build [(.val (.int .i64 0)), (.val (.int .i64 0)), (.val (.slice none 0 0)), (.val (.int .i64 0)), (.val (.int .i64 0)), (.val (.int .i64 0))] [(0, 2, (.tmp 42))], none, [14, 6, 2, 1, 0, 5, 4, 3, 13, 9, 8, 7, 12, 11, 10]⟩,
     ⟨some 44, .fad 0 (.tmp 4), none, []⟩,
     ⟨some 45, .iadA 2 1 (.tmp 44) (.const (.int .i64 0)), none, [16]⟩,
     ⟨some 46, .load1 (.tmp 45), none, [17, 16]⟩,
     ⟨some 47, .un .neg (.tmp 46), none, [18, 17, 16]⟩,
     ⟨some 48, .fad 0 (.tmp 4), none, []⟩,
     ⟨some 49, .iadA 2 1 (.tmp 48) (.const (.int .i64 1)), none, [20]⟩,
     ⟨some 50, .load1 (.tmp 49), none, [21, 20]⟩,
     ⟨some 51, .un .neg (.tmp 50), none, [22, 21, 20]⟩,
     ⟨some 52, .build [(.val (.int .i64 0)), (.val (.int .i64 0))] [(0, 1, (.tmp 47)), (1, 1, (.tmp 51))], none, [19, 18, 17, 16, 23, 22, 21, 20]⟩,
     ⟨some 53, .build [(.val (.int .i64 0)), (.val (.int .i64 0)), (.val (.slice none 0 0)), (.val (.int .i64 0)), (.val (.int .i64 0)), (.val (.int .i64 0))] [(0, 2, (.tmp 52))], none, [24, 19, 18, 17, 16, 23, 22, 21, 20]⟩,
     ⟨some 7, .mem [(.val (.int .i64 0)), (.val (.int .i64 0)), (.val (.slice none 0 0)), (.val (.int .i64 0)), (.val (.int .i64 0)), (.val (.int .i64 0))], none, []⟩,
     ⟨some 8, .mem [(.val (.int .i64 0)), (.val (.int .i64 0)), (.val (.slice none 0 0)), (.val (.int .i64 0)), (.val (.int .i64 0)), (.val (.int .i64 0))], none, []⟩,
     ⟨none, .store 6 (.tmp 7) (.tmp 43), none, [26, 15, 14, 6, 2, 1, 0, 5, 4, 3, 13, 9, 8, 7, 12, 11, 10, 27]⟩,
     ⟨none, .store 6 (.tmp 8) (.tmp 53), none, [27, 25, 24, 19, 18, 17, 16, 23, 22, 21, 20, 28, 26, 15, 14, 6, 2, 1, 0, 5, 4, 3, 13, 9, 8, 7, 12, 11, 10]⟩] [28, 29, 30, 31, 32, 33, 34, 35, 36, 37, 38, 39, 40, 41, 42, 43, 44, 45, 46, 47, 48, 49, 50, 51, 52, 53])
  (.seq
   (.seq
    (.region false [⟨some 9, .mv (.const (.int .i64 0)), none, []⟩] [])
   (.block 0
     (.loop
       (.seq
        (.seq
         (.region false [⟨some 54, .mv (.tmp 9), none, []⟩,
           ⟨some 55, .fad 2 (.tmp 4), none, []⟩,
           ⟨some 56, .load1 (.tmp 55), none, []⟩,
           ⟨some 57, .len_ (.tmp 56), none, []⟩,
           ⟨some 58, .bin .lss (.tmp 54) (.tmp 57), none, []⟩] [54, 55, 56, 57])
        (.cond (.tmp 58)
          .skip
          (.exit 0)))
       (.seq
        (.block 1
          (.seq
           (.region true [⟨some 61, .fad 2 (.tmp 7), none, []⟩,
             ⟨some 62, .load1 (.tmp 61), none, [0]⟩,
             ⟨some 63, .fad 2 (.tmp 4), none, []⟩,
             ⟨some 64, .load1 (.tmp 63), none, [2]⟩,
             ⟨some 65, .mv (.tmp 9), none, []⟩,
             ⟨some 66, .iadS 1 (.tmp 64) (.tmp 65), none, [3, 2, 4]⟩,
             ⟨some 67, .load1 (.tmp 66), none, [5, 3, 2, 4]⟩,
             ⟨some 68, .fad 2 (.tmp 5), none, []⟩,
             ⟨some 69, .load1 (.tmp 68), none, [7]⟩,
             ⟨some 70, .mv (.tmp 9), none, []⟩,
             ⟨some 71, .iadS 1 (.tmp 69) (.tmp 70), none, [8, 7, 9]⟩,
             ⟨some 72, .load1 (.tmp 71), none, [10, 8, 7, 9]⟩,
             ⟨some 73, .bin .add (.tmp 67) (.tmp 72), none, [6, 5, 3, 2, 4, 11, 10, 8, 7, 9]⟩,
             ⟨some 74, .buildSl 1 1 [(.val (.int .i64 0))] [(0, 1, (.tmp 73))], none, [12, 6, 5, 3, 2, 4, 11, 10, 8, 7, 9]⟩,
             ⟨some 75, .app 1 8 (.tmp 62) (.tmp 74), none, [1, 0, 13, 12, 6, 5, 3, 2, 4, 11, 10, 8, 7, 9]⟩,
             ⟨some 76, .fad 2 (.tmp 7), none, [0, 1, 2, 3, 4, 5, 6, 7, 8, 9, 10, 11, 12, 13, 14]⟩,
             ⟨none, .store 1 (.tmp 76) (.tmp 75), none, [15, 0, 1, 2, 3, 4, 5, 6, 7, 8, 9, 10, 11, 12, 13, 14]⟩] [61, 62, 63, 64, 65, 66, 67, 68, 69, 70, 71, 72, 73, 74, 75, 76])
          (.region true [⟨some 77, .fad 2 (.tmp 8), none, []⟩,
            ⟨some 78, .load1 (.tmp 77), none, [0]⟩,
            ⟨some 79, .fad 2 (.tmp 4), none, []⟩,
            ⟨some 80, .load1 (.tmp 79), none, [2]⟩,
            ⟨some 81, .mv (.tmp 9), none, []⟩,
            ⟨some 82, .iadS 1 (.tmp 80) (.tmp 81), none, [3, 2, 4]⟩,
            ⟨some 83, .load1 (.tmp 82), none, [5, 3, 2, 4]⟩,
            ⟨some 84, .un .neg (.tmp 83), none, [6, 5, 3, 2, 4]⟩,
            ⟨some 85, .buildSl 1 1 [(.val (.int .i64 0))] [(0, 1, (.tmp 84))], none, [7, 6, 5, 3, 2, 4]⟩,
            ⟨some 86, .app 1 8 (.tmp 78) (.tmp 85), none, [1, 0, 8, 7, 6, 5, 3, 2, 4]⟩,
            ⟨some 87, .fad 2 (.tmp 8), none, [0, 1, 2, 3, 4, 5, 6, 7, 8, 9]⟩,
            ⟨none, .store 1 (.tmp 87) (.tmp 86), none, [10, 0, 1, 2, 3, 4, 5, 6, 7, 8, 9]⟩] [77, 78, 79, 80, 81, 82, 83, 84, 85, 86, 87])))
       (.region false [⟨some 59, .mv (.tmp 9), none, []⟩,
         ⟨some 60, .bin .add (.tmp 59) (.const (.int .i64 1)), none, []⟩,
         ⟨some 9, .mv (.tmp 60), none, []⟩] [59, 60]))))))
  (.seq
   (.region false [⟨some 89, .loadN 3 (.tmp 3), none, []⟩,
     ⟨some 90, .fad 0 (.tmp 4), none, []⟩,
     ⟨some 91, .loadN 2 (.tmp 90), none, []⟩,
     ⟨some 92, .fad 2 (.tmp 4), none, []⟩,
     ⟨some 93, .load1 (.tmp 92), none, []⟩,
     ⟨some 94, .call (.func 16) [(.tmp 89), (.tmp 91), (.tmp 93)], none, []⟩,
     ⟨some 88, .mv (.tmp 94), none, []⟩,
     ⟨some 95, .ext (.tmp 88) 0, none, []⟩,
     ⟨some 96, .ext (.tmp 88) 1, none, []⟩,
     ⟨some 10, .mv (.tmp 95), none, []⟩,
     ⟨some 11, .mv (.tmp 96), none, []⟩] [89, 90, 91, 92, 93, 94, 88, 95, 96])
  (.seq
   (.region false [⟨some 98, .loadN 3 (.tmp 3), none, []⟩,
     ⟨some 99, .fad 0 (.tmp 5), none, []⟩,
     ⟨some 100, .loadN 2 (.tmp 99), none, []⟩,
     ⟨some 101, .fad 2 (.tmp 5), none, []⟩,
     ⟨some 102, .load1 (.tmp 101), none, []⟩,
     ⟨some 103, .call (.func 16) [(.tmp 98), (.tmp 100), (.tmp 102)], none, []⟩,
     ⟨some 97, .mv (.tmp 103), none, []⟩,
     ⟨some 104, .ext (.tmp 97) 0, none, []⟩,
     ⟨some 105, .ext (.tmp 97) 1, none, []⟩,
     ⟨some 12, .mv (.tmp 104), none, []⟩,
     ⟨some 13, .mv (.tmp 105), none, []⟩] [98, 99, 100, 101, 102, 103, 97, 104, 105])
  (.seq
   (.seq
    (.region false [⟨some 106, .mv (.tmp 11), none, []⟩,
      ⟨some 107, .bin .neq (.tmp 106) (.const (.int .i64 0)), none, []⟩,
      ⟨some 108, .mv (.tmp 107), none, []⟩,
      ⟨some 109, .mv (.tmp 13), (some (some 108, false)), []⟩,
      ⟨some 110, .bin .neq (.tmp 109) (.const (.int .i64 0)), (some (some 108, false)), []⟩,
      ⟨some 111, .pick (.tmp 108) (.const (.bool true)) (.tmp 110), none, []⟩,
      ⟨some 112, .mv (.tmp 111), none, []⟩,
      ⟨some 113, .loadN 3 (.tmp 3), (some (some 112, false)), []⟩,
      ⟨some 114, .call (.func 17) [(.tmp 113)], (some (some 112, false)), []⟩,
      ⟨some 115, .bin .neq (.tmp 114) (.const (.int .i64 0)), (some (some 112, false)), []⟩,
      ⟨some 116, .pick (.tmp 112) (.const (.bool true)) (.tmp 115), none, []⟩] [106, 107, 108, 109, 110, 111, 112, 113, 114, 115])
   (.cond (.tmp 116)
     (.seq
      (.region false [⟨some 117, .call (.func 15) [], none, []⟩,
        ⟨some 6, .mv (.tmp 117), none, []⟩] [117])
     .ret)
     .skip))
  (.seq
   (.region false [⟨some 119, .loadN 3 (.tmp 3), none, []⟩,
     ⟨some 120, .fad 0 (.tmp 8), none, []⟩,
     ⟨some 121, .loadN 2 (.tmp 120), none, []⟩,
     ⟨some 122, .fad 2 (.tmp 8), none, []⟩,
     ⟨some 123, .load1 (.tmp 122), none, []⟩,
     ⟨some 124, .call (.func 16) [(.tmp 119), (.tmp 121), (.tmp 123)], none, []⟩,
     ⟨some 118, .mv (.tmp 124), none, []⟩,
     ⟨some 125, .ext (.tmp 118) 0, none, []⟩,
     ⟨some 126, .ext (.tmp 118) 1, none, []⟩,
     ⟨some 14, .mv (.tmp 125), none, []⟩,
     ⟨some 15, .mv (.tmp 126), none, []⟩] [119, 120, 121, 122, 123, 124, 118, 125, 126])
  (.seq
   (.seq
    (.region false [⟨some 127, .mv (.tmp 15), none, []⟩,
      ⟨some 128, .bin .neq (.tmp 127) (.const (.int .i64 0)), none, []⟩,
      ⟨some 129, .mv (.tmp 128), none, []⟩,
      ⟨some 130, .mv (.tmp 10), (some (some 129, false)), []⟩,
      ⟨some 131, .len_ (.tmp 130), (some (some 129, false)), []⟩,
      ⟨some 132, .fad 2 (.tmp 4), (some (some 129, false)), []⟩,
      ⟨some 133, .load1 (.tmp 132), (some (some 129, false)), []⟩,
      ⟨some 134, .len_ (.tmp 133), (some (some 129, false)), []⟩,
      ⟨some 135, .bin .neq (.tmp 131) (.tmp 134), (some (some 129, false)), []⟩,
      ⟨some 136, .pick (.tmp 129) (.const (.bool true)) (.tmp 135), none, []⟩,
      ⟨some 137, .mv (.tmp 136), none, []⟩,
      ⟨some 138, .mv (.tmp 12), (some (some 137, false)), []⟩,
      ⟨some 139, .len_ (.tmp 138), (some (some 137, false)), []⟩,
      ⟨some 140, .mv (.tmp 10), (some (some 137, false)), []⟩,
      ⟨some 141, .len_ (.tmp 140), (some (some 137, false)), []⟩,
      ⟨some 142, .bin .neq (.tmp 139) (.tmp 141), (some (some 137, false)), []⟩,
      ⟨some 143, .pick (.tmp 137) (.const (.bool true)) (.tmp 142), none, []⟩,
      ⟨some 144, .mv (.tmp 143), none, []⟩,
      ⟨some 145, .mv (.tmp 14), (some (some 144, false)), []⟩,
      ⟨some 146, .len_ (.tmp 145), (some (some 144, false)), []⟩,
      ⟨some 147, .mv (.tmp 10), (some (some 144, false)), []⟩,
      ⟨some 148, .len_ (.tmp 147), (some (some 144, false)), []⟩,
      ⟨some 149, .bin .neq (.tmp 146) (.tmp 148), (some (some 144, false)), []⟩,
      ⟨some 150, .pick (.tmp 144) (.const (.bool true)) (.tmp 149), none, []⟩] [127, 128, 129, 130, 131, 132, 133, 134, 135, 136, 137, 138, 139, 140, 141, 142, 143, 144, 145, 146, 147, 148, 149])
   (.cond (.tmp 150)
     (.seq
      (.region false [⟨some 6, .mv (.const (.bool false)), none, []⟩] [])
     .ret)
     .skip))
  (.seq
   (.region false [⟨some 152, .loadN 3 (.tmp 3), none, []⟩,
     ⟨some 153, .fad 0 (.tmp 7), none, []⟩,
     ⟨some 154, .loadN 2 (.tmp 153), none, []⟩,
     ⟨some 155, .fad 2 (.tmp 7), none, []⟩,
     ⟨some 156, .load1 (.tmp 155), none, []⟩,
     ⟨some 157, .call (.func 16) [(.tmp 152), (.tmp 154), (.tmp 156)], none, []⟩,
     ⟨some 151, .mv (.tmp 157), none, []⟩,
     ⟨some 158, .ext (.tmp 151) 0, none, []⟩,
     ⟨some 159, .ext (.tmp 151) 1, none, []⟩,
     ⟨some 16, .mv (.tmp 158), none, []⟩,
     ⟨some 17, .mv (.tmp 159), none, []⟩] [152, 153, 154, 155, 156, 157, 151, 158, 159])
  (.seq
   (.seq
    (.region false [⟨some 160, .mv (.tmp 17), none, []⟩,
      ⟨some 161, .bin .eql (.tmp 160) (.const (.int .i64 0)), none, []⟩,
      ⟨some 162, .mv (.tmp 161), none, []⟩,
      ⟨some 163, .mv (.tmp 16), (some (some 162, true)), []⟩,
      ⟨some 164, .len_ (.tmp 163), (some (some 162, true)), []⟩,
      ⟨some 165, .mv (.tmp 10), (some (some 162, true)), []⟩,
      ⟨some 166, .len_ (.tmp 165), (some (some 162, true)), []⟩,
      ⟨some 167, .bin .neq (.tmp 164) (.tmp 166), (some (some 162, true)), []⟩,
      ⟨some 168, .pick (.tmp 162) (.tmp 167) (.const (.bool false)), none, []⟩] [160, 161, 162, 163, 164, 165, 166, 167])
   (.cond (.tmp 168)
     (.seq
      (.region false [⟨some 6, .mv (.const (.bool false)), none, []⟩] [])
     .ret)
     .skip))
  (.seq
   (.region false [⟨some 18, .mv (.const (.int .i64 1)), none, []⟩] [])
  (.seq
   (.seq
    (.region false [⟨some 19, .mv (.const (.int .i64 0)), none, []⟩] [])
   (.block 2
     (.loop
       (.seq
        (.seq
         (.region false [⟨some 169, .mv (.tmp 19), none, []⟩,
           ⟨some 170, .mv (.tmp 10), none, []⟩,
           ⟨some 171, .len_ (.tmp 170), none, []⟩,
           ⟨some 172, .bin .lss (.tmp 169) (.tmp 171), none, []⟩] [169, 170, 171])
        (.cond (.tmp 172)
          .skip
          (.exit 2)))
       (.seq
        (.block 3
          (.seq
           (.region false [⟨some 175, .mv (.tmp 18), none, []⟩,
             ⟨some 176, .fad 2 (.tmp 3), none, []⟩,
             ⟨some 177, .load1 (.tmp 176), none, []⟩,
             ⟨some 178, .bin .mul (.tmp 175) (.tmp 177), none, []⟩,
             ⟨some 18, .mv (.tmp 178), none, []⟩] [175, 176, 177, 178])
          (.seq
           (.seq
            (.region true [⟨some 179, .mv (.tmp 10), none, []⟩,
              ⟨some 180, .mv (.tmp 19), none, []⟩,
              ⟨some 181, .iadS 2 (.tmp 179) (.tmp 180), none, [0, 1]⟩,
              ⟨some 182, .loadN 2 (.tmp 181), none, [2, 0, 1]⟩,
              ⟨some 183, .call (.func 18) [(.tmp 182)], none, [3, 2, 0, 1]⟩,
              ⟨some 184, .un .not (.tmp 183), none, [4, 3, 2, 0, 1]⟩,
              ⟨some 185, .mv (.tmp 184), none, [5, 4, 3, 2, 0, 1]⟩,
              ⟨some 186, .mv (.tmp 12), (some (some 185, false)), [6, 5, 4, 3, 2, 0, 1]⟩,
              ⟨some 187, .mv (.tmp 19), (some (some 185, false)), [6, 5, 4, 3, 2, 0, 1]⟩,
              ⟨some 188, .iadS 2 (.tmp 186) (.tmp 187), (some (some 185, false)), [7, 6, 5, 4, 3, 2, 0, 1, 8]⟩,
              ⟨some 189, .loadN 2 (.tmp 188), (some (some 185, false)), [9, 7, 6, 5, 4, 3, 2, 0, 1, 8]⟩,
              ⟨some 190, .call (.func 18) [(.tmp 189)], (some (some 185, false)), [10, 9, 7, 6, 5, 4, 3, 2, 0, 1, 8]⟩,
              ⟨some 191, .un .not (.tmp 190), (some (some 185, false)), [11, 10, 9, 7, 6, 5, 4, 3, 2, 0, 1, 8]⟩,
              ⟨some 192, .pick (.tmp 185) (.const (.bool true)) (.tmp 191), none, [6, 5, 4, 3, 2, 0, 1, 12, 11, 10, 9, 7, 8]⟩,
              ⟨some 193, .mv (.tmp 192), none, [13, 6, 5, 4, 3, 2, 0, 1, 12, 11, 10, 9, 7, 8]⟩,
              ⟨some 194, .mv (.tmp 18), (some (some 193, false)), [14, 13, 6, 5, 4, 3, 2, 0, 1, 12, 11, 10, 9, 7, 8]⟩,
              ⟨some 195, .mv (.tmp 10), (some (some 193, false)), [14, 13, 6, 5, 4, 3, 2, 0, 1, 12, 11, 10, 9, 7, 8]⟩,
              ⟨some 196, .mv (.tmp 19), (some (some 193, false)), [14, 13, 6, 5, 4, 3, 2, 0, 1, 12, 11, 10, 9, 7, 8]⟩,
              ⟨some 197, .iadS 2 (.tmp 195) (.tmp 196), (some (some 193, false)), [16, 14, 13, 6, 5, 4, 3, 2, 0, 1, 12, 11, 10, 9, 7, 8, 17]⟩,
              ⟨some 198, .iadA 2 1 (.tmp 197) (.const (.int .i64 1)), (some (some 193, false)), [18, 16, 14, 13, 6, 5, 4, 3, 2, 0, 1, 12, 11, 10, 9, 7, 8, 17]⟩,
              ⟨some 199, .load1 (.tmp 198), (some (some 193, false)), [19, 18, 16, 14, 13, 6, 5, 4, 3, 2, 0, 1, 12, 11, 10, 9, 7, 8, 17]⟩,
              ⟨some 200, .bin .rem (.tmp 194) (.tmp 199), (some (some 193, false)), [15, 14, 13, 6, 5, 4, 3, 2, 0, 1, 12, 11, 10, 9, 7, 8, 20, 19, 18, 16, 17]⟩,
              ⟨some 201, .bin .neq (.tmp 200) (.const (.int .i64 0)), (some (some 193, false)), [21, 15, 14, 13, 6, 5, 4, 3, 2, 0, 1, 12, 11, 10, 9, 7, 8, 20, 19, 18, 16, 17]⟩,
              ⟨some 202, .pick (.tmp 193) (.const (.bool true)) (.tmp 201), none, [14, 13, 6, 5, 4, 3, 2, 0, 1, 12, 11, 10, 9, 7, 8, 22, 21, 15, 20, 19, 18, 16, 17]⟩,
              ⟨some 203, .mv (.tmp 202), none, [23, 14, 13, 6, 5, 4, 3, 2, 0, 1, 12, 11, 10, 9, 7, 8, 22, 21, 15, 20, 19, 18, 16, 17]⟩,
              ⟨some 204, .mv (.tmp 18), (some (some 203, false)), [24, 23, 14, 13, 6, 5, 4, 3, 2, 0, 1, 12, 11, 10, 9, 7, 8, 22, 21, 15, 20, 19, 18, 16, 17]⟩,
              ⟨some 205, .mv (.tmp 12), (some (some 203, false)), [24, 23, 14, 13, 6, 5, 4, 3, 2, 0, 1, 12, 11, 10, 9, 7, 8, 22, 21, 15, 20, 19, 18, 16, 17]⟩,
              ⟨some 206, .mv (.tmp 19), (some (some 203, false)), [24, 23, 14, 13, 6, 5, 4, 3, 2, 0, 1, 12, 11, 10, 9, 7, 8, 22, 21, 15, 20, 19, 18, 16, 17]⟩,
              ⟨some 207, .iadS 2 (.tmp 205) (.tmp 206), (some (some 203, false)), [26, 24, 23, 14, 13, 6, 5, 4, 3, 2, 0, 1, 12, 11, 10, 9, 7, 8, 22, 21, 15, 20, 19, 18, 16, 17, 27]⟩,
              ⟨some 208, .iadA 2 1 (.tmp 207) (.const (.int .i64 1)), (some (some 203, false)), [28, 26, 24, 23, 14, 13, 6, 5, 4, 3, 2, 0, 1, 12, 11, 10, 9, 7, 8, 22, 21, 15, 20, 19, 18, 16, 17, 27]⟩,
              ⟨some 209, .load1 (.tmp 208), (some (some 203, false)), [29, 28, 26, 24, 23, 14, 13, 6, 5, 4, 3, 2, 0, 1, 12, 11, 10, 9, 7, 8, 22, 21, 15, 20, 19, 18, 16, 17, 27]⟩,
              ⟨some 210, .bin .rem (.tmp 204) (.tmp 209), (some (some 203, false)), [25, 24, 23, 14, 13, 6, 5, 4, 3, 2, 0, 1, 12, 11, 10, 9, 7, 8, 22, 21, 15, 20, 19, 18, 16, 17, 30, 29, 28, 26, 27]⟩,
              ⟨some 211, .bin .neq (.tmp 210) (.const (.int .i64 0)), (some (some 203, false)), [31, 25, 24, 23, 14, 13, 6, 5, 4, 3, 2, 0, 1, 12, 11, 10, 9, 7, 8, 22, 21, 15, 20, 19, 18, 16, 17, 30, 29, 28, 26, 27]⟩,
              ⟨some 212, .pick (.tmp 203) (.const (.bool true)) (.tmp 211), none, [24, 23, 14, 13, 6, 5, 4, 3, 2, 0, 1, 12, 11, 10, 9, 7, 8, 22, 21, 15, 20, 19, 18, 16, 17, 32, 31, 25, 30, 29, 28, 26, 27]⟩,
              ⟨some 213, .mv (.tmp 212), none, [33, 24, 23, 14, 13, 6, 5, 4, 3, 2, 0, 1, 12, 11, 10, 9, 7, 8, 22, 21, 15, 20, 19, 18, 16, 17, 32, 31, 25, 30, 29, 28, 26, 27]⟩,
              ⟨some 214, .mv (.tmp 14), (some (some 213, false)), [34, 33, 24, 23, 14, 13, 6, 5, 4, 3, 2, 0, 1, 12, 11, 10, 9, 7, 8, 22, 21, 15, 20, 19, 18, 16, 17, 32, 31, 25, 30, 29, 28, 26, 27]⟩,
              ⟨some 215, .mv (.tmp 19), (some (some 213, false)), [34, 33, 24, 23, 14, 13, 6, 5, 4, 3, 2, 0, 1, 12, 11, 10, 9, 7, 8, 22, 21, 15, 20, 19, 18, 16, 17, 32, 31, 25, 30, 29, 28, 26, 27]⟩,
              ⟨some 216, .iadS 2 (.tmp 214) (.tmp 215), (some (some 213, false)), [35, 34, 33, 24, 23, 14, 13, 6, 5, 4, 3, 2, 0, 1, 12, 11, 10, 9, 7, 8, 22, 21, 15, 20, 19, 18, 16, 17, 32, 31, 25, 30, 29, 28, 26, 27, 36]⟩,
              ⟨some 217, .loadN 2 (.tmp 216), (some (some 213, false)), [37, 35, 34, 33, 24, 23, 14, 13, 6, 5, 4, 3, 2, 0, 1, 12, 11, 10, 9, 7, 8, 22, 21, 15, 20, 19, 18, 16, 17, 32, 31, 25, 30, 29, 28, 26, 27, 36]⟩,
              ⟨some 218, .mv (.tmp 10), (some (some 213, false)), [34, 33, 24, 23, 14, 13, 6, 5, 4, 3, 2, 0, 1, 12, 11, 10, 9, 7, 8, 22, 21, 15, 20, 19, 18, 16, 17, 32, 31, 25, 30, 29, 28, 26, 27]⟩,
              ⟨some 219, .mv (.tmp 19), (some (some 213, false)), [34, 33, 24, 23, 14, 13, 6, 5, 4, 3, 2, 0, 1, 12, 11, 10, 9, 7, 8, 22, 21, 15, 20, 19, 18, 16, 17, 32, 31, 25, 30, 29, 28, 26, 27]⟩,
              ⟨some 220, .iadS 2 (.tmp 218) (.tmp 219), (some (some 213, false)), [39, 34, 33, 24, 23, 14, 13, 6, 5, 4, 3, 2, 0, 1, 12, 11, 10, 9, 7, 8, 22, 21, 15, 20, 19, 18, 16, 17, 32, 31, 25, 30, 29, 28, 26, 27, 40]⟩,
              ⟨some 221, .iadA 2 1 (.tmp 220) (.const (.int .i64 0)), (some (some 213, false)), [41, 39, 34, 33, 24, 23, 14, 13, 6, 5, 4, 3, 2, 0, 1, 12, 11, 10, 9, 7, 8, 22, 21, 15, 20, 19, 18, 16, 17, 32, 31, 25, 30, 29, 28, 26, 27, 40]⟩,
              ⟨some 222, .load1 (.tmp 221), (some (some 213, false)), [42, 41, 39, 34, 33, 24, 23, 14, 13, 6, 5, 4, 3, 2, 0, 1, 12, 11, 10, 9, 7, 8, 22, 21, 15, 20, 19, 18, 16, 17, 32, 31, 25, 30, 29, 28, 26, 27, 40]⟩,
              ⟨some 223, .un .neg (.tmp 222), (some (some 213, false)), [43, 42, 41, 39, 34, 33, 24, 23, 14, 13, 6, 5, 4, 3, 2, 0, 1, 12, 11, 10, 9, 7, 8, 22, 21, 15, 20, 19, 18, 16, 17, 32, 31, 25, 30, 29, 28, 26, 27, 40]⟩,
              ⟨some 224, .mv (.tmp 10), (some (some 213, false)), [34, 33, 24, 23, 14, 13, 6, 5, 4, 3, 2, 0, 1, 12, 11, 10, 9, 7, 8, 22, 21, 15, 20, 19, 18, 16, 17, 32, 31, 25, 30, 29, 28, 26, 27]⟩,
              ⟨some 225, .mv (.tmp 19), (some (some 213, false)), [34, 33, 24, 23, 14, 13, 6, 5, 4, 3, 2, 0, 1, 12, 11, 10, 9, 7, 8, 22, 21, 15, 20, 19, 18, 16, 17, 32, 31, 25, 30, 29, 28, 26, 27]⟩,
              ⟨some 226, .iadS 2 (.tmp 224) (.tmp 225), (some (some 213, false)), [45, 34, 33, 24, 23, 14, 13, 6, 5, 4, 3, 2, 0, 1, 12, 11, 10, 9, 7, 8, 22, 21, 15, 20, 19, 18, 16, 17, 32, 31, 25, 30, 29, 28, 26, 27, 46]⟩,
              ⟨some 227, .iadA 2 1 (.tmp 226) (.const (.int .i64 1)), (some (some 213, false)), [47, 45, 34, 33, 24, 23, 14, 13, 6, 5, 4, 3, 2, 0, 1, 12, 11, 10, 9, 7, 8, 22, 21, 15, 20, 19, 18, 16, 17, 32, 31, 25, 30, 29, 28, 26, 27, 46]⟩,
              ⟨some 228, .load1 (.tmp 227), (some (some 213, false)), [48, 47, 45, 34, 33, 24, 23, 14, 13, 6, 5, 4, 3, 2, 0, 1, 12, 11, 10, 9, 7, 8, 22, 21, 15, 20, 19, 18, 16, 17, 32, 31, 25, 30, 29, 28, 26, 27, 46]⟩,
              ⟨some 229, .build [(.val (.int .i64 0)), (.val (.int .i64 0))] [(0, 1, (.tmp 223)), (1, 1, (.tmp 228))], (some (some 213, false)), [44, 43, 42, 41, 39, 34, 33, 24, 23, 14, 13, 6, 5, 4, 3, 2, 0, 1, 12, 11, 10, 9, 7, 8, 22, 21, 15, 20, 19, 18, 16, 17, 32, 31, 25, 30, 29, 28, 26, 27, 40, 49, 48, 47, 45, 46]⟩,
              ⟨some 230, .eqa true [false, false] (.tmp 217) (.tmp 229), (some (some 213, false)), [38, 37, 35, 34, 33, 24, 23, 14, 13, 6, 5, 4, 3, 2, 0, 1, 12, 11, 10, 9, 7, 8, 22, 21, 15, 20, 19, 18, 16, 17, 32, 31, 25, 30, 29, 28, 26, 27, 36, 50, 44, 43, 42, 41, 39, 40, 49, 48, 47, 45, 46]⟩,
              ⟨some 231, .pick (.tmp 213) (.const (.bool true)) (.tmp 230), none, [34, 33, 24, 23, 14, 13, 6, 5, 4, 3, 2, 0, 1, 12, 11, 10, 9, 7, 8, 22, 21, 15, 20, 19, 18, 16, 17, 32, 31, 25, 30, 29, 28, 26, 27, 51, 38, 37, 35, 36, 50, 44, 43, 42, 41, 39, 40, 49, 48, 47, 45, 46]⟩] [179, 180, 181, 182, 183, 184, 185, 186, 187, 188, 189, 190, 191, 192, 193, 194, 195, 196, 197, 198, 199, 200, 201, 202, 203, 204, 205, 206, 207, 208, 209, 210, 211, 212, 213, 214, 215, 216, 217, 218, 219, 220, 221, 222, 223, 224, 225, 226, 227, 228, 229, 230])
           (.cond (.tmp 231)
             (.seq
              (.region false [⟨some 6, .mv (.const (.bool false)), none, []⟩] [])
             .ret)
             .skip))
          (.seq
           (.seq
            (.region false [⟨some 232, .mv (.tmp 17), none, []⟩,
              ⟨some 233, .bin .neq (.tmp 232) (.const (.int .i64 0)), none, []⟩] [232])
           (.cond (.tmp 233)
             (.exit 3)
             .skip))
          (.seq
           (.region true [⟨some 234, .mv (.tmp 16), none, []⟩,
             ⟨some 235, .mv (.tmp 19), none, []⟩,
             ⟨some 236, .iadS 2 (.tmp 234) (.tmp 235), none, [0, 1]⟩,
             ⟨some 237, .loadN 2 (.tmp 236), none, [2, 0, 1]⟩,
             ⟨some 238, .call (.func 18) [(.tmp 237)], none, [3, 2, 0, 1]⟩,
             ⟨some 239, .un .not (.tmp 238), none, [4, 3, 2, 0, 1]⟩,
             ⟨some 240, .mv (.tmp 239), none, [5, 4, 3, 2, 0, 1]⟩,
             ⟨some 241, .mv (.tmp 18), (some (some 240, false)), [6, 5, 4, 3, 2, 0, 1]⟩,
             ⟨some 242, .mv (.tmp 16), (some (some 240, false)), [6, 5, 4, 3, 2, 0, 1]⟩,
             ⟨some 243, .mv (.tmp 19), (some (some 240, false)), [6, 5, 4, 3, 2, 0, 1]⟩,
             ⟨some 244, .iadS 2 (.tmp 242) (.tmp 243), (some (some 240, false)), [8, 6, 5, 4, 3, 2, 0, 1, 9]⟩,
             ⟨some 245, .iadA 2 1 (.tmp 244) (.const (.int .i64 1)), (some (some 240, false)), [10, 8, 6, 5, 4, 3, 2, 0, 1, 9]⟩,
             ⟨some 246, .load1 (.tmp 245), (some (some 240, false)), [11, 10, 8, 6, 5, 4, 3, 2, 0, 1, 9]⟩,
             ⟨some 247, .bin .rem (.tmp 241) (.tmp 246), (some (some 240, false)), [7, 6, 5, 4, 3, 2, 0, 1, 12, 11, 10, 8, 9]⟩,
             ⟨some 248, .bin .neq (.tmp 247) (.const (.int .i64 0)), (some (some 240, false)), [13, 7, 6, 5, 4, 3, 2, 0, 1, 12, 11, 10, 8, 9]⟩,
             ⟨some 249, .pick (.tmp 240) (.const (.bool true)) (.tmp 248), none, [6, 5, 4, 3, 2, 0, 1, 14, 13, 7, 12, 11, 10, 8, 9]⟩,
             ⟨some 250, .mv (.tmp 249), none, [15, 6, 5, 4, 3, 2, 0, 1, 14, 13, 7, 12, 11, 10, 8, 9]⟩,
             ⟨some 251, .mv (.tmp 10), (some (some 250, false)), [16, 15, 6, 5, 4, 3, 2, 0, 1, 14, 13, 7, 12, 11, 10, 8, 9]⟩,
             ⟨some 252, .mv (.tmp 19), (some (some 250, false)), [16, 15, 6, 5, 4, 3, 2, 0, 1, 14, 13, 7, 12, 11, 10, 8, 9]⟩,
             ⟨some 253, .iadS 2 (.tmp 251) (.tmp 252), (some (some 250, false)), [17, 16, 15, 6, 5, 4, 3, 2, 0, 1, 14, 13, 7, 12, 11, 10, 8, 9, 18]⟩,
             ⟨some 254, .iadA 2 1 (.tmp 253) (.const (.int .i64 0)), (some (some 250, false)), [19, 17, 16, 15, 6, 5, 4, 3, 2, 0, 1, 14, 13, 7, 12, 11, 10, 8, 9, 18]⟩,
             ⟨some 255, .load1 (.tmp 254), (some (some 250, false)), [20, 19, 17, 16, 15, 6, 5, 4, 3, 2, 0, 1, 14, 13, 7, 12, 11, 10, 8, 9, 18]⟩,
             ⟨some 256, .mv (.tmp 18), (some (some 250, false)), [16, 15, 6, 5, 4, 3, 2, 0, 1, 14, 13, 7, 12, 11, 10, 8, 9]⟩,
             ⟨some 257, .mv (.tmp 10), (some (some 250, false)), [16, 15, 6, 5, 4, 3, 2, 0, 1, 14, 13, 7, 12, 11, 10, 8, 9]⟩,
             ⟨some 258, .mv (.tmp 19), (some (some 250, false)), [16, 15, 6, 5, 4, 3, 2, 0, 1, 14, 13, 7, 12, 11, 10, 8, 9]⟩,
             ⟨some 259, .iadS 2 (.tmp 257) (.tmp 258), (some (some 250, false)), [23, 16, 15, 6, 5, 4, 3, 2, 0, 1, 14, 13, 7, 12, 11, 10, 8, 9, 24]⟩,
             ⟨some 260, .iadA 2 1 (.tmp 259) (.const (.int .i64 1)), (some (some 250, false)), [25, 23, 16, 15, 6, 5, 4, 3, 2, 0, 1, 14, 13, 7, 12, 11, 10, 8, 9, 24]⟩,
             ⟨some 261, .load1 (.tmp 260), (some (some 250, false)), [26, 25, 23, 16, 15, 6, 5, 4, 3, 2, 0, 1, 14, 13, 7, 12, 11, 10, 8, 9, 24]⟩,
             ⟨some 262, .bin .quo (.tmp 256) (.tmp 261), (some (some 250, false)), [22, 16, 15, 6, 5, 4, 3, 2, 0, 1, 14, 13, 7, 12, 11, 10, 8, 9, 27, 26, 25, 23, 24]⟩,
             ⟨some 263, .bin .mul (.tmp 255) (.tmp 262), (some (some 250, false)), [21, 20, 19, 17, 16, 15, 6, 5, 4, 3, 2, 0, 1, 14, 13, 7, 12, 11, 10, 8, 9, 18, 28, 22, 27, 26, 25, 23, 24]⟩,
             ⟨some 264, .mv (.tmp 12), (some (some 250, false)), [16, 15, 6, 5, 4, 3, 2, 0, 1, 14, 13, 7, 12, 11, 10, 8, 9]⟩,
             ⟨some 265, .mv (.tmp 19), (some (some 250, false)), [16, 15, 6, 5, 4, 3, 2, 0, 1, 14, 13, 7, 12, 11, 10, 8, 9]⟩,
             ⟨some 266, .iadS 2 (.tmp 264) (.tmp 265), (some (some 250, false)), [30, 16, 15, 6, 5, 4, 3, 2, 0, 1, 14, 13, 7, 12, 11, 10, 8, 9, 31]⟩,
             ⟨some 267, .iadA 2 1 (.tmp 266) (.const (.int .i64 0)), (some (some 250, false)), [32, 30, 16, 15, 6, 5, 4, 3, 2, 0, 1, 14, 13, 7, 12, 11, 10, 8, 9, 31]⟩,
             ⟨some 268, .load1 (.tmp 267), (some (some 250, false)), [33, 32, 30, 16, 15, 6, 5, 4, 3, 2, 0, 1, 14, 13, 7, 12, 11, 10, 8, 9, 31]⟩,
             ⟨some 269, .mv (.tmp 18), (some (some 250, false)), [16, 15, 6, 5, 4, 3, 2, 0, 1, 14, 13, 7, 12, 11, 10, 8, 9]⟩,
             ⟨some 270, .mv (.tmp 12), (some (some 250, false)), [16, 15, 6, 5, 4, 3, 2, 0, 1, 14, 13, 7, 12, 11, 10, 8, 9]⟩,
             ⟨some 271, .mv (.tmp 19), (some (some 250, false)), [16, 15, 6, 5, 4, 3, 2, 0, 1, 14, 13, 7, 12, 11, 10, 8, 9]⟩,
             ⟨some 272, .iadS 2 (.tmp 270) (.tmp 271), (some (some 250, false)), [36, 16, 15, 6, 5, 4, 3, 2, 0, 1, 14, 13, 7, 12, 11, 10, 8, 9, 37]⟩,
             ⟨some 273, .iadA 2 1 (.tmp 272) (.const (.int .i64 1)), (some (some 250, false)), [38, 36, 16, 15, 6, 5, 4, 3, 2, 0, 1, 14, 13, 7, 12, 11, 10, 8, 9, 37]⟩,
             ⟨some 274, .load1 (.tmp 273), (some (some 250, false)), [39, 38, 36, 16, 15, 6, 5, 4, 3, 2, 0, 1, 14, 13, 7, 12, 11, 10, 8, 9, 37]⟩,
             ⟨some 275, .bin .quo (.tmp 269) (.tmp 274), (some (some 250, false)), [35, 16, 15, 6, 5, 4, 3, 2, 0, 1, 14, 13, 7, 12, 11, 10, 8, 9, 40, 39, 38, 36, 37]⟩,
             ⟨some 276, .bin .mul (.tmp 268) (.tmp 275), (some (some 250, false)), [34, 33, 32, 30, 16, 15, 6, 5, 4, 3, 2, 0, 1, 14, 13, 7, 12, 11, 10, 8, 9, 31, 41, 35, 40, 39, 38, 36, 37]⟩,
             ⟨some 277, .bin .add (.tmp 263) (.tmp 276), (some (some 250, false)), [29, 21, 20, 19, 17, 16, 15, 6, 5, 4, 3, 2, 0, 1, 14, 13, 7, 12, 11, 10, 8, 9, 18, 28, 22, 27, 26, 25, 23, 24, 42, 34, 33, 32, 30, 31, 41, 35, 40, 39, 38, 36, 37]⟩,
             ⟨some 278, .mv (.tmp 16), (some (some 250, false)), [16, 15, 6, 5, 4, 3, 2, 0, 1, 14, 13, 7, 12, 11, 10, 8, 9]⟩,
             ⟨some 279, .mv (.tmp 19), (some (some 250, false)), [16, 15, 6, 5, 4, 3, 2, 0, 1, 14, 13, 7, 12, 11, 10, 8, 9]⟩,
             ⟨some 280, .iadS 2 (.tmp 278) (.tmp 279), (some (some 250, false)), [44, 16, 15, 6, 5, 4, 3, 2, 0, 1, 14, 13, 7, 12, 11, 10, 8, 9, 45]⟩,
             ⟨some 281, .iadA 2 1 (.tmp 280) (.const (.int .i64 0)), (some (some 250, false)), [46, 44, 16, 15, 6, 5, 4, 3, 2, 0, 1, 14, 13, 7, 12, 11, 10, 8, 9, 45]⟩,
             ⟨some 282, .load1 (.tmp 281), (some (some 250, false)), [47, 46, 44, 16, 15, 6, 5, 4, 3, 2, 0, 1, 14, 13, 7, 12, 11, 10, 8, 9, 45]⟩,
             ⟨some 283, .mv (.tmp 18), (some (some 250, false)), [16, 15, 6, 5, 4, 3, 2, 0, 1, 14, 13, 7, 12, 11, 10, 8, 9]⟩,
             ⟨some 284, .mv (.tmp 16), (some (some 250, false)), [16, 15, 6, 5, 4, 3, 2, 0, 1, 14, 13, 7, 12, 11, 10, 8, 9]⟩,
             ⟨some 285, .mv (.tmp 19), (some (some 250, false)), [16, 15, 6, 5, 4, 3, 2, 0, 1, 14, 13, 7, 12, 11, 10, 8, 9]⟩,
             ⟨some 286, .iadS 2 (.tmp 284) (.tmp 285), (some (some 250, false)), [50, 16, 15, 6, 5, 4, 3, 2, 0, 1, 14, 13, 7, 12, 11, 10, 8, 9, 51]⟩,
             ⟨some 287, .iadA 2 1 (.tmp 286) (.const (.int .i64 1)), (some (some 250, false)), [52, 50, 16, 15, 6, 5, 4, 3, 2, 0, 1, 14, 13, 7, 12, 11, 10, 8, 9, 51]⟩,
             ⟨some 288, .load1 (.tmp 287), (some (some 250, false)), [53, 52, 50, 16, 15, 6, 5, 4, 3, 2, 0, 1, 14, 13, 7, 12, 11, 10, 8, 9, 51]⟩,
             ⟨some 289, .bin .quo (.tmp 283) (.tmp 288), (some (some 250, false)), [49, 16, 15, 6, 5, 4, 3, 2, 0, 1, 14, 13, 7, 12, 11, 10, 8, 9, 54, 53, 52, 50, 51]⟩,
             ⟨some 290, .bin .mul (.tmp 282) (.tmp 289), (some (some 250, false)), [48, 47, 46, 44, 16, 15, 6, 5, 4, 3, 2, 0, 1, 14, 13, 7, 12, 11, 10, 8, 9, 45, 55, 49, 54, 53, 52, 50, 51]⟩,
             ⟨some 291, .bin .neq (.tmp 277) (.tmp 290), (some (some 250, false)), [43, 29, 21, 20, 19, 17, 16, 15, 6, 5, 4, 3, 2, 0, 1, 14, 13, 7, 12, 11, 10, 8, 9, 18, 28, 22, 27, 26, 25, 23, 24, 42, 34, 33, 32, 30, 31, 41, 35, 40, 39, 38, 36, 37, 56, 48, 47, 46, 44, 45, 55, 49, 54, 53, 52, 50, 51]⟩,
             ⟨some 292, .pick (.tmp 250) (.const (.bool true)) (.tmp 291), none, [16, 15, 6, 5, 4, 3, 2, 0, 1, 14, 13, 7, 12, 11, 10, 8, 9, 57, 43, 29, 21, 20, 19, 17, 18, 28, 22, 27, 26, 25, 23, 24, 42, 34, 33, 32, 30, 31, 41, 35, 40, 39, 38, 36, 37, 56, 48, 47, 46, 44, 45, 55, 49, 54, 53, 52, 50, 51]⟩] [234, 235, 236, 237, 238, 239, 240, 241, 242, 243, 244, 245, 246, 247, 248, 249, 250, 251, 252, 253, 254, 255, 256, 257, 258, 259, 260, 261, 262, 263, 264, 265, 266, 267, 268, 269, 270, 271, 272, 273, 274, 275, 276, 277, 278, 279, 280, 281, 282, 283, 284, 285, 286, 287, 288, 289, 290, 291])
          (.cond (.tmp 292)
            (.seq
             (.region false [⟨some 6, .mv (.const (.bool false)), none, []⟩] [])
            .ret)
            .skip))))))
       (.region false [⟨some 173, .mv (.tmp 19), none, []⟩,
         ⟨some 174, .bin .add (.tmp 173) (.const (.int .i64 1)), none, []⟩,
         ⟨some 19, .mv (.tmp 174), none, []⟩] [173, 174]))))))
  (.seq
   (.region false [⟨some 293, .call (.func 15) [], none, []⟩,
     ⟨some 6, .mv (.tmp 293), none, []⟩] [293])
  .ret))))))))))))))
set_option maxRecDepth 100000 in
theorem klaw07_SlingLinear : IsCode Try.prog 3 294 claw07_SlingLinear [.tmp 6] :=
  ⟨Try.f3, _, [292, 233, 231, 172, 168, 150, 116, 58, 26, 0, 1, 2, 4, 5, 9, 7, 8, 3, 11, 13, 15, 10, 12, 14, 17, 16, 19, 18, 6], Try.func3, rfl, by decide, rfl, by kernel_rfl, by kernel_rfl⟩
end Go.Proofs.Ythohcimmoobaoaa
/- Lists of numbers, rows and spans as abstract values. No conditions. -/
namespace Go.Proofs.Ythohcimmoobaoaa
open Go.RowKit Lift

def dI (n : Int) : D := .val (.int .i64 n)
def dB (b : Bool) : D := .val (.bool b)
def ints (l : List Int) : List (List D) := l.map fun n => [.val (.int .i64 n)]
def rows (l : List (List Int)) : List (List D) := l.map fun r => [.list (ints r)]
def tabD (xs ys : List Int) (vs : List (List Int)) : D := .agg [.list (ints xs), .list (ints ys), .list (rows vs)]
def spD (x : Int × Int) : D := .agg [.val (.int .i64 x.1), .val (.int .i64 x.2)]
theorem ints_len (l : List Int) : (ints l).length = l.length := by simp [ints]
theorem rows_len (l : List (List Int)) : (rows l).length = l.length := by simp [rows]
theorem ints_get (l : List Int) (k : Nat) (h : k < (ints l).length) : (ints l)[k] = [.val (.int .i64 (l[k]?.getD 0))] := by
  have h' : k < l.length := by simpa [ints] using h
  simp [ints, h']
theorem rows_get (l : List (List Int)) (k : Nat) (h : k < (rows l).length) : (rows l)[k] = [.list (ints (l[k]?.getD []))] := by
  have h' : k < l.length := by simpa [rows] using h
  simp [rows, h']
theorem ints_all (l : List Int) : (ints l).all (fun x => x.length == 1) = true := by simp [ints]
theorem rows_all (l : List (List Int)) : (rows l).all (fun x => x.length == 1) = true := by simp [rows]
def icells (l : List Int) : List D := l.map fun n => .val (.int .i64 n)
def rcells (l : List (List Int)) : List D := l.map fun r => .list (ints r)
theorem ints_flat (l : List Int) : (ints l).flatten = icells l := by
  induction l with
  | nil => rfl
  | cons x l ih => simp [ints, icells] at ih ⊢; exact ih
theorem icells_leaf (l : List Int) : (icells l).all D.leaf = true := by simp [icells, D.leaf]
theorem icells_in (l : List Int) : ∀ d ∈ icells l, In (fun _ => False) d := by
  intro d hd; obtain ⟨x, _, rfl⟩ := List.mem_map.1 hd; exact .val _
theorem rcells_in (l : List (List Int)) : ∀ d ∈ rcells l, In (fun _ => False) d := by
  intro d hd; obtain ⟨x, _, rfl⟩ := List.mem_map.1 hd; exact .list _
theorem icells_len (l : List Int) : (icells l).length = l.length := by simp [icells]
theorem ints_one (l : List Int) : ∀ e ∈ ints l, e.length = 1 := by simp [ints]
theorem rows_one (l : List (List Int)) : ∀ e ∈ rows l, e.length = 1 := by simp [rows]
theorem ints_gd (l : List Int) (k : Nat) (h : k < l.length) : (ints l)[k]? = some [.val (.int .i64 (l[k]?.getD 0))] := by simp [ints, h]
theorem rows_gd (l : List (List Int)) (k : Nat) (h : k < l.length) : (rows l)[k]? = some [.list (ints (l[k]?.getD []))] := by simp [rows, h]
end Go.Proofs.Ythohcimmoobaoaa
/- Boxes as abstract values; what is left of a box without another one. No conditions. -/
namespace Go.Proofs.Ythohcimmoobaoaa
open Go.RowKit Lift

abbrev Bx := List (Int × Int)
def sps (b : Bx) : List (List D) := b.map fun x => [.val (.int .i64 x.1), .val (.int .i64 x.2)]
def scells : Bx → List D
  | [] => []
  | x :: b => .val (.int .i64 x.1) :: .val (.int .i64 x.2) :: scells b
def bcells (l : List Bx) : List D := l.map fun b => .list (sps b)
def lo (b : Bx) (k : Nat) : Int := (b[k]?.getD (0, 0)).1
def hi (b : Bx) (k : Nat) : Int := (b[k]?.getD (0, 0)).2
theorem sps_len (b : Bx) : (sps b).length = b.length := by simp [sps]
theorem sps_all (b : Bx) : (sps b).all (fun x => x.length == 2) = true := by simp [sps]
theorem sps_two (b : Bx) : ∀ e ∈ sps b, e.length = 2 := by intro e he; obtain ⟨x, _, rfl⟩ := List.mem_map.1 he; rfl
theorem sps_flat (b : Bx) : (sps b).flatten = scells b := by
  induction b with
  | nil => rfl
  | cons x b ih => simp [sps, scells] at ih ⊢; exact ih
theorem scells_len (b : Bx) : (scells b).length = b.length * 2 := by
  induction b with
  | nil => rfl
  | cons x b ih => simp [scells, ih]; omega
theorem scells_mem {b : Bx} : ∀ {d : D}, d ∈ scells b → ∃ n, d = .val (.int .i64 n) := by
  induction b with
  | nil => intro d h; simp [scells] at h
  | cons x b ih =>
    intro d h
    simp only [scells, List.mem_cons] at h
    rcases h with rfl | rfl | h
    · exact ⟨_, rfl⟩
    · exact ⟨_, rfl⟩
    · exact ih h
theorem scells_in (b : Bx) : ∀ d ∈ scells b, In (fun _ => False) d := fun d hd => by obtain ⟨n, rfl⟩ := scells_mem hd; exact .val _
theorem bcells_in (l : List Bx) : ∀ d ∈ bcells l, In (fun _ => False) d := by
  intro d hd; obtain ⟨x, _, rfl⟩ := List.mem_map.1 hd; exact .list _
theorem sps_gd (b : Bx) (k : Nat) (h : k < b.length) : (sps b)[k]? = some [.val (.int .i64 (lo b k)), .val (.int .i64 (hi b k))] := by simp [sps, lo, hi, h]
/-! ### what the functions compute -/
def okS (x : Int × Int) : Bool := decide (-1000000 ≤ x.1) && decide (x.1 ≤ x.2) && decide (x.2 ≤ 1000000)
def boxE (b : Bx) : Int := if 1 ≤ b.length ∧ b.length ≤ 3 ∧ b.all okS = true then 0 else 10
structure OkB (b : Bx) : Prop where
  pos : 1 ≤ b.length
  len : b.length ≤ 3
  low : ∀ k, k < b.length → -1000000 ≤ lo b k
  le : ∀ k, k < b.length → lo b k ≤ hi b k
  high : ∀ k, k < b.length → hi b k ≤ 1000000
end Go.Proofs.Ythohcimmoobaoaa
/- Plain arithmetic: floor division by Go's '/' and '%'. -/
namespace Go.Proofs.Ythohcimmoobaoaa

theorem floor_eq (a b : Int) (hb : 1 ≤ b) : a / b = if a.tmod b < 0 then a.tdiv b - 1 else a.tdiv b := by
  have e1 := Int.mul_tdiv_add_tmod a b
  have e5 := Int.tmod_lt_of_pos a (show 0 < b by omega)
  have e6 := Int.lt_tmod_of_pos a (show 0 < b by omega)
  split
  · rename_i h
    exact ((Int.ediv_emod_unique (a := a) (b := b) (r := a.tmod b + b) (q := a.tdiv b - 1) (by omega)).2 ⟨by rw [Int.mul_sub]; omega, by omega, by omega⟩).1
  · rename_i h
    exact ((Int.ediv_emod_unique (a := a) (b := b) (r := a.tmod b) (q := a.tdiv b) (by omega)).2 ⟨by omega, by omega, by omega⟩).1
theorem tdiv_bd (a b M : Int) (h1 : -M ≤ a) (h2 : a ≤ M) : -M ≤ a.tdiv b ∧ a.tdiv b ≤ M := by
  have := Int.natAbs_tdiv_le_natAbs a b
  omega
theorem ediv_bd (a b M : Int) (hM : 0 ≤ M) (hb : 1 ≤ b) (h1 : -M ≤ a) (h2 : a ≤ M) : -M ≤ a / b ∧ a / b ≤ M := by
  have e2 := Int.mul_ediv_add_emod a b
  have e3 := Int.emod_nonneg a (show b ≠ 0 by omega)
  constructor
  · refine (Int.le_ediv_iff_mul_le (by omega)).2 ?_
    have : -M * b ≤ -M * 1 := Int.mul_le_mul_of_nonpos_left (by omega) hb
    omega
  · refine Int.le_trans (Int.ediv_le_ediv (by omega) h2) ?_
    exact Int.ediv_le_self _ hM
end Go.Proofs.Ythohcimmoobaoaa
/- What slices hold, said of lists: plain predicates on a world, kept by whatever leaves old blocks alone. -/
namespace Go.Proofs.Ythohcimmoobaoaa
open Go.RowKit

def Ints (w : World) (A : Option Addr) (l : List Int) : Prop :=
  0 < l.length → ∃ b off, A = some ⟨b, off, none⟩ ∧ b < w.heap.size ∧ ∀ k, k < l.length → w.cell? ⟨b, off + k, none⟩ = some (.int .i64 (l[k]?.getD 0))
def Sps (w : World) (A : Option Addr) (l : List (Int × Int)) : Prop :=
  0 < l.length → ∃ b off, A = some ⟨b, off, none⟩ ∧ b < w.heap.size ∧ ∀ k, k < l.length →
    w.cell? ⟨b, off + k * 2, none⟩ = some (.int .i64 (l[k]?.getD (0, 0)).1) ∧ w.cell? ⟨b, off + k * 2 + 1, none⟩ = some (.int .i64 (l[k]?.getD (0, 0)).2)
def Mat (w : World) (A : Option Addr) (l : List (List Int)) : Prop :=
  0 < l.length → ∃ b off, A = some ⟨b, off, none⟩ ∧ b < w.heap.size ∧ ∀ k, k < l.length → ∃ B c, w.cell? ⟨b, off + k, none⟩ = some (.slice B (l[k]?.getD []).length c) ∧ Ints w B (l[k]?.getD [])
def Bxs (w : World) (A : Option Addr) (l : List (List (Int × Int))) : Prop :=
  0 < l.length → ∃ b off, A = some ⟨b, off, none⟩ ∧ b < w.heap.size ∧ ∀ k, k < l.length → ∃ B c, w.cell? ⟨b, off + k, none⟩ = some (.slice B (l[k]?.getD []).length c) ∧ Sps w B (l[k]?.getD [])

section
variable {w w' : World} {A : Option Addr}
theorem Ints.below {l : List Int} (h : Ints w A l) (hb : Below w.heap.size w w') : Ints w' A l := fun hl => by
  obtain ⟨b, off, e, hlt, hc⟩ := h hl
  exact ⟨b, off, e, Nat.lt_of_lt_of_le hlt hb.size, fun k hk => (hb.cell (p := ⟨b, off + k, none⟩) hlt).trans (hc k hk)⟩
theorem Sps.below {l : List (Int × Int)} (h : Sps w A l) (hb : Below w.heap.size w w') : Sps w' A l := fun hl => by
  obtain ⟨b, off, e, hlt, hc⟩ := h hl
  exact ⟨b, off, e, Nat.lt_of_lt_of_le hlt hb.size, fun k hk => ⟨(hb.cell (p := ⟨b, off + k * 2, none⟩) hlt).trans (hc k hk).1, (hb.cell (p := ⟨b, off + k * 2 + 1, none⟩) hlt).trans (hc k hk).2⟩⟩
theorem Mat.below {l : List (List Int)} (h : Mat w A l) (hb : Below w.heap.size w w') : Mat w' A l := fun hl => by
  obtain ⟨b, off, e, hlt, hc⟩ := h hl
  refine ⟨b, off, e, Nat.lt_of_lt_of_le hlt hb.size, fun k hk => ?_⟩
  obtain ⟨B, c, h1, h2⟩ := hc k hk
  exact ⟨B, c, (hb.cell (p := ⟨b, off + k, none⟩) hlt).trans h1, h2.below hb⟩
theorem Bxs.below {l : List (List (Int × Int))} (h : Bxs w A l) (hb : Below w.heap.size w w') : Bxs w' A l := fun hl => by
  obtain ⟨b, off, e, hlt, hc⟩ := h hl
  refine ⟨b, off, e, Nat.lt_of_lt_of_le hlt hb.size, fun k hk => ?_⟩
  obtain ⟨B, c, h1, h2⟩ := hc k hk
  exact ⟨B, c, (hb.cell (p := ⟨b, off + k, none⟩) hlt).trans h1, h2.below hb⟩
end
theorem Below.drewN' {B : Nat} {a w : World} (h : Below B a w) (n : Nat) : Below B a (w.drewN n) := ⟨h.os, h.tape, h.output, h.size, h.block⟩
end Go.Proofs.Ythohcimmoobaoaa
/- The contracts of the small functions of package spans (floor, within, valid, spanned, Check ..): what each returns; old memory stays. -/
namespace Go.Proofs.Ythohcimmoobaoaa
open Go.RowKit

def wB (a b c : Int) : Bool := decide (b ≤ a) && decide (a ≤ c)
theorem within_any (a b c : Int) (w : World) :
    Calls Try.prog 96 #[.int .i64 a, .int .i64 b, .int .i64 c] w fun e w' => e = .returned (.bool (wB a b c)) ∧ w' = w := by
  by_cases h1 : b ≤ a <;> by_cases h2 : a ≤ c
  all_goals
    go_enter Try.func96, Try.ntmps96
    go_wp2
    go_ret
    simp [wB, h1, h2]
def vB (x : Int × Int) : Bool := wB x.1 (-1000000) x.2 && decide (x.2 ≤ 1000000)
set_option maxHeartbeats 400000 in
theorem valid_any (x : Int × Int) (w : World) :
    Calls Try.prog 115 #[.agg #[.int .i64 x.1, .int .i64 x.2]] w fun e w' => e = .returned (.bool (vB x)) ∧ Below w.heap.size w w' := by
  obtain ⟨lo, hi⟩ := x
  show Calls Try.prog 115 #[.agg #[.int .i64 lo, .int .i64 hi]] w _
  have key : ∀ b : Bool, wB lo (-1000000) hi = b → Calls Try.prog 115 #[.agg #[.int .i64 lo, .int .i64 hi]] w fun e w' => e = .returned (.bool (b && decide (hi ≤ 1000000))) ∧ Below w.heap.size w w' := by
    intro b hb
    have H := Lib.hid hb
    clear hb
    cases b
    all_goals
      go_enter Try.func115, Try.ntmps115
      go_wp2_with (go_at_call 96; refine (within_any _ _ _ _).mono ?_; rintro e w' ⟨rfl, rfl⟩; rw [H.out])
      go_ret
      exact ⟨by simp, (Below.refl _ _).alloc (Nat.le_refl _) _⟩
  exact key _ rfl
set_option maxHeartbeats 400000 in
theorem spanned1_any (x : Int × Int) (w : World) :
    Calls Try.prog 114 #[.agg #[.int .i64 x.1, .int .i64 x.2]] w fun e w' => e = .returned (.bool (!vB x)) ∧ Below w.heap.size w w' := by
  obtain ⟨lo, hi⟩ := x
  show Calls Try.prog 114 #[.agg #[.int .i64 lo, .int .i64 hi]] w _
  go_enter Try.func114, Try.ntmps114
  go_wp2_with (go_at_call 115; refine (valid_any (_, _) _).mono ?_; rintro e w' ⟨rfl, hb⟩)
  go_ret
  exact ⟨rfl, ((Below.refl _ _).alloc (Nat.le_refl _) _).trans (hb.mono (by simp))⟩

def Enters (P : Program) (g : Nat) : Prop := ∀ (args : Array Value) (w : World), (callFunc g args).run P w = .ok (.enter g args) w
/-- the first index at which p holds, from k on -/
def idxP {α : Type} (p : α → Bool) : List α → Nat → Int
  | [], _ => -1
  | x :: xs, k => if p x then (k : Int) else idxP p xs (k + 1)
theorem idxP_ge {α : Type} (p : α → Bool) (l : List α) (k : Nat) : decide (0 ≤ idxP p l k) = l.any p := by
  induction l generalizing k with
  | nil => simp [idxP]
  | cons x xs ih => unfold idxP; by_cases h : p x = true <;> simp [h, ih]
theorem idxP_drop {α : Type} (p : α → Bool) (l : List α) (d : α) (k : Nat) (h : k < l.length) : idxP p (l.drop k) k = if p (l[k]?.getD d) then (k : Int) else idxP p (l.drop (k + 1)) (k + 1) := by
  rw [List.drop_eq_getElem_cons h]
  simp [idxP, h]
set_option maxHeartbeats 400000 in
theorem indexFuncSpan (g : Nat) (p : Int × Int → Bool) (A : Option Addr) (l : List (Int × Int)) (c : Nat) (w : World) (hl : l.length ≤ 4611686018427387904) (hA : Sps w A l) (he : Enters Try.prog g)
   (hg : ∀ (x : Int × Int) (w' : World), Calls Try.prog g #[.agg #[.int .i64 x.1, .int .i64 x.2]] w' fun e w'' => e = .returned (.bool (p x)) ∧ Below w'.heap.size w' w'') :
   Calls Try.prog 126 #[.slice A l.length c, .func (.func g) #[] #[]] w fun e w' => e = .returned (.int .i64 (idxP p l 0)) ∧ Below w.heap.size w w' := by
  have HG := Lib.hid hg
  have HA := Lib.hid hA
  clear hg hA
  unfold Enters at he
  go_enter Try.func126, Try.ntmps126
  go_wp2
  go_loopw [5, 8] (fun _ i wr => ∃ k : Nat, k ≤ l.length ∧ i = .int .i64 k ∧ idxP p (l.drop k) k = idxP p l 0 ∧ Below w.heap.size w wr) (fun _ i _ => l.length - (intOf i).toNat)
  case atStart => exact ⟨0, by omega, rfl, by simp, Below.refl _ _⟩
  case round =>
    obtain ⟨k, hk, rfl, hp, hb⟩ := hrel
    have HP := Lib.hid hp
    clear hp
    by_cases hlt : k < l.length
    · obtain ⟨b, off, rfl, hbl, hc⟩ := HA.out (by omega)
      have h1 := (hb.cell (p := ⟨b, off + k * 2, none⟩) hbl).trans (hc k hlt).1
      have h2 := (hb.cell (p := ⟨b, off + k * 2 + 1, none⟩) hbl).trans (hc k hlt).2
      have hd := Lib.hid (idxP_drop p l (0, 0) k hlt)
      clear hc
      generalize hx : l[k]?.getD (0, 0) = x at h1 h2
      have HX := Lib.hid hx
      clear hx
      go_wp2_with fail
      refine (HG.out x _).mono ?_
      rintro e w1 ⟨rfl, hb1⟩
      have hb2 := hb.trans (hb1.mono hb.size)
      clear hb1
      by_cases hpx : p x = true
      · rw [hpx]
        go_wp2
        go_ret
        refine ⟨?_, hb2⟩
        rw [← HP.out, hd.out, HX.out, if_pos hpx]; rfl
      · have hpx' : p x = false := by simpa using hpx
        rw [hpx']
        go_wp2
        go_roundw
        case rel => exact ⟨k + 1, by omega, by go_num, by rw [← HP.out, hd.out, HX.out, if_neg hpx], hb2⟩
        case measure => simp [intOf]; omega
    · go_wp2
      go_ret
      refine ⟨?_, hb⟩
      rw [← HP.out, List.drop_eq_nil_of_le (by omega)]; rfl
set_option maxHeartbeats 400000 in
theorem containsFuncSpan (g : Nat) (p : Int × Int → Bool) (A : Option Addr) (l : List (Int × Int)) (c : Nat) (w : World) (hl : l.length ≤ 4611686018427387904) (hA : Sps w A l) (he : Enters Try.prog g)
   (hg : ∀ (x : Int × Int) (w' : World), Calls Try.prog g #[.agg #[.int .i64 x.1, .int .i64 x.2]] w' fun e w'' => e = .returned (.bool (p x)) ∧ Below w'.heap.size w' w'') :
   Calls Try.prog 113 #[.slice A l.length c, .func (.func g) #[] #[]] w fun e w' => e = .returned (.bool (l.any p)) ∧ Below w.heap.size w w' := by
  have H := Lib.hid (indexFuncSpan g p A l c w hl hA he hg)
  clear hg hA he
  go_enter Try.func113, Try.ntmps113
  go_wp2_with fail
  refine H.out.mono ?_
  rintro e w1 ⟨rfl, hb1⟩
  go_wp2
  go_ret
  exact ⟨by rw [← idxP_ge p l 0]; rfl, hb1⟩

theorem enters_spanned1 : Enters Try.prog 114 := fun _ _ => by kernel_rfl
def spErr (l : List (Int × Int)) : Int := if l.any (fun x => !vB x) then 10 else 0
set_option maxHeartbeats 400000 in
theorem spanned_any (A : Option Addr) (l : List (Int × Int)) (c : Nat) (w : World) (hl : l.length ≤ 4611686018427387904) (hA : Sps w A l) :
   Calls Try.prog 101 #[.slice A l.length c] w fun e w' => e = .returned (.int .i64 (spErr l)) ∧ Below w.heap.size w w' := by
  have H := Lib.hid (containsFuncSpan 114 (fun x => !vB x) A l c w hl hA enters_spanned1 (fun x w' => spanned1_any x w'))
  clear hA
  by_cases h : l.any (fun x => !vB x) = true
  · have E := Lib.hid h
    have R : Hid (spErr l = 10) := by unfold Hid spErr; rw [if_pos h]
    clear h
    go_enter Try.func101, Try.ntmps101
    go_wp2_with fail
    refine H.out.mono ?_
    rintro e w1 ⟨rfl, hb1⟩
    rw [E.out]
    go_wp2
    go_ret
    exact ⟨by rw [R.out]; rfl, hb1⟩
  · have R : Hid (spErr l = 0) := by unfold Hid spErr; rw [if_neg h]
    have h' : l.any (fun x => !vB x) = false := by simpa using h
    have E := Lib.hid h'
    clear h h'
    go_enter Try.func101, Try.ntmps101
    go_wp2_with fail
    refine H.out.mono ?_
    rintro e w1 ⟨rfl, hb1⟩
    rw [E.out]
    go_wp2
    go_ret
    exact ⟨by rw [R.out]; rfl, hb1⟩
end Go.Proofs.Ythohcimmoobaoaa
/- The contracts of axis, CheckTable and what it hands to slices.ContainsFunc, floor, ceil: what each returns; old memory stays. -/
namespace Go.Proofs.Ythohcimmoobaoaa
open Go.RowKit

set_option maxHeartbeats 400000 in
theorem floor_any (a b : Int) (w : World) (hb : 1 ≤ b) (hb' : b ≤ 4000000000000000000) (ha : -4000000000000000000 ≤ a) (ha' : a ≤ 4000000000000000000):
    Calls Try.prog 66 #[.int .i64 a, .int .i64 b] w fun e w' => e = .returned (.int .i64 (a / b)) ∧ w' = w := by
  have F := Lib.hid (floor_eq a b hb)
  obtain ⟨hq1, hq2⟩ := tdiv_bd a b _ ha ha'
  go_enter Try.func66, Try.ntmps66
  go_wp2
  all_goals
    go_ret
    refine ⟨?_, rfl⟩
  · rw [F.out, if_pos (by assumption)]; rfl
  · rw [F.out, if_neg (by omega)]; rfl
set_option maxHeartbeats 400000 in
theorem ceil_any (a b : Int) (w : World) (hb : 1 ≤ b) (hb' : b ≤ 4000000000000000000) (ha : -4000000000000000000 ≤ a) (ha' : a ≤ 4000000000000000000):
    Calls Try.prog 67 #[.int .i64 a, .int .i64 b] w fun e w' => e = .returned (.int .i64 (-(-a / b))) ∧ w' = w := by
  obtain ⟨hq1, hq2⟩ := ediv_bd (-a) b 4000000000000000000 (by omega) hb (by omega) (by omega)
  go_enter Try.func67, Try.ntmps67
  go_wp2_with (go_at_call 66; refine (floor_any _ _ _ (by omega) (by omega) (by omega) (by omega)).mono ?_; rintro e w' ⟨rfl, rfl⟩)
  go_ret
  exact ⟨rfl, rfl⟩
set_option maxHeartbeats 400000 in
theorem up_any (a b : Int) (w : World) (hb : 1 ≤ b) (hb' : b ≤ 4000000000000000000) (ha : -4000000000000000000 ≤ a) (ha' : a ≤ 4000000000000000000):
    Calls Try.prog 78 #[.agg #[.int .i64 a, .int .i64 b]] w fun e w' => e = .returned (.int .i64 (-(-a / b))) ∧ Below w.heap.size w w' := by
  go_enter Try.func78, Try.ntmps78
  go_wp2_with (go_at_call 67; refine (ceil_any _ _ _ (by omega) (by omega) (by omega) (by omega)).mono ?_; rintro e w' ⟨rfl, rfl⟩)
  go_ret
  exact ⟨rfl, (Below.refl _ _).alloc (Nat.le_refl _) _⟩

/-- knots, the one before the first at hand -/
def axFrom : Option Int → List Int → Bool
  | _, [] => true
  | p, x :: xs => wB x (-1000000) 1000000 && (match p with | none => true | some y => wB (x - y) 1 10000) && axFrom (some x) xs
def axB (l : List Int) : Bool := wB l.length 2 12 && axFrom none l
def prev (l : List Int) (k : Nat) : Option Int := if k = 0 then none else some (l[k - 1]?.getD 0)
theorem axFrom_drop (l : List Int) (k : Nat) (h : k < l.length) : axFrom (prev l k) (l.drop k) = (wB (l[k]?.getD 0) (-1000000) 1000000 && (if k = 0 then true else wB (l[k]?.getD 0 - l[k-1]?.getD 0) 1 10000) && axFrom (prev l (k + 1)) (l.drop (k + 1))) := by
  rw [List.drop_eq_getElem_cons h]
  have e : l[k]?.getD 0 = l[k] := by simp [h]
  by_cases hk : k = 0
  · subst hk; simp [prev, e, axFrom]
  · simp [prev, hk, e, axFrom]
theorem wB_iff {a b c : Int} : wB a b c = true ↔ b ≤ a ∧ a ≤ c := by simp [wB]
set_option maxHeartbeats 1000000 in
theorem axis_any (A : Option Addr) (l : List Int) (c : Nat) (w : World) (hl : l.length ≤ 4611686018427387904) (hA : Ints w A l) :
    Calls Try.prog 98 #[.slice A l.length c] w fun e w' => e = .returned (.bool (axB l)) ∧ w' = w := by
  by_cases hw : wB l.length 2 12 = true
  · have E := Lib.hid hw
    obtain ⟨h2, h12⟩ := wB_iff.1 hw
    have R : Hid (axB l = axFrom none l) := by unfold Hid axB; rw [hw]; rfl
    obtain ⟨b, off, rfl, hbl, hc⟩ := hA (by omega)
    have HC := Lib.hid hc
    clear hw hc hA
    go_enter Try.func98, Try.ntmps98
    go_wp2_with (go_at_call 96; refine (within_any _ _ _ _).mono ?_; rintro e w' ⟨rfl, rfl⟩; rw [E.out])
    go_loop [3, 4, 11] (fun _ _ i => ∃ k : Nat, k ≤ l.length ∧ i = .int .i64 k ∧ axFrom (prev l k) (l.drop k) = axFrom none l ∧ (0 < k → -1000000 ≤ l[k-1]?.getD 0 ∧ l[k-1]?.getD 0 ≤ 1000000)) (fun _ _ i => l.length - (intOf i).toNat)
    case atStart => exact ⟨0, by omega, rfl, by simp [prev], by omega⟩
    case round =>
      obtain ⟨k, hk, rfl, hp, hbd⟩ := hrel
      have HP := Lib.hid hp
      have HB := Lib.hid hbd
      clear hp hbd
      by_cases hlt : k < l.length
      · have hd := Lib.hid (axFrom_drop l k hlt)
        have h1 := HC.out k hlt
        generalize hx : l[k]?.getD 0 = x at h1
        have HX := Lib.hid hx
        clear hx
        by_cases hv : wB x (-1000000) 1000000 = true
        · have hvb := wB_iff.1 hv
          have HV := Lib.hid hv
          clear hv
          by_cases hk0 : k = 0
          · subst hk0
            simp only [Nat.add_zero] at h1
            go_wp2_with (go_at_call 96; refine (within_any _ _ _ _).mono ?_; rintro e w' ⟨rfl, rfl⟩; rw [HV.out])
            go_round
            case rel => exact ⟨1, by omega, by go_num, by rw [← HP.out, hd.out, HX.out, HV.out]; simp, fun _ => by simpa [HX.out] using hvb⟩
            case measure => simp [intOf]; omega
          · obtain ⟨j, rfl⟩ : ∃ j, k = j + 1 := ⟨k - 1, by omega⟩
            have h3 := HC.out j (by omega)
            have hyb := HB.out (by omega)
            simp only [Nat.add_sub_cancel] at hyb
            generalize hy : l[j]?.getD 0 = y at h3 hyb
            have HY := Lib.hid hy
            clear hy hk0
            have hj0 : (0 : Int) < (j : Int) + 1 := by omega
            by_cases hv2 : wB (x - y) 1 10000 = true
            · have HV2 := Lib.hid hv2
              clear hv2
              go_wp2_with (go_at_call 96; refine (within_any _ _ _ _).mono ?_; rintro e w' ⟨rfl, rfl⟩; first | rw [HV.out] | rw [HV2.out])
              go_round
              case rel => exact ⟨j + 1 + 1, by omega, by go_num, by rw [← HP.out, hd.out, HX.out, HV.out]; simp [HY.out, HV2.out], fun _ => by simpa [HX.out] using hvb⟩
              case measure => simp [intOf]; omega
            · have hv3 : wB (x - y) 1 10000 = false := by simpa using hv2
              have HV2 := Lib.hid hv3
              clear hv2 hv3
              go_wp2_with (go_at_call 96; refine (within_any _ _ _ _).mono ?_; rintro e w' ⟨rfl, rfl⟩; first | rw [HV.out] | rw [HV2.out])
              go_ret
              exact ⟨by rw [R.out, ← HP.out, hd.out, HX.out, HV.out]; simp [HY.out, HV2.out], rfl⟩
        · have hv3 : wB x (-1000000) 1000000 = false := by simpa using hv
          have HV := Lib.hid hv3
          clear hv hv3
          go_wp2_with (go_at_call 96; refine (within_any _ _ _ _).mono ?_; rintro e w' ⟨rfl, rfl⟩; rw [HV.out])
          go_ret
          exact ⟨by rw [R.out, ← HP.out, hd.out, HX.out, HV.out]; simp, rfl⟩
      · go_wp2
        go_ret
        exact ⟨by rw [R.out, ← HP.out, List.drop_eq_nil_of_le (by omega)]; simp [axFrom], rfl⟩
  · have hw' : wB l.length 2 12 = false := by simpa using hw
    have E := Lib.hid hw'
    have R : Hid (axB l = false) := by unfold Hid axB; rw [hw']; rfl
    clear hw hw' hA
    go_enter Try.func98, Try.ntmps98
    go_wp2_with (go_at_call 96; refine (within_any _ _ _ _).mono ?_; rintro e w' ⟨rfl, rfl⟩; rw [E.out])
    go_ret
    exact ⟨by rw [R.out]; rfl, rfl⟩
end Go.Proofs.Ythohcimmoobaoaa
/- The contract of spans.CheckTable: 0 or ErrTable; old memory stays. -/
namespace Go.Proofs.Ythohcimmoobaoaa
open Go.RowKit

theorem ct1_any (n : Int) (w : World) :
    Calls Try.prog 95 #[.int .i64 n] w fun e w' => e = .returned (.bool (!wB n (-1000000) 1000000)) ∧ w' = w := by
  go_enter Try.func95, Try.ntmps95
  go_wp2_with (go_at_call 96; refine (within_any _ _ _ _).mono ?_; rintro e w' ⟨rfl, rfl⟩)
  go_ret
  exact ⟨rfl, rfl⟩
set_option maxHeartbeats 400000 in
theorem indexFuncInt (g : Nat) (p : Int → Bool) (A : Option Addr) (l : List Int) (c : Nat) (w : World) (hl : l.length ≤ 4611686018427387904) (hA : Ints w A l) (he : Enters Try.prog g)
   (hg : ∀ (x : Int) (w' : World), Calls Try.prog g #[.int .i64 x] w' fun e w'' => e = .returned (.bool (p x)) ∧ Below w'.heap.size w' w'') :
   Calls Try.prog 92 #[.slice A l.length c, .func (.func g) #[] #[]] w fun e w' => e = .returned (.int .i64 (idxP p l 0)) ∧ Below w.heap.size w w' := by
  have HG := Lib.hid hg
  have HA := Lib.hid hA
  clear hg hA
  unfold Enters at he
  go_enter Try.func92, Try.ntmps92
  go_wp2
  go_loopw [5, 8] (fun _ i wr => ∃ k : Nat, k ≤ l.length ∧ i = .int .i64 k ∧ idxP p (l.drop k) k = idxP p l 0 ∧ Below w.heap.size w wr) (fun _ i _ => l.length - (intOf i).toNat)
  case atStart => exact ⟨0, by omega, rfl, by simp, Below.refl _ _⟩
  case round =>
    obtain ⟨k, hk, rfl, hp, hb⟩ := hrel
    have HP := Lib.hid hp
    clear hp
    by_cases hlt : k < l.length
    · obtain ⟨b, off, rfl, hbl, hc⟩ := HA.out (by omega)
      have h1 := (hb.cell (p := ⟨b, off + k, none⟩) hbl).trans (hc k hlt)
      have hd := Lib.hid (idxP_drop p l 0 k hlt)
      clear hc
      generalize hx : l[k]?.getD 0 = x at h1
      have HX := Lib.hid hx
      clear hx
      go_wp2_with fail
      refine (HG.out x _).mono ?_
      rintro e w1 ⟨rfl, hb1⟩
      have hb2 := hb.trans (hb1.mono hb.size)
      clear hb1
      by_cases hpx : p x = true
      · rw [hpx]
        go_wp2
        go_ret
        refine ⟨?_, hb2⟩
        rw [← HP.out, hd.out, HX.out, if_pos hpx]; rfl
      · have hpx' : p x = false := by simpa using hpx
        rw [hpx']
        go_wp2
        go_roundw
        case rel => exact ⟨k + 1, by omega, by go_num, by rw [← HP.out, hd.out, HX.out, if_neg hpx], hb2⟩
        case measure => simp [intOf]; omega
    · go_wp2
      go_ret
      refine ⟨?_, hb⟩
      rw [← HP.out, List.drop_eq_nil_of_le (by omega)]; rfl
set_option maxHeartbeats 400000 in
theorem containsFuncInt (g : Nat) (p : Int → Bool) (A : Option Addr) (l : List Int) (c : Nat) (w : World) (hl : l.length ≤ 4611686018427387904) (hA : Ints w A l) (he : Enters Try.prog g)
   (hg : ∀ (x : Int) (w' : World), Calls Try.prog g #[.int .i64 x] w' fun e w'' => e = .returned (.bool (p x)) ∧ Below w'.heap.size w' w'') :
   Calls Try.prog 51 #[.slice A l.length c, .func (.func g) #[] #[]] w fun e w' => e = .returned (.bool (l.any p)) ∧ Below w.heap.size w w' := by
  have H := Lib.hid (indexFuncInt g p A l c w hl hA he hg)
  clear hg hA he
  go_enter Try.func51, Try.ntmps51
  go_wp2_with fail
  refine H.out.mono ?_
  rintro e w1 ⟨rfl, hb1⟩
  go_wp2
  go_ret
  exact ⟨by rw [← idxP_ge p l 0]; rfl, hb1⟩
theorem enters_ct1 : Enters Try.prog 95 := fun _ _ => by kernel_rfl
theorem enters_ct2 : Enters Try.prog 97 := fun _ _ => by kernel_rfl

/- rows and a function value that has caught two variables -/
set_option maxHeartbeats 400000 in
theorem indexFuncRow (g : Nat) (p : List Int → Bool) (u v : Value) (A : Option Addr) (l : List (List Int)) (c : Nat) (w : World) (hl : l.length ≤ 4611686018427387904) (hA : Mat w A l) (he : Enters Try.prog g)
   (hg : ∀ (B : Option Addr) (x : List Int) (d : Nat) (w' : World), x ∈ l → Below w.heap.size w w' → Ints w' B x → Calls Try.prog g #[.slice B x.length d, u, v] w' fun e w'' => e = .returned (.bool (p x)) ∧ Below w'.heap.size w' w'') :
   Calls Try.prog 111 #[.slice A l.length c, .func (.func g) #[] #[u, v]] w fun e w' => e = .returned (.int .i64 (idxP p l 0)) ∧ Below w.heap.size w w' := by
  have HG := Lib.hid hg
  have HA := Lib.hid hA
  clear hg hA
  unfold Enters at he
  go_enter Try.func111, Try.ntmps111
  go_wp2
  go_loopw [5, 8] (fun _ i wr => ∃ k : Nat, k ≤ l.length ∧ i = .int .i64 k ∧ idxP p (l.drop k) k = idxP p l 0 ∧ Below w.heap.size w wr) (fun _ i _ => l.length - (intOf i).toNat)
  case atStart => exact ⟨0, by omega, rfl, by simp, Below.refl _ _⟩
  case round =>
    obtain ⟨k, hk, rfl, hp, hb⟩ := hrel
    have HP := Lib.hid hp
    clear hp
    by_cases hlt : k < l.length
    · obtain ⟨b, off, rfl, hbl, hc⟩ := HA.out (by omega)
      obtain ⟨B, d, hc1, hB⟩ := hc k hlt
      have h1 := (hb.cell (p := ⟨b, off + k, none⟩) hbl).trans hc1
      have hd := Lib.hid (idxP_drop p l [] k hlt)
      have hm : l[k]?.getD [] ∈ l := by simp [hlt]
      have HI := Lib.hid (hB.below hb)
      clear hc hc1 hB
      generalize hx : l[k]?.getD [] = x at h1 HI hm
      have HX := Lib.hid hx
      have HM := Lib.hid hm
      clear hx hm
      go_wp2_with fail
      refine (HG.out B x d _ HM.out hb HI.out).mono ?_
      rintro e w1 ⟨rfl, hb1⟩
      have hb2 := hb.trans (hb1.mono hb.size)
      clear hb1
      by_cases hpx : p x = true
      · rw [hpx]
        go_wp2
        go_ret
        refine ⟨?_, hb2⟩
        rw [← HP.out, hd.out, HX.out, if_pos hpx]; rfl
      · have hpx' : p x = false := by simpa using hpx
        rw [hpx']
        go_wp2
        go_roundw
        case rel => exact ⟨k + 1, by omega, by go_num, by rw [← HP.out, hd.out, HX.out, if_neg hpx], hb2⟩
        case measure => simp [intOf]; omega
    · go_wp2
      go_ret
      refine ⟨?_, hb⟩
      rw [← HP.out, List.drop_eq_nil_of_le (by omega)]; rfl
set_option maxHeartbeats 400000 in
theorem containsFuncRow (g : Nat) (p : List Int → Bool) (u v : Value) (A : Option Addr) (l : List (List Int)) (c : Nat) (w : World) (hl : l.length ≤ 4611686018427387904) (hA : Mat w A l) (he : Enters Try.prog g)
   (hg : ∀ (B : Option Addr) (x : List Int) (d : Nat) (w' : World), x ∈ l → Below w.heap.size w w' → Ints w' B x → Calls Try.prog g #[.slice B x.length d, u, v] w' fun e w'' => e = .returned (.bool (p x)) ∧ Below w'.heap.size w' w'') :
   Calls Try.prog 99 #[.slice A l.length c, .func (.func g) #[] #[u, v]] w fun e w' => e = .returned (.bool (l.any p)) ∧ Below w.heap.size w w' := by
  have H := Lib.hid (indexFuncRow g p u v A l c w hl hA he hg)
  clear hg hA he
  go_enter Try.func99, Try.ntmps99
  go_wp2_with fail
  refine H.out.mono ?_
  rintro e w1 ⟨rfl, hb1⟩
  go_wp2
  go_ret
  exact ⟨by rw [← idxP_ge p l 0]; rfl, hb1⟩

def rowBad (n : Nat) (r : List Int) : Bool := ((r.length : Int) != (n : Int)) || r.any (fun x => !wB x (-1000000) 1000000)
set_option maxHeartbeats 400000 in
theorem ct2_any (B Y : Option Addr) (x ys : List Int) (d cy bt bo : Nat) (w : World) (hx : x.length ≤ 4611686018427387904) (hB : Ints w B x)
    (h1 : w.cell? ⟨bt, 1, none⟩ = some (.slice Y ys.length cy)) (h2 : w.cell? ⟨bo, 0, none⟩ = some (.func (.func 95) #[] #[])) :
    Calls Try.prog 97 #[.slice B x.length d, .pointer (some ⟨bt, 0, none⟩), .pointer (some ⟨bo, 0, none⟩)] w fun e w' => e = .returned (.bool (rowBad ys.length x)) ∧ Below w.heap.size w w' := by
  have H := Lib.hid (containsFuncInt 95 (fun x => !wB x (-1000000) 1000000) B x d w hx hB enters_ct1 (fun x w' => (ct1_any x w').mono (fun e w'' ⟨h, h'⟩ => ⟨h, h' ▸ Below.refl _ _⟩)))
  clear hB
  by_cases hn : ((x.length : Int) != (ys.length : Int)) = true
  · have R : Hid (rowBad ys.length x = true) := by unfold Hid rowBad; rw [hn]; rfl
    go_enter Try.func97, Try.ntmps97
    go_wp2
    go_ret
    exact ⟨by rw [R.out]; rfl, Below.refl _ _⟩
  · have hn' : ((x.length : Int) != (ys.length : Int)) = false := by simpa using hn
    have R : Hid (rowBad ys.length x = x.any (fun x => !wB x (-1000000) 1000000)) := by unfold Hid rowBad; rw [hn']; rfl
    clear hn
    go_enter Try.func97, Try.ntmps97
    go_wp2_with fail
    refine H.out.mono ?_
    rintro e w1 ⟨rfl, hb1⟩
    go_wp2
    go_ret
    exact ⟨by rw [R.out]; rfl, hb1⟩
end Go.Proofs.Ythohcimmoobaoaa
/- The contract of spans.CheckTable: 0 or ErrTable; old memory stays. -/
namespace Go.Proofs.Ythohcimmoobaoaa
open Go.RowKit

def tabB (xs ys : List Int) (vs : List (List Int)) : Bool := axB xs && axB ys && !((vs.length : Int) != (xs.length : Int)) && !vs.any (rowBad ys.length)
def tabErr (xs ys : List Int) (vs : List (List Int)) : Int := if tabB xs ys vs then 0 else 11
def RowsLe (vs : List (List Int)) : Prop := ∀ r, r ∈ vs → r.length ≤ 4611686018427387904
set_option maxHeartbeats 1000000 in
theorem checkTable_any (xs ys : List Int) (vs : List (List Int)) (X Y V : Option Addr) (cx cy cv : Nat) (w : World)
   (hxl : xs.length ≤ 4611686018427387904) (hyl : ys.length ≤ 4611686018427387904) (hvl : vs.length ≤ 4611686018427387904) (hr : RowsLe vs)
   (hX : Ints w X xs) (hY : Ints w Y ys) (hV : Mat w V vs) :
   Calls Try.prog 63 #[.agg #[.slice X xs.length cx, .slice Y ys.length cy, .slice V vs.length cv]] w fun e w' => e = .returned (.int .i64 (tabErr xs ys vs)) ∧ Below w.heap.size w w' := by
  have hB2 : ∀ (o1 o2 : Obj), Below w.heap.size w ((w.alloc o1).alloc o2) := fun o1 o2 => ((Below.refl _ w).alloc (Nat.le_refl _) _).alloc (by simp) _
  have HB2 := Lib.hid hB2
  have HXx := Lib.hid hX
  have HYy := Lib.hid hY
  have HVv := Lib.hid hV
  have HR := Lib.hid hr
  clear hX hY hV hr hB2
  by_cases hx : axB xs = true
  · have EX := Lib.hid hx
    by_cases hy : axB ys = true
    · have EY := Lib.hid hy
      by_cases hn : ((vs.length : Int) != (xs.length : Int)) = true
      · have R : Hid (tabErr xs ys vs = 11) := by unfold Hid tabErr tabB; rw [hn]; simp
        clear hx hy
        go_enter Try.func63, Try.ntmps63
        go_wp2_with fail
        refine (axis_any X xs cx _ hxl (HXx.out.below (HB2.out _ _))).mono ?_
        rintro e w' ⟨rfl, rfl⟩
        rw [EX.out]
        go_wp2_with fail
        refine (axis_any Y ys cy _ hyl (HYy.out.below (HB2.out _ _))).mono ?_
        rintro e w' ⟨rfl, rfl⟩
        rw [EY.out]
        go_wp2_with fail
        go_ret
        exact ⟨by rw [R.out]; rfl, HB2.out _ _⟩
      · have hn' : ((vs.length : Int) != (xs.length : Int)) = false := by simpa using hn
        have R : Hid (tabErr xs ys vs = if vs.any (rowBad ys.length) then 11 else 0) := by unfold Hid tabErr tabB; rw [hn', hx, hy]; cases vs.any (rowBad ys.length) <;> rfl
        clear hx hy hn
        go_enter Try.func63, Try.ntmps63
        go_wp2_with fail
        refine (axis_any X xs cx _ hxl (HXx.out.below (HB2.out _ _))).mono ?_
        rintro e w' ⟨rfl, rfl⟩
        rw [EX.out]
        go_wp2_with fail
        refine (axis_any Y ys cy _ hyl (HYy.out.below (HB2.out _ _))).mono ?_
        rintro e w' ⟨rfl, rfl⟩
        rw [EY.out]
        go_wp2_with fail
        refine (containsFuncRow 97 (rowBad ys.length) _ _ V vs cv _ hvl (HVv.out.below (HB2.out _ _)) enters_ct2 ?_).mono ?_
        · intro B x d w' hm hb hI
          exact ct2_any B Y x ys d cy w.heap.size (w.heap.size + 1) w' (HR.out x hm) hI (by rw [hb.cell (by simp <;> omega)]; simp) (by rw [hb.cell (by simp <;> omega)]; simp)
        · rintro e w1 ⟨rfl, hb1⟩
          have hb2 := (HB2.out _ _).trans (hb1.mono (by simp; omega))
          clear hb1
          by_cases ha : vs.any (rowBad ys.length) = true
          · rw [ha]
            go_wp2_with fail
            go_ret
            exact ⟨by rw [R.out, if_pos ha]; rfl, hb2⟩
          · have ha' : vs.any (rowBad ys.length) = false := by simpa using ha
            rw [ha']
            go_wp2_with fail
            go_ret
            exact ⟨by rw [R.out, if_neg ha]; rfl, hb2⟩
    · have hy' : axB ys = false := by simpa using hy
      have EY := Lib.hid hy'
      have R : Hid (tabErr xs ys vs = 11) := by unfold Hid tabErr tabB; rw [hy']; simp
      clear hx hy hy'
      go_enter Try.func63, Try.ntmps63
      go_wp2_with fail
      refine (axis_any X xs cx _ hxl (HXx.out.below (HB2.out _ _))).mono ?_
      rintro e w' ⟨rfl, rfl⟩
      rw [EX.out]
      go_wp2_with fail
      refine (axis_any Y ys cy _ hyl (HYy.out.below (HB2.out _ _))).mono ?_
      rintro e w' ⟨rfl, rfl⟩
      rw [EY.out]
      go_wp2_with fail
      go_ret
      exact ⟨by rw [R.out]; rfl, HB2.out _ _⟩
  · have hx' : axB xs = false := by simpa using hx
    have EX := Lib.hid hx'
    have R : Hid (tabErr xs ys vs = 11) := by unfold Hid tabErr tabB; rw [hx']; simp
    clear hx hx'
    go_enter Try.func63, Try.ntmps63
    go_wp2_with fail
    refine (axis_any X xs cx _ hxl (HXx.out.below (HB2.out _ _))).mono ?_
    rintro e w' ⟨rfl, rfl⟩
    rw [EX.out]
    go_wp2_with fail
    go_ret
    exact ⟨by rw [R.out]; rfl, HB2.out _ _⟩
end Go.Proofs.Ythohcimmoobaoaa
/- The contract of slices.BinarySearch at ints, and of spans.cell. -/
namespace Go.Proofs.Ythohcimmoobaoaa
open Go.RowKit

theorem isNaN_any (n : Int) (w : World) : Calls Try.prog 125 #[.int .i64 n] w fun e w' => e = .returned (.bool false) ∧ w' = w := by
  have h : (n != n) = false := by simp
  go_enter Try.func125, Try.ntmps125
  go_wp2
  go_ret
  exact ⟨rfl, rfl⟩
theorem cisNaN_any (n : Int) (w : World) : Calls Try.prog 128 #[.int .i64 n] w fun e w' => e = .returned (.bool false) ∧ w' = w := by
  have h : (n != n) = false := by simp
  go_enter Try.func128, Try.ntmps128
  go_wp2
  go_ret
  exact ⟨rfl, rfl⟩
set_option maxHeartbeats 400000 in
theorem less_any (a b : Int) (w : World) : Calls Try.prog 124 #[.int .i64 a, .int .i64 b] w fun e w' => e = .returned (.bool (decide (a < b))) ∧ w' = w := by
  go_enter Try.func124, Try.ntmps124
  go_wp2_with (go_at_call 128; refine (cisNaN_any _ _).mono ?_; rintro e w' ⟨rfl, rfl⟩)
  go_ret
  exact ⟨rfl, rfl⟩
def BinAt (l : List Int) (x : Int) (i : Nat) : Prop := i ≤ l.length ∧ (0 < i → l[i-1]?.getD 0 < x) ∧ (i < l.length → x ≤ l[i]?.getD 0)
def BinPost (l : List Int) (x : Int) (w : World) (e : Ending) (w' : World) : Prop := ∃ (i : Nat) (b : Bool), BinAt l x i ∧ e = .returned (.tuple #[.int .i64 i, .bool b]) ∧ w' = w
set_option maxHeartbeats 400000 in
theorem binSearch_any (A : Option Addr) (l : List Int) (c : Nat) (x : Int) (w : World) (hl : l.length ≤ 1000000000) (hA : Ints w A l) :
    Calls Try.prog 112 #[.slice A l.length c, .int .i64 x] w (BinPost l x w) := by
  have HA := Lib.hid hA
  clear hA
  go_enter Try.func112, Try.ntmps112
  go_wp2
  go_loop [7, 8, 9] (fun i j _ => ∃ a b : Nat, a ≤ b ∧ b ≤ l.length ∧ i = .int .i64 a ∧ j = .int .i64 b ∧ (0 < a → l[a-1]?.getD 0 < x) ∧ (b < l.length → x ≤ l[b]?.getD 0)) (fun i j _ => (intOf j).toNat - (intOf i).toNat)
  case atStart => exact ⟨0, l.length, by omega, by omega, rfl, rfl, by omega, by omega⟩
  case round =>
    obtain ⟨a, b, hab, hbl, rfl, rfl, h1, h2⟩ := hrel
    have H1 := Lib.hid h1
    have H2 := Lib.hid h2
    clear h1 h2
    by_cases hlt : a < b
    · obtain ⟨bb, off, rfl, hbl2, hc⟩ := HA.out (by omega)
      have hc1 := hc ((a + b) / 2) (by omega)
      clear hc
      generalize hy : l[(a + b) / 2]?.getD 0 = y at hc1
      have HY := Lib.hid hy
      clear hy
      go_wp2_with fail
      refine (less_any _ _ _).mono ?_
      rintro e w' ⟨rfl, rfl⟩
      by_cases hyx : y < x
      · rw [decide_eq_true hyx]
        go_wp2_with fail
        go_round
        case rel => exact ⟨(a + b) / 2 + 1, b, by omega, by omega, by go_num, rfl, fun _ => by rw [Nat.add_sub_cancel, HY.out]; exact hyx, H2.out⟩
        case measure => simp [intOf]; omega
      · rw [decide_eq_false hyx]
        go_wp2_with fail
        go_round
        case rel => exact ⟨a, (a + b) / 2, by omega, by omega, rfl, by go_num, H1.out, fun _ => by rw [HY.out]; omega⟩
        case measure => simp [intOf]; omega
    · obtain rfl : a = b := by omega
      have HB : Hid (BinAt l x a) := ⟨hbl, H1.out, H2.out⟩
      clear H1 H2
      by_cases hal : a < l.length
      · obtain ⟨bb, off, rfl, hbl2, hc⟩ := HA.out (by omega)
        have hc1 := hc a hal
        clear hc
        generalize l[a]?.getD 0 = y at hc1
        by_cases hyx : (y == x) = true
        · go_wp2_with (go_at_call 125; refine (isNaN_any _ _).mono ?_; rintro e w' ⟨rfl, rfl⟩)
          go_ret2
          exact ⟨a, _, HB.out, rfl, rfl⟩
        · have hyx' : (y == x) = false := by simpa using hyx
          clear hyx
          go_wp2_with (go_at_call 125; refine (isNaN_any _ _).mono ?_; rintro e w' ⟨rfl, rfl⟩)
          go_ret2
          exact ⟨a, _, HB.out, rfl, rfl⟩
      · obtain rfl : a = l.length := by omega
        go_wp2_with (go_at_call 125; refine (isNaN_any _ _).mono ?_; rintro e w' ⟨rfl, rfl⟩)
        go_ret2
        exact ⟨_, _, HB.out, rfl, rfl⟩
end Go.Proofs.Ythohcimmoobaoaa
/- The contract of spans.cell. -/
namespace Go.Proofs.Ythohcimmoobaoaa
open Go.RowKit

/-- the number of the part of an axis: what spans.cell may return -/
def CellAt (l : List Int) (x : Int) (i : Nat) : Prop := i + 2 ≤ l.length ∧ (0 < i → l[i]?.getD 0 < x) ∧ (i + 2 < l.length → x ≤ l[i+1]?.getD 0)
theorem cellAt_of_bin (l : List Int) (x : Int) (i : Nat) (h2 : 2 ≤ l.length) (h : BinAt ((l.drop 1).take (l.length - 2)) x i) : CellAt l x i := by
  obtain ⟨h1, h3, h4⟩ := h
  have e : ((l.drop 1).take (l.length - 2)).length = l.length - 2 := by simp; omega
  rw [e] at h1 h4
  refine ⟨by omega, fun h0 => ?_, fun hi => ?_⟩
  · have := h3 h0
    rw [List.getElem?_take, if_pos (by omega), List.getElem?_drop, show 1 + (i - 1) = i by omega] at this
    exact this
  · have := h4 (by omega)
    rw [List.getElem?_take, if_pos (by omega), List.getElem?_drop, show 1 + i = i + 1 by omega] at this
    exact this
def CellPost (l : List Int) (x : Int) (w : World) (e : Ending) (w' : World) : Prop := ∃ i : Nat, CellAt l x i ∧ e = .returned (.int .i64 i) ∧ w' = w
set_option maxHeartbeats 400000 in
theorem cell_any (A : Option Addr) (l : List Int) (c : Nat) (x : Int) (w : World) (h2 : 2 ≤ l.length) (hl : l.length ≤ 1000000) (hlc : l.length ≤ c) (hA : Ints w A l) :
    Calls Try.prog 100 #[.slice A l.length c, .int .i64 x] w (CellPost l x w) := by
  obtain ⟨b, off, rfl, hb, hc⟩ := hA (by omega)
  have e : ((l.drop 1).take (l.length - 2)).length = l.length - 1 - 1 := by simp; omega
  have hsub : Ints w (some ⟨b, off + 1, none⟩) ((l.drop 1).take (l.length - 2)) := fun _ => ⟨b, off + 1, rfl, hb, fun k hk => by
    rw [e] at hk
    rw [List.getElem?_take, if_pos (by omega), List.getElem?_drop, show off + 1 + k = off + (1 + k) by omega]
    exact hc (1 + k) (by omega)⟩
  have h := binSearch_any (some ⟨b, off + 1, none⟩) ((l.drop 1).take (l.length - 2)) (c - 1) x w (by omega) hsub
  rw [e] at h
  have H := Lib.hid h
  have hi1 : (1 : Int) ≤ (l.length : Int) - 1 := by omega
  have hi2 : (l.length : Int) - 1 ≤ (c : Int) := by omega
  clear hc hA e hsub h
  go_enter Try.func100, Try.ntmps100
  go_wp2_with fail
  refine H.out.mono ?_
  rintro e w' ⟨i, bb, hbin, rfl, rfl⟩
  have HB := Lib.hid hbin
  clear hbin
  go_wp2_with fail
  go_ret
  exact ⟨i, cellAt_of_bin l x i h2 HB.out, rfl, rfl⟩
end Go.Proofs.Ythohcimmoobaoaa
/- Plain facts of an axis that is valid, and of the part of it in which a number lies. -/
namespace Go.Proofs.Ythohcimmoobaoaa
open Go.RowKit

theorem axFrom_all (p : Option Int) (l : List Int) (h : axFrom p l = true) : (∀ k, k < l.length → -1000000 ≤ l[k]?.getD 0 ∧ l[k]?.getD 0 ≤ 1000000) ∧
    (∀ k, k + 1 < l.length → 1 ≤ l[k+1]?.getD 0 - l[k]?.getD 0 ∧ l[k+1]?.getD 0 - l[k]?.getD 0 ≤ 10000) ∧ (∀ y, p = some y → 0 < l.length → 1 ≤ l[0]?.getD 0 - y ∧ l[0]?.getD 0 - y ≤ 10000) := by
  induction l generalizing p with
  | nil => simp
  | cons x xs ih =>
    simp only [axFrom, Bool.and_eq_true] at h
    obtain ⟨⟨h1, h2⟩, h3⟩ := h
    obtain ⟨i1, i2, i3⟩ := ih _ h3
    have hx := wB_iff.1 h1
    refine ⟨fun k hk => ?_, fun k hk => ?_, fun y hy _ => ?_⟩
    · cases k with
      | zero => simpa using hx
      | succ k => simpa using i1 k (by simpa using hk)
    · cases k with
      | zero => simpa using i3 x rfl (by simpa using hk)
      | succ k => simpa using i2 k (by simpa using hk)
    · subst hy
      simpa using wB_iff.1 h2
structure Axis (l : List Int) : Prop where
  two : 2 ≤ l.length
  twelve : l.length ≤ 12
  bd : ∀ k, k < l.length → -1000000 ≤ l[k]?.getD 0 ∧ l[k]?.getD 0 ≤ 1000000
  gap : ∀ k, k + 1 < l.length → 1 ≤ l[k+1]?.getD 0 - l[k]?.getD 0 ∧ l[k+1]?.getD 0 - l[k]?.getD 0 ≤ 10000
theorem axis_of {l : List Int} (h : axB l = true) : Axis l := by
  unfold axB at h
  simp only [Bool.and_eq_true] at h
  have h1 := wB_iff.1 h.1
  obtain ⟨a, b, _⟩ := axFrom_all none l h.2
  exact ⟨by omega, by omega, a, b⟩
theorem Axis.mono {l : List Int} (h : Axis l) (i j : Nat) (hij : i ≤ j) (hj : j < l.length) : l[i]?.getD 0 ≤ l[j]?.getD 0 := by
  induction j with
  | zero => obtain rfl : i = 0 := by omega
            exact Int.le_refl _
  | succ j ih =>
    by_cases e : i = j + 1
    · subst e; exact Int.le_refl _
    · have := ih (by omega) (by omega)
      have := h.gap j hj
      omega
theorem Axis.cell_unique {l : List Int} (h : Axis l) {x : Int} {i j : Nat} (hi : CellAt l x i) (hj : CellAt l x j) : i = j := by
  have key : ∀ {i j : Nat}, CellAt l x i → CellAt l x j → ¬ i < j := by
    intro i j hi hj hlt
    have h1 := hi.2.2 (by have := hj.1; omega)
    have h2 := hj.2.1 (by omega)
    have h3 := h.mono (i + 1) j (by omega) (by have := hj.1; omega)
    omega
  have h1 := key hi hj
  have h2 := key hj hi
  omega
instance (l : List Int) (x : Int) (i : Nat) : Decidable (CellAt l x i) := by unfold CellAt; exact inferInstance
def cellI (l : List Int) (x : Int) : Nat := ((List.range l.length).find? (fun i => decide (CellAt l x i))).getD 0
theorem Axis.cellI_eq {l : List Int} (h : Axis l) {x : Int} {i : Nat} (hi : CellAt l x i) : cellI l x = i := by
  unfold cellI
  cases e : (List.range l.length).find? (fun i => decide (CellAt l x i)) with
  | none =>
    have := List.find?_eq_none.1 e i (by have := hi.1; simp; omega)
    simp [hi] at this
  | some j =>
    have := List.find?_some e
    exact h.cell_unique (by simpa using this) hi
theorem cellI_any (A : Option Addr) (l : List Int) (c : Nat) (x : Int) (w : World) (h : Axis l) (hlc : l.length ≤ c) (hA : Ints w A l) :
    Calls Try.prog 100 #[.slice A l.length c, .int .i64 x] w fun e w' => e = .returned (.int .i64 (cellI l x)) ∧ w' = w :=
  (cell_any A l c x w h.two (by have := h.twelve; omega) hlc hA).mono fun _ _ ⟨i, hi, he, hw⟩ => ⟨by rw [h.cellI_eq hi]; exact he, hw⟩
/-- a number that lies on an axis -/
def OnAx (l : List Int) (x : Int) : Prop := l[0]?.getD 0 ≤ x ∧ x ≤ l[l.length - 1]?.getD 0
theorem Axis.cell_exists {l : List Int} (h : Axis l) (x : Int) : ∃ i, CellAt l x i := by
  -- the first i from 0 on at which the number is at most the next knot, or the last part
  have key : ∀ n i, i + n + 2 = l.length → (0 < i → l[i]?.getD 0 < x) → ∃ j, CellAt l x j := by
    intro n
    induction n with
    | zero => intro i hi h0; exact ⟨i, by omega, h0, by omega⟩
    | succ n ih =>
      intro i hi h0
      by_cases hx : x ≤ l[i+1]?.getD 0
      · exact ⟨i, by omega, h0, fun _ => hx⟩
      · exact ih (i + 1) (by omega) (fun _ => by omega)
  exact key (l.length - 2) 0 (by have := h.two; omega) (by omega)
theorem Axis.cellI_at {l : List Int} (h : Axis l) (x : Int) : CellAt l x (cellI l x) := by
  obtain ⟨i, hi⟩ := h.cell_exists x
  rw [h.cellI_eq hi]; exact hi
theorem Axis.cell_on {l : List Int} (h : Axis l) {x : Int} (ho : OnAx l x) : cellI l x + 1 < l.length ∧ l[cellI l x]?.getD 0 ≤ x ∧ x ≤ l[cellI l x + 1]?.getD 0 ∧ l[cellI l x + 1]?.getD 0 - l[cellI l x]?.getD 0 ≤ 10000 ∧ 1 ≤ l[cellI l x + 1]?.getD 0 - l[cellI l x]?.getD 0 := by
  obtain ⟨h1, h2, h3⟩ := h.cellI_at x
  generalize cellI l x = i at *
  have g := h.gap i (by omega)
  refine ⟨by omega, ?_, ?_, g.2, g.1⟩
  · by_cases h0 : 0 < i
    · have := h2 h0; omega
    · obtain rfl : i = 0 := by omega
      exact ho.1
  · by_cases h0 : i + 2 < l.length
    · exact h3 h0
    · have : i + 1 = l.length - 1 := by omega
      rw [this]; exact ho.2
end Go.Proofs.Ythohcimmoobaoaa
/- The contract of spans.at: the value of a valid table at a point on it, as a fraction; old memory stays. -/
namespace Go.Proofs.Ythohcimmoobaoaa
open Go.RowKit

theorem wp_region_tail {P : Program} {id : Nat} {Q : Exit → Act → World → Prop} {a : Act} {w : World} {l : List Oper} (n : Nat) (hm : P.follows .mixedOrders = true) (hB : Region.lexTailB .any l.toArray n = true)
    (h : wpStill P l.toArray w.drew (fun a' => wpList P l.toArray Q (l.drop n) a' w.drew) (l.take n) a) : (Code.region id l.toArray true).wp P Q a w := wp_region_still_tail n hm hB h
def numF (a b c d z00 z10 z01 z11 : Int) : Int := a * c * z00 + b * c * z10 + a * d * z01 + b * d * z11
def denF (a b c d : Int) : Int := (a + b) * (c + d)
theorem mul_bd {a b A B : Int} (ha : 0 ≤ a) (ha' : a ≤ A) (hb : 0 ≤ b) (hb' : b ≤ B) : 0 ≤ a * b ∧ a * b ≤ A * B :=
  ⟨Int.mul_nonneg ha hb, Int.mul_le_mul ha' hb' hb (by omega)⟩
theorem mul_bd2 {a z A B : Int} (ha : 0 ≤ a) (ha' : a ≤ A) (hz : -B ≤ z) (hz' : z ≤ B) (hB : 0 ≤ B) : -(A * B) ≤ a * z ∧ a * z ≤ A * B := by
  have h1 : a * z ≤ a * B := Int.mul_le_mul_of_nonneg_left hz' ha
  have h2 : a * (-B) ≤ a * z := Int.mul_le_mul_of_nonneg_left hz ha
  have h3 : a * B ≤ A * B := Int.mul_le_mul_of_nonneg_right ha' hB
  rw [Int.mul_neg] at h2
  omega
/-- what a table in memory reads as -/
structure TabR (w : World) (X Y V : Option Addr) (cx cy cv : Nat) (xs ys : List Int) (vs : List (List Int)) : Prop where
  hX : Ints w X xs
  hY : Ints w Y ys
  hV : Mat w V vs
  lx : xs.length ≤ cx
  ly : ys.length ≤ cy
theorem TabR.below {w w' : World} {X Y V : Option Addr} {cx cy cv : Nat} {xs ys : List Int} {vs : List (List Int)} (h : TabR w X Y V cx cy cv xs ys vs) (hb : Below w.heap.size w w') : TabR w' X Y V cx cy cv xs ys vs :=
  ⟨h.hX.below hb, h.hY.below hb, h.hV.below hb, h.lx, h.ly⟩
structure Tbl (xs ys : List Int) (vs : List (List Int)) : Prop where
  ax : Axis xs
  ay : Axis ys
  len : vs.length = xs.length
  row : ∀ k, k < vs.length → (vs[k]?.getD []).length = ys.length
  val : ∀ k j, k < vs.length → j < ys.length → -1000000 ≤ (vs[k]?.getD [])[j]?.getD 0 ∧ (vs[k]?.getD [])[j]?.getD 0 ≤ 1000000
theorem tbl_of {xs ys : List Int} {vs : List (List Int)} (h : tabB xs ys vs = true) : Tbl xs ys vs := by
  unfold tabB at h
  simp only [Bool.and_eq_true, Bool.not_eq_true', bne_eq_false_iff_eq, List.any_eq_false] at h
  obtain ⟨⟨⟨h1, h2⟩, h3⟩, h4⟩ := h
  have hr : ∀ k, k < vs.length → rowBad ys.length (vs[k]?.getD []) = false := fun k hk => by
    have := h4 (vs[k]?.getD []) (by simp [hk])
    simpa using this
  refine ⟨axis_of h1, axis_of h2, by omega, fun k hk => ?_, fun k j hk hj => ?_⟩
  · have := hr k hk
    unfold rowBad at this
    simp only [Bool.or_eq_false_iff, bne_eq_false_iff_eq] at this
    omega
  · have := hr k hk
    unfold rowBad at this
    simp only [Bool.or_eq_false_iff, bne_eq_false_iff_eq, List.any_eq_false] at this
    have h5 := this.2 ((vs[k]?.getD [])[j]?.getD 0) (by
      have : j < (vs[k]?.getD []).length := by omega
      simp [this])
    simp only [Bool.not_eq_true', Bool.not_eq_false] at h5
    exact wB_iff.1 h5
def atN (xs ys : List Int) (vs : List (List Int)) (x y : Int) : Int :=
  let i := cellI xs x; let k := cellI ys y
  numF (xs[i+1]?.getD 0 - x) (x - xs[i]?.getD 0) (ys[k+1]?.getD 0 - y) (y - ys[k]?.getD 0)
    ((vs[i]?.getD [])[k]?.getD 0) ((vs[i+1]?.getD [])[k]?.getD 0) ((vs[i]?.getD [])[k+1]?.getD 0) ((vs[i+1]?.getD [])[k+1]?.getD 0)
def atD (xs ys : List Int) (x y : Int) : Int :=
  let i := cellI xs x; let k := cellI ys y
  denF (xs[i+1]?.getD 0 - x) (x - xs[i]?.getD 0) (ys[k+1]?.getD 0 - y) (y - ys[k]?.getD 0)
set_option maxHeartbeats 2000000 in
set_option maxRecDepth 100000 in
theorem at_any (xs ys : List Int) (vs : List (List Int)) (X Y V : Option Addr) (cx cy cv : Nat) (x y : Int) (w : World)
   (hT : Tbl xs ys vs) (hR : TabR w X Y V cx cy cv xs ys vs) (hx : OnAx xs x) (hy : OnAx ys y) :
   Calls Try.prog 65 #[.agg #[.slice X xs.length cx, .slice Y ys.length cy, .slice V vs.length cv], .int .i64 x, .int .i64 y] w
     fun e w' => e = .returned (.agg #[.int .i64 (atN xs ys vs x y), .int .i64 (atD xs ys x y)]) ∧ Below w.heap.size w w' := by
  have q1 := hT.ax.cell_on hx
  have q2 := hT.ay.cell_on hy
  have hq1 : ∀ W, Below w.heap.size w W → Calls Try.prog 100 #[.slice X xs.length cx, .int .i64 x] W fun e w' => e = .returned (.int .i64 (cellI xs x)) ∧ w' = W :=
    fun W hb => cellI_any X xs cx x W hT.ax hR.lx (hR.hX.below hb)
  have hq2 : ∀ W, Below w.heap.size w W → Calls Try.prog 100 #[.slice Y ys.length cy, .int .i64 y] W fun e w' => e = .returned (.int .i64 (cellI ys y)) ∧ w' = W :=
    fun W hb => cellI_any Y ys cy y W hT.ay hR.ly (hR.hY.below hb)
  have hN : atN xs ys vs x y = numF (xs[cellI xs x + 1]?.getD 0 - x) (x - xs[cellI xs x]?.getD 0) (ys[cellI ys y + 1]?.getD 0 - y) (y - ys[cellI ys y]?.getD 0)
    ((vs[cellI xs x]?.getD [])[cellI ys y]?.getD 0) ((vs[cellI xs x + 1]?.getD [])[cellI ys y]?.getD 0) ((vs[cellI xs x]?.getD [])[cellI ys y + 1]?.getD 0) ((vs[cellI xs x + 1]?.getD [])[cellI ys y + 1]?.getD 0) := rfl
  have hD : atD xs ys x y = denF (xs[cellI xs x + 1]?.getD 0 - x) (x - xs[cellI xs x]?.getD 0) (ys[cellI ys y + 1]?.getD 0 - y) (y - ys[cellI ys y]?.getD 0) := rfl
  generalize cellI xs x = i at *
  generalize cellI ys y = k at *
  have t12x := hT.ax.twelve
  have t12y := hT.ay.twelve
  have lenv := hT.len
  have r0 := hT.row i (by omega)
  have r1 := hT.row (i+1) (by omega)
  have b00 := hT.val i k (by omega) (by omega)
  have b01 := hT.val i (k+1) (by omega) (by omega)
  have b10 := hT.val (i+1) k (by omega) (by omega)
  have b11 := hT.val (i+1) (k+1) (by omega) (by omega)
  obtain ⟨bx, ox, rfl, hbx, hcx⟩ := hR.hX (by omega)
  obtain ⟨bY, oy, rfl, hby, hcy⟩ := hR.hY (by omega)
  obtain ⟨bv, ov, rfl, hbv, hcv⟩ := hR.hV (by omega)
  obtain ⟨R0, c0, e0, hR0⟩ := hcv i (by omega)
  obtain ⟨R1, c1, e1, hR1⟩ := hcv (i+1) (by omega)
  obtain ⟨b0, o0, rfl, hb0, hc0⟩ := hR0 (by omega)
  obtain ⟨b1, o1, rfl, hb1, hc1⟩ := hR1 (by omega)
  have cx0 := hcx i (by omega)
  have cx1 := hcx (i+1) (by omega)
  have cy0 := hcy k (by omega)
  have cy1 := hcy (k+1) (by omega)
  have v00 := hc0 k (by omega)
  have v01 := hc0 (k+1) (by omega)
  have v10 := hc1 k (by omega)
  have v11 := hc1 (k+1) (by omega)
  rw [r0] at e0
  rw [r1] at e1
  generalize xs[i]?.getD 0 = x0 at *
  generalize xs[i+1]?.getD 0 = x1 at *
  generalize ys[k]?.getD 0 = y0 at *
  generalize ys[k+1]?.getD 0 = y1 at *
  generalize (vs[i]?.getD [])[k]?.getD 0 = z00 at *
  generalize (vs[i]?.getD [])[k+1]?.getD 0 = z01 at *
  generalize (vs[i+1]?.getD [])[k]?.getD 0 = z10 at *
  generalize (vs[i+1]?.getD [])[k+1]?.getD 0 = z11 at *
  obtain ⟨hi, hx0, hx1, hgx, _⟩ := q1
  obtain ⟨hk, hy0, hy1, hgy, _⟩ := q2
  have p1 := mul_bd (a := x1 - x) (b := y1 - y) (A := 10000) (B := 10000) (by omega) (by omega) (by omega) (by omega)
  have p2 := mul_bd (a := x - x0) (b := y1 - y) (A := 10000) (B := 10000) (by omega) (by omega) (by omega) (by omega)
  have p3 := mul_bd (a := x1 - x) (b := y - y0) (A := 10000) (B := 10000) (by omega) (by omega) (by omega) (by omega)
  have p4 := mul_bd (a := x - x0) (b := y - y0) (A := 10000) (B := 10000) (by omega) (by omega) (by omega) (by omega)
  have p5 := mul_bd (a := x1 - x + (x - x0)) (b := y1 - y + (y - y0)) (A := 10000) (B := 10000) (by omega) (by omega) (by omega) (by omega)
  have s1 := mul_bd2 (A := 100000000) (B := 1000000) p1.1 (by omega) b00.1 b00.2 (by omega)
  have s2 := mul_bd2 (A := 100000000) (B := 1000000) p2.1 (by omega) b10.1 b10.2 (by omega)
  have s3 := mul_bd2 (A := 100000000) (B := 1000000) p3.1 (by omega) b01.1 b01.2 (by omega)
  have s4 := mul_bd2 (A := 100000000) (B := 1000000) p4.1 (by omega) b11.1 b11.2 (by omega)
  have HN := Lib.hid hN
  have HD := Lib.hid hD
  have HQ1 := Lib.hid hq1
  have HQ2 := Lib.hid hq2
  have hlv : i + 1 < vs.length := by omega
  have hlv2 : vs.length ≤ 12 := by omega
  clear hN hD hq1 hq2 hcx hcy hcv hc0 hc1 hR0 hR1 hR hT hx hy lenv r0 r1 
  have hBd : ∀ (o1 o2 : Obj) (n : Nat), Below w.heap.size w (((w.alloc o1).alloc o2).drewN n) := fun o1 o2 n => Below.drewN' (((Below.refl _ w).alloc (Nat.le_refl _) _).alloc (by simp) _) n
  have HBd := Lib.hid hBd
  clear hBd
  go_enter Try.func65, Try.ntmps65
  go_wp2_with fail
  go_quiet ((go_at_call 100; first | (with_reducible exact Calls.quiet_of_same (HQ1.out _ (HBd.out _ _ _))) | (with_reducible exact Calls.quiet_of_same (HQ2.out _ (HBd.out _ _ _)))))
  go_wp2_with fail
  go_quiet (fail)
  go_wp2_with fail
  go_quiet (fail)
  go_wp2_with fail
  have t1 : ((i : Int) + 1).toNat = i + 1 := by omega
  have t2 : ((k : Int) + 1).toNat = k + 1 := by omega
  have t3 : (0 : Int) ≤ (i : Int) + 1 := by omega
  have t4 : (0 : Int) ≤ (k : Int) + 1 := by omega
  have t5 : (i : Int) < (vs.length : Int) := by omega
  have t6 : (i : Int) + 1 < (vs.length : Int) := by omega
  have t7 : (k : Int) < (ys.length : Int) := by omega
  have t8 : (k : Int) + 1 < (ys.length : Int) := by omega
  have u1 : IntKind.i64.wrap ((i : Int) + 1) = (i : Int) + 1 := IntWalk.i64_in _ (by omega)
  have u2 : IntKind.i64.wrap ((k : Int) + 1) = (k : Int) + 1 := IntWalk.i64_in _ (by omega)
  have u3 : IntKind.i64.wrap ((x1 - x) * (y1 - y)) = (x1 - x) * (y1 - y) := IntWalk.i64_in _ (by omega)
  have u4 : IntKind.i64.wrap ((x - x0) * (y1 - y)) = (x - x0) * (y1 - y) := IntWalk.i64_in _ (by omega)
  have u5 : IntKind.i64.wrap ((x1 - x) * (y - y0)) = (x1 - x) * (y - y0) := IntWalk.i64_in _ (by omega)
  have u6 : IntKind.i64.wrap ((x - x0) * (y - y0)) = (x - x0) * (y - y0) := IntWalk.i64_in _ (by omega)
  have u7 : IntKind.i64.wrap ((x1 - x) * (y1 - y) * z00) = (x1 - x) * (y1 - y) * z00 := IntWalk.i64_in _ (by omega)
  have u8 : IntKind.i64.wrap ((x - x0) * (y1 - y) * z10) = (x - x0) * (y1 - y) * z10 := IntWalk.i64_in _ (by omega)
  have u9 : IntKind.i64.wrap ((x1 - x) * (y - y0) * z01) = (x1 - x) * (y - y0) * z01 := IntWalk.i64_in _ (by omega)
  have u10 : IntKind.i64.wrap ((x - x0) * (y - y0) * z11) = (x - x0) * (y - y0) * z11 := IntWalk.i64_in _ (by omega)
  have u11 : IntKind.i64.wrap ((x1 - x) * (y1 - y) * z00 + (x - x0) * (y1 - y) * z10) = (x1 - x) * (y1 - y) * z00 + (x - x0) * (y1 - y) * z10 := IntWalk.i64_in _ (by omega)
  have u12 : IntKind.i64.wrap ((x1 - x) * (y1 - y) * z00 + (x - x0) * (y1 - y) * z10 + (x1 - x) * (y - y0) * z01) = (x1 - x) * (y1 - y) * z00 + (x - x0) * (y1 - y) * z10 + (x1 - x) * (y - y0) * z01 := IntWalk.i64_in _ (by omega)
  have u13 : IntKind.i64.wrap ((x1 - x) * (y1 - y) * z00 + (x - x0) * (y1 - y) * z10 + (x1 - x) * (y - y0) * z01 + (x - x0) * (y - y0) * z11) = (x1 - x) * (y1 - y) * z00 + (x - x0) * (y1 - y) * z10 + (x1 - x) * (y - y0) * z01 + (x - x0) * (y - y0) * z11 := IntWalk.i64_in _ (by omega)
  have u14 : IntKind.i64.wrap (x1 - x + (x - x0)) = x1 - x + (x - x0) := IntWalk.i64_in _ (by omega)
  have u15 : IntKind.i64.wrap (y1 - y + (y - y0)) = y1 - y + (y - y0) := IntWalk.i64_in _ (by omega)
  have u16 : IntKind.i64.wrap ((x1 - x + (x - x0)) * (y1 - y + (y - y0))) = (x1 - x + (x - x0)) * (y1 - y + (y - y0)) := IntWalk.i64_in _ (by omega)
  refine wp_region_tail 59 (by kernel_rfl) (by kernel_rfl) ?_
  simp only [List.take_succ_cons, List.take_zero, List.drop_succ_cons, List.drop_zero]
  repeat still_step
  refine wpStill_nil ?_
  clear t1 t2 t3 t4 t5 t6 t7 t8 u1 u2 u3 u4 u5 u6 u7 u8 u9 u10 u11 u12 u13 u14 u15 u16
  go_wp2_with fail
  refine bodyPost_ret (v := .agg #[.int .i64 (numF (x1 - x) (x - x0) (y1 - y) (y - y0) z00 z10 z01 z11), .int .i64 (denF (x1 - x) (x - x0) (y1 - y) (y - y0))]) (by simp [results, Try.results65, go_sem, numF, denF]) rfl ⟨?_, ?_⟩
  · rw [HN.out, HD.out]
  · repeat (first | exact HBd.out _ _ _ | refine Below.setCell ?_ (by simp) _ | refine Below.drew ?_)
end Go.Proofs.Ythohcimmoobaoaa
/- The contract of spans.stops: the ends of a span and the knots within it, as a new slice; old memory stays. -/
namespace Go.Proofs.Ythohcimmoobaoaa
open Go.RowKit

def IV (l : List Int) : List Value := l.map (Value.int .i64)
theorem IV_snoc (l : List Int) (x : Int) : IV (l ++ [x]) = IV l ++ [.int .i64 x] := by simp [IV]
theorem ints_of_own {w : World} {base : Nat} {e : TypeId} {v : Value} {l : List Int} (h : w.ownsRow base e 1 v l.length (IV l)) :
    ∃ A c, v = .slice A l.length c ∧ Ints w A l ∧ l.length ≤ c ∧ ∀ ad, A = some ad → base ≤ ad.block := by
  obtain ⟨h1, ⟨rfl, h0⟩ | ⟨g, cap, cur, rfl, hb, hg, hc, hm, hs, ht⟩⟩ := h
  · exact ⟨none, 0, by rw [h0], fun hl => by omega, by omega, fun ad h => by cases h⟩
  · refine ⟨some ⟨g, 0, none⟩, cap, rfl, fun _ => ⟨g, 0, rfl, ?_, fun k hk => ?_⟩, hc, fun ad h => by cases h; exact hb⟩
    · rcases Nat.lt_or_ge g w.heap.size with hlt | hge
      · exact hlt
      · rw [Array.getElem?_eq_none hge] at hg; cases hg
    · rw [cell_of_row w g (0 + k) cur e (0, 0) hg]
      have h2 : (cur.toList.take (l.length * 1))[k]? = (IV l)[k]? := by rw [ht]
      unfold IV at h2
      rw [List.getElem?_take, if_pos (by omega), List.getElem?_map] at h2
      rw [Nat.zero_add, ← Array.getElem?_toList, h2]
      simp [hk]
theorem Try.info_int : (Try.prog.info? 3).map (fun i => (i.zero, i.size, i.bytes)) = some (some (.int .i64 0), 1, 8) := by kernel_rfl
def midL (l : List Int) (lo hi : Int) : List Int := l.filter (fun x => decide (lo < x) && decide (x < hi))
def stopsL (l : List Int) (lo hi : Int) : List Int := lo :: midL l lo hi ++ (if lo < hi then [hi] else [])
theorem midL_take (l : List Int) (lo hi : Int) (k : Nat) (h : k < l.length) : midL (l.take (k + 1)) lo hi = midL (l.take k) lo hi ++ (if lo < l[k]?.getD 0 ∧ l[k]?.getD 0 < hi then [l[k]?.getD 0] else []) := by
  unfold midL
  rw [List.take_succ_eq_append_getElem h, List.filter_append]
  have e : l[k]?.getD 0 = l[k] := by simp [h]
  rw [e]
  by_cases h1 : lo < l[k] ∧ l[k] < hi <;> simp [h1]
theorem midL_len (l : List Int) (lo hi : Int) : (midL l lo hi).length ≤ l.length := List.length_filter_le _ _
def accL (l : List Int) (lo hi : Int) (k : Nat) : List Int := lo :: midL (l.take k) lo hi
theorem accL_len (l : List Int) (lo hi : Int) (k : Nat) : (accL l lo hi k).length ≤ l.length + 1 := by
  have h1 := midL_len (l.take k) lo hi
  have h2 : (l.take k).length ≤ l.length := by simp; omega
  simp [accL]; omega
theorem accL_yes {l : List Int} {lo hi x : Int} {k : Nat} (h : k < l.length) (hx : l[k]?.getD 0 = x) (h1 : lo < x) (h2 : x < hi) : accL l lo hi (k + 1) = accL l lo hi k ++ [x] := by
  unfold accL; rw [midL_take l lo hi k h, hx, if_pos ⟨h1, h2⟩]; rfl
theorem accL_no {l : List Int} {lo hi x : Int} {k : Nat} (h : k < l.length) (hx : l[k]?.getD 0 = x) (hn : ¬ (lo < x ∧ x < hi)) : accL l lo hi (k + 1) = accL l lo hi k := by
  unfold accL; rw [midL_take l lo hi k h, hx, if_neg hn]; simp
theorem accL_end {l : List Int} {lo hi : Int} : accL l lo hi l.length = lo :: midL l lo hi := by simp [accL]
def OutInts (l : List Int) (w : World) (e : Ending) (w' : World) : Prop := ∃ A c, e = .returned (.slice A l.length c) ∧ Ints w' A l ∧ l.length ≤ c ∧ (∀ ad, A = some ad → w.heap.size ≤ ad.block) ∧ Below w.heap.size w w'
theorem outInts_mk {w w' : World} {base : Nat} {e : TypeId} {v : Value} {l : List Int} (h : w'.ownsRow base e 1 v l.length (IV l)) (hbs : w.heap.size ≤ base) (hb : Below w.heap.size w w') : OutInts l w (.returned v) w' := by
  obtain ⟨A, c, rfl, hi, hc, hf⟩ := ints_of_own h
  exact ⟨A, c, rfl, hi, hc, fun ad h => Nat.le_trans hbs (hf ad h), hb⟩
theorem ownBlock_ge {w : World} {base : Nat} {e : TypeId} {s : Nat} {v : Value} {n : Nat} {xs : List Value} (h : w.ownsRow base e s v n xs) : ∀ k, v.ownBlock = some k → base ≤ k := by
  intro k hk
  obtain ⟨h1, ⟨rfl, h0⟩ | ⟨g, cap, cur, rfl, hb, hg, hc, hm, hs, ht⟩⟩ := h
  · simp [Value.ownBlock] at hk
  · simp [Value.ownBlock] at hk; omega
set_option maxHeartbeats 1000000 in
theorem stops_any (A : Option Addr) (l : List Int) (c : Nat) (lo hi : Int) (w : World) (hl : l.length ≤ 1000000) (hA : Ints w A l) :
    Calls Try.prog 117 #[.slice A l.length c, .agg #[.int .i64 lo, .int .i64 hi]] w (OutInts (stopsL l lo hi) w) := by
  obtain ⟨i0, hi0, hz0, hz1, hz2⟩ := info_parts Try.info_int
  have HA := Lib.hid hA
  clear hA
  have hsp : ∀ k, (accL l lo hi k).length ≤ l.length + 1 := accL_len l lo hi
  have HSP := Lib.hid hsp
  have HW1 := Lib.hid (show Below w.heap.size w (w.alloc (.cells #[.int .i64 lo, .int .i64 hi] 27)) from (Below.refl _ _).alloc (Nat.le_refl _) _)
  clear hsp
  go_enter Try.func117, Try.ntmps117
  go_wp2_with fail
  go_loopw [5, 7, 13] (fun v _ i wr => ∃ k : Nat, k ≤ l.length ∧ i = .int .i64 k ∧ wr.ownsRow (w.heap.size + 1) 3 1 v (accL l lo hi k).length (IV (accL l lo hi k)) ∧
      Below (w.heap.size + 1) (w.alloc (.cells #[.int .i64 lo, .int .i64 hi] 27)) wr) (fun _ _ i _ => l.length - (intOf i).toNat)
  case atStart =>
    refine ⟨0, by omega, rfl, ?_, (Below.refl _ _).alloc (by simp) _⟩
    have := World.ownsRow_lit (base := w.heap.size + 1) (e := 3) (size := 1) (w.alloc (.cells #[.int .i64 lo, .int .i64 hi] 27)) #[.int .i64 lo] 1 (by simp) (by simp [maxLen]) (by simp)
    simpa [midL, accL, IV] using this
  case round =>
    obtain ⟨k, hk, rfl, hown, hb⟩ := hrel
    have hlo : wr.cell? ⟨w.heap.size, 0, none⟩ = some (.int .i64 lo) := (hb.cell (by simp)).trans (by simp)
    have hhi : wr.cell? ⟨w.heap.size, 1, none⟩ = some (.int .i64 hi) := (hb.cell (by simp)).trans (by simp)
    have hszr := hb.size
    simp only [World.size_alloc] at hszr
    have HOWN := Lib.hid hown
    have HBR := Lib.hid hb
    clear hown hb
    by_cases hlt : k < l.length
    · obtain ⟨b, off, rfl, hbl, hc⟩ := HA.out (by omega)
      have hc1 : wr.cell? ⟨b, off + k, none⟩ = some (.int .i64 (l[k]?.getD 0)) := (HBR.out.cell (p := ⟨b, off + k, none⟩) (by simp; omega)).trans ((World.cell?_alloc_lt _ _ _ hbl).trans (hc k hlt))
      clear hc
      generalize hx : l[k]?.getD 0 = x at hc1
      have HX := Lib.hid hx
      clear hx
      by_cases h1 : lo < x
      · by_cases h2 : x < hi
        · go_wp2_with (at_builtin; refine wpList_append_own _ rfl _ _ 25 rfl (w.heap.size + 1) 3 i0 (.int .i64 0) 1 8 Try.underlying25 hi0 hz0 hz1 hz2 rfl (by decide) _ _ _ rfl (HOWN.out.alloc _) ⟨wr.heap.size, 0, none⟩ 1 1 [.int .i64 x] rfl rfl ?c1 ?c2 ?c3 ?c4 ?c5 ?_)
          case c1 => exact cell_one_new _ _ _
          case c2 => simp [Value.oneCell']
          case c3 => have := HSP.out k; simp only [maxLen]; omega
          case c4 => have := HSP.out k; omega
          case c5 => simp; omega
          intro v' w1 hown1 hg1 _
          have HO1 := Lib.hid hown1
          have HB1 := Lib.hid ((HBR.out.alloc (by omega) _).grown hg1 (by simp; omega) (ownBlock_ge HOWN.out))
          clear hown1 hg1
          go_wp2_with fail
          go_roundw
          case rel => exact ⟨k + 1, by omega, by go_num, by rw [accL_yes hlt HX.out h1 h2, List.length_append, IV_snoc]; exact HO1.out, HB1.out⟩
          case measure => simp [intOf]; omega
        · go_wp2_with fail
          go_roundw
          case rel => exact ⟨k + 1, by omega, by go_num, by rw [accL_no hlt HX.out (by omega)]; exact HOWN.out, HBR.out⟩
          case measure => simp [intOf]; omega
      · go_wp2_with fail
        go_roundw
        case rel => exact ⟨k + 1, by omega, by go_num, by rw [accL_no hlt HX.out (by omega)]; exact HOWN.out, HBR.out⟩
        case measure => simp [intOf]; omega
    · obtain rfl : k = l.length := by omega
      by_cases hlh : lo < hi
      · go_wp2_with (at_builtin; refine wpList_append_own _ rfl _ _ 25 rfl (w.heap.size + 1) 3 i0 (.int .i64 0) 1 8 Try.underlying25 hi0 hz0 hz1 hz2 rfl (by decide) _ _ _ rfl (HOWN.out.alloc _) ⟨wr.heap.size, 0, none⟩ 1 1 [.int .i64 hi] rfl rfl ?c1 ?c2 ?c3 ?c4 ?c5 ?_)
        case c1 => exact cell_one_new _ _ _
        case c2 => simp [Value.oneCell']
        case c3 => have := HSP.out l.length; simp only [maxLen]; omega
        case c4 => have := HSP.out l.length; omega
        case c5 => simp; omega
        intro v' w1 hown1 hg1 _
        have HO1 := Lib.hid hown1
        have HB1 := Lib.hid ((HBR.out.alloc (by omega) _).grown hg1 (by simp; omega) (ownBlock_ge HOWN.out))
        clear hown1 hg1
        go_wp2_with fail
        go_ret
        refine outInts_mk (base := w.heap.size + 1) (e := 3) ?_ (by omega) (HW1.out.trans (HB1.out.mono (by omega)))
        have e : stopsL l lo hi = accL l lo hi l.length ++ [hi] := by rw [accL_end, stopsL, if_pos hlh]
        rw [e, List.length_append, IV_snoc]; exact HO1.out
      · go_wp2_with fail
        go_ret
        refine outInts_mk (base := w.heap.size + 1) (e := 3) ?_ (by omega) (HW1.out.trans (HBR.out.mono (by omega)))
        have e : stopsL l lo hi = accL l lo hi l.length := by rw [accL_end, stopsL, if_neg (by omega)]; simp
        rw [e]; exact HOWN.out
end Go.Proofs.Ythohcimmoobaoaa
/- The contracts of cmp.Or at ints and of spans' comparison of two fractions; old memory stays. -/
namespace Go.Proofs.Ythohcimmoobaoaa
open Go.RowKit

def orL : List Int → Int
  | [] => 0
  | x :: xs => if x = 0 then orL xs else x
theorem orL_drop (l : List Int) (k : Nat) (h : k < l.length) : orL (l.drop k) = if l[k]?.getD 0 = 0 then orL (l.drop (k + 1)) else l[k]?.getD 0 := by
  rw [List.drop_eq_getElem_cons h]
  simp [orL, h]
set_option maxHeartbeats 400000 in
theorem cmpOr_any (A : Option Addr) (l : List Int) (c : Nat) (w : World) (hl : l.length ≤ 1000000) (hA : Ints w A l) :
    Calls Try.prog 118 #[.slice A l.length c] w fun e w' => e = .returned (.int .i64 (orL l)) ∧ w' = w := by
  have HA := Lib.hid hA
  clear hA
  go_enter Try.func118, Try.ntmps118
  go_wp2
  go_loop [5, 8] (fun _ i => ∃ k : Nat, k ≤ l.length ∧ i = .int .i64 k ∧ orL (l.drop k) = orL l) (fun _ i => l.length - (intOf i).toNat)
  case atStart => exact ⟨0, by omega, rfl, by simp⟩
  case round =>
    obtain ⟨k, hk, rfl, hp⟩ := hrel
    have HP := Lib.hid hp
    clear hp
    by_cases hlt : k < l.length
    · obtain ⟨b, off, rfl, hbl, hc⟩ := HA.out (by omega)
      have h1 := hc k hlt
      have hd := Lib.hid (orL_drop l k hlt)
      clear hc
      generalize hx : l[k]?.getD 0 = x at h1
      have HX := Lib.hid hx
      clear hx
      by_cases hx0 : (x != 0) = true
      · go_wp2
        go_ret
        refine ⟨?_, rfl⟩
        rw [← HP.out, hd.out, HX.out, if_neg (by simpa using hx0)]; rfl
      · have hx1 : (x != 0) = false := by simpa using hx0
        clear hx0
        go_wp2
        go_round
        case rel => exact ⟨k + 1, by omega, by go_num, by rw [← HP.out, hd.out, HX.out, if_pos (by simpa using hx1)]⟩
        case measure => simp [intOf]; omega
    · go_wp2
      go_ret
      refine ⟨?_, rfl⟩
      rw [← HP.out, List.drop_eq_nil_of_le (by omega)]; rfl
theorem ints_new2 (w : World) (x y : Int) (t : TypeId) (B : Nat) (hB : B = w.heap.size) : Ints (w.alloc (.cells #[.int .i64 x, .int .i64 y] t)) (some ⟨B, 0, none⟩) [x, y] := fun _ => by
  subst hB
  refine ⟨_, 0, rfl, by simp, fun k hk => ?_⟩
  match k, hk with
  | 0, _ => simp
  | 1, _ => simp
def cmpV (n d m f : Int) : Int := orL [n / d - m / f, (n - n / d * d) * f - (m - m / f * f) * d]
theorem rem_bd (n d : Int) (hd : 1 ≤ d) : 0 ≤ n - n / d * d ∧ n - n / d * d < d := by
  have e2 := Int.mul_ediv_add_emod n d
  have e3 := Int.emod_nonneg n (show d ≠ 0 by omega)
  have e4 := Int.emod_lt_of_pos n (show 0 < d by omega)
  rw [Int.mul_comm] at e2
  omega
set_option maxHeartbeats 1000000 in
theorem compare_any (n d m f : Int) (w : World) (hd : 1 ≤ d) (hd' : d ≤ 100000000) (hf : 1 ≤ f) (hf' : f ≤ 100000000) (hn : -1000000000000000 ≤ n) (hn' : n ≤ 1000000000000000) (hm : -1000000000000000 ≤ m) (hm' : m ≤ 1000000000000000) :
    Calls Try.prog 105 #[.agg #[.int .i64 n, .int .i64 d], .agg #[.int .i64 m, .int .i64 f]] w fun e w' => e = .returned (.int .i64 (cmpV n d m f)) ∧ Below w.heap.size w w' := by
  have hq1 : ∀ W, Calls Try.prog 66 #[.int .i64 n, .int .i64 d] W fun e w' => e = .returned (.int .i64 (n / d)) ∧ w' = W := fun W => floor_any n d W hd (by omega) (by omega) (by omega)
  have hq2 : ∀ W, Calls Try.prog 66 #[.int .i64 m, .int .i64 f] W fun e w' => e = .returned (.int .i64 (m / f)) ∧ w' = W := fun W => floor_any m f W hf (by omega) (by omega) (by omega)
  have b1 := ediv_bd n d 1000000000000000 (by omega) hd hn hn'
  have b2 := ediv_bd m f 1000000000000000 (by omega) hf hm hm'
  have r1 := rem_bd n d hd
  have r2 := rem_bd m f hf
  have hC : cmpV n d m f = orL [n / d - m / f, (n - n / d * d) * f - (m - m / f * f) * d] := rfl
  generalize n / d = a at *
  generalize m / f = b at *
  have p1 := mul_bd (a := n - a * d) (b := f) (A := 100000000) (B := 100000000) (by omega) (by omega) (by omega) (by omega)
  have p2 := mul_bd (a := m - b * f) (b := d) (A := 100000000) (B := 100000000) (by omega) (by omega) (by omega) (by omega)
  have HQ1 := Lib.hid hq1
  have HQ2 := Lib.hid hq2
  have HC := Lib.hid hC
  clear hq1 hq2 hC
  go_enter Try.func105, Try.ntmps105
  go_wp2_with fail
  go_quiet ((go_at_call 66; first | (with_reducible exact Calls.quiet_of_same (HQ1.out _)) | (with_reducible exact Calls.quiet_of_same (HQ2.out _))))
  go_wp2_with fail
  refine (cmpOr_any _ [a - b, (n - a * d) * f - (m - b * f) * d] 2 _ (by simp) ?_).mono ?_
  · exact ints_new2 _ _ _ _ _ (by simp)
  · rintro e w' ⟨rfl, rfl⟩
    go_wp2_with fail
    go_ret
    refine ⟨by rw [HC.out]; rfl, ?_⟩
    repeat (first | exact Below.refl _ _ | refine Below.alloc ?_ (by simp <;> omega) _ | refine Below.drewN' ?_ _)
end Go.Proofs.Ythohcimmoobaoaa
