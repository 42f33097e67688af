/- Texts of the law TopHeard, part 9. No conditions. -/
import Derived.Test.YtgibbaadjbohdaaPTopHeard08
import Derived.Test.YtgibbaadjbohdaaRows
/- The functions' bodies, translated. Written by a program; no conditions. -/
namespace Go.Proofs.Ytgibbaadjbohdaa
open Go.RowKit Lift

/-- ref12_Subframe -/
def cref12_Subframe : ACode :=
  (.seq
   (.region false [⟨some 2, .box (.tmp 0), none, []⟩,
     ⟨some 4, .mv (.const (.int .i64 0)), none, []⟩] [])
  (.seq
   (.seq
    (.region false [⟨some 7, .mv (.tmp 1), none, []⟩,
      ⟨some 8, .len_ (.tmp 7), none, []⟩,
      ⟨some 9, .fad 0 (.tmp 2), none, []⟩,
      ⟨some 10, .load1 (.tmp 9), none, []⟩,
      ⟨some 11, .bin .neq (.tmp 8) (.tmp 10), none, []⟩] [7, 8, 9, 10])
   (.cond (.tmp 11)
     (.seq
      (.region false [⟨some 4, .mv (.const (.int .i64 (-1))), none, []⟩] [])
     .ret)
     .skip))
  (.seq
   (.seq
    (.region false [⟨some 5, .mv (.const (.int .i64 0)), none, []⟩] [])
   (.block 0
     (.loop
       (.seq
        (.seq
         (.region false [⟨some 12, .mv (.tmp 5), none, []⟩,
           ⟨some 13, .mv (.tmp 1), none, []⟩,
           ⟨some 14, .len_ (.tmp 13), none, []⟩,
           ⟨some 15, .bin .lss (.tmp 12) (.tmp 14), none, []⟩] [12, 13, 14])
        (.cond (.tmp 15)
          .skip
          (.exit 0)))
       (.seq
        (.block 1
          (.seq
           (.region false [⟨some 18, .mv (.tmp 1), none, []⟩,
             ⟨some 19, .mv (.tmp 5), none, []⟩,
             ⟨some 20, .iadS 1 (.tmp 18) (.tmp 19), none, []⟩,
             ⟨some 21, .load1 (.tmp 20), none, []⟩,
             ⟨some 22, .call (.func 91) [(.tmp 21), (.const (.int .i64 0)), (.const (.int .i64 4095))], none, []⟩,
             ⟨some 23, .un .not (.tmp 22), none, []⟩] [18, 19, 20, 21, 22])
          (.cond (.tmp 23)
            (.seq
             (.region false [⟨some 4, .mv (.const (.int .i64 (-1))), none, []⟩] [])
            .ret)
            .skip)))
       (.region false [⟨some 16, .mv (.tmp 5), none, []⟩,
         ⟨some 17, .bin .add (.tmp 16) (.const (.int .i64 1)), none, []⟩,
         ⟨some 5, .mv (.tmp 17), none, []⟩] [16, 17]))))))
  (.seq
   (.seq
    (.region false [⟨some 6, .mv (.const (.int .i64 0)), none, []⟩] [])
   (.block 2
     (.loop
       (.seq
        (.seq
         (.region false [⟨some 24, .mv (.tmp 6), none, []⟩,
           ⟨some 25, .bin .lss (.tmp 24) (.const (.int .i64 4)), none, []⟩] [24])
        (.cond (.tmp 25)
          .skip
          (.exit 2)))
       (.seq
        (.block 3
          (.seq
           (.region true [⟨some 28, .mv (.tmp 1), none, []⟩,
             ⟨some 29, .iadS 1 (.tmp 28) (.const (.int .i64 0)), none, [0]⟩,
             ⟨some 30, .load1 (.tmp 29), none, [1, 0]⟩,
             ⟨some 31, .mv (.tmp 6), none, []⟩,
             ⟨some 32, .fad 1 (.tmp 2), none, []⟩,
             ⟨some 33, .iadA 4 1 (.tmp 32) (.tmp 31), none, [4, 3]⟩,
             ⟨some 34, .load1 (.tmp 33), none, [5, 4, 3]⟩,
             ⟨some 35, .bin .eql (.tmp 30) (.tmp 34), none, [2, 1, 0, 6, 5, 4, 3]⟩] [28, 29, 30, 31, 32, 33, 34])
          (.cond (.tmp 35)
            (.seq
             (.region false [⟨some 36, .mv (.tmp 6), none, []⟩,
               ⟨some 4, .mv (.tmp 36), none, []⟩] [36])
            .ret)
            .skip)))
       (.region false [⟨some 26, .mv (.tmp 6), none, []⟩,
         ⟨some 27, .bin .add (.tmp 26) (.const (.int .i64 1)), none, []⟩,
         ⟨some 6, .mv (.tmp 27), none, []⟩] [26, 27]))))))
  (.seq
   (.region false [⟨some 4, .mv (.const (.int .i64 (-1))), none, []⟩] [])
  .ret)))))
set_option maxRecDepth 100000 in
theorem kref12_Subframe : IsCode Try.prog 132 37 cref12_Subframe [.tmp 4] :=
  ⟨Try.f132, _, [35, 25, 23, 15, 11, 0, 1, 2, 5, 6, 4], Try.func132, rfl, by decide, rfl, by kernel_rfl, by kernel_rfl⟩
/-- ref12_CheckFrames -/
def cref12_CheckFrames : ACode :=
  (.seq
   (.region false [⟨some 2, .box (.tmp 0), none, []⟩,
     ⟨some 4, .mv (.const (.int .i64 0)), none, []⟩] [])
  (.seq
   (.region false [⟨some 6, .loadN 6 (.tmp 2), none, []⟩,
     ⟨some 7, .call (.func 53) [(.tmp 6)], none, []⟩,
     ⟨some 5, .mv (.tmp 7), none, []⟩] [6, 7])
  (.seq
   (.seq
    (.region false [⟨some 8, .mv (.tmp 5), none, []⟩,
      ⟨some 9, .bin .neq (.tmp 8) (.const (.int .i64 0)), none, []⟩] [8])
   (.cond (.tmp 9)
     (.seq
      (.region false [⟨some 10, .mv (.tmp 5), none, []⟩,
        ⟨some 4, .mv (.tmp 10), none, []⟩] [10])
     .ret)
     .skip))
  (.seq
   (.seq
    (.region false [⟨some 11, .mv (.tmp 1), none, []⟩,
      ⟨some 12, .len_ (.tmp 11), none, []⟩,
      ⟨some 13, .bin .gtr (.tmp 12) (.const (.int .i64 200)), none, []⟩] [11, 12])
   (.cond (.tmp 13)
     (.seq
      (.region false [⟨some 4, .mv (.const (.int .i64 2)), none, []⟩] [])
     .ret)
     .skip))
  (.seq
   (.region false [⟨some 4, .mv (.const (.int .i64 0)), none, []⟩] [])
  .ret)))))
set_option maxRecDepth 100000 in
theorem kref12_CheckFrames : IsCode Try.prog 23 14 cref12_CheckFrames [.tmp 4] :=
  ⟨Try.f23, _, [13, 9, 0, 2, 5, 1, 4], Try.func23, rfl, by decide, rfl, by kernel_rfl, by kernel_rfl⟩
/-- ref12_raw -/
def cref12_raw : ACode :=
  (.seq
   (.region false [⟨some 2, .box (.tmp 0), none, []⟩,
     ⟨some 4, .mv (.const (.int .i64 0)), none, []⟩] [])
  (.seq
   (.region true [⟨some 6, .mv (.tmp 1), none, []⟩,
     ⟨some 7, .fad 0 (.tmp 2), none, []⟩,
     ⟨some 8, .load1 (.tmp 7), none, [1]⟩,
     ⟨some 9, .iadS 1 (.tmp 6) (.tmp 8), none, [0, 2, 1]⟩,
     ⟨some 10, .load1 (.tmp 9), none, [3, 0, 2, 1]⟩,
     ⟨some 11, .fad 1 (.tmp 2), none, []⟩,
     ⟨some 12, .load1 (.tmp 11), none, [5]⟩,
     ⟨some 13, .conv .u64 (.tmp 12), none, [6, 5]⟩,
     ⟨some 14, .bin .shr (.tmp 10) (.tmp 13), none, [4, 3, 0, 2, 1, 7, 6, 5]⟩,
     ⟨some 15, .fad 2 (.tmp 2), none, []⟩,
     ⟨some 16, .load1 (.tmp 15), none, [9]⟩,
     ⟨some 17, .conv .u64 (.tmp 16), none, [10, 9]⟩,
     ⟨some 18, .bin .shl (.const (.int .i64 1)) (.tmp 17), none, [11, 10, 9]⟩,
     ⟨some 19, .bin .sub (.tmp 18) (.const (.int .i64 1)), none, [12, 11, 10, 9]⟩,
     ⟨some 20, .bin .and (.tmp 14) (.tmp 19), none, [8, 4, 3, 0, 2, 1, 7, 6, 5, 13, 12, 11, 10, 9]⟩,
     ⟨some 5, .mv (.tmp 20), none, [14, 8, 4, 3, 0, 2, 1, 7, 6, 5, 13, 12, 11, 10, 9]⟩] [6, 7, 8, 9, 10, 11, 12, 13, 14, 15, 16, 17, 18, 19, 20])
  (.seq
   (.seq
    (.region false [⟨some 21, .fad 3 (.tmp 2), none, []⟩,
      ⟨some 22, .load1 (.tmp 21), none, []⟩,
      ⟨some 23, .mv (.tmp 22), none, []⟩,
      ⟨some 24, .mv (.tmp 5), (some (some 23, true)), []⟩,
      ⟨some 25, .fad 2 (.tmp 2), (some (some 23, true)), []⟩,
      ⟨some 26, .load1 (.tmp 25), (some (some 23, true)), []⟩,
      ⟨some 27, .bin .sub (.tmp 26) (.const (.int .i64 1)), (some (some 23, true)), []⟩,
      ⟨some 28, .conv .u64 (.tmp 27), (some (some 23, true)), []⟩,
      ⟨some 29, .bin .shl (.const (.int .i64 1)) (.tmp 28), (some (some 23, true)), []⟩,
      ⟨some 30, .bin .geq (.tmp 24) (.tmp 29), (some (some 23, true)), []⟩,
      ⟨some 31, .pick (.tmp 23) (.tmp 30) (.const (.bool false)), none, []⟩] [21, 22, 23, 24, 25, 26, 27, 28, 29, 30])
   (.cond (.tmp 31)
     (.region false [⟨some 32, .mv (.tmp 5), none, []⟩,
       ⟨some 33, .fad 2 (.tmp 2), none, []⟩,
       ⟨some 34, .load1 (.tmp 33), none, []⟩,
       ⟨some 35, .conv .u64 (.tmp 34), none, []⟩,
       ⟨some 36, .bin .shl (.const (.int .i64 1)) (.tmp 35), none, []⟩,
       ⟨some 37, .bin .sub (.tmp 32) (.tmp 36), none, []⟩,
       ⟨some 5, .mv (.tmp 37), none, []⟩] [32, 33, 34, 35, 36, 37])
     .skip))
  (.seq
   (.region false [⟨some 38, .mv (.tmp 5), none, []⟩,
     ⟨some 4, .mv (.tmp 38), none, []⟩] [38])
  .ret))))
set_option maxRecDepth 100000 in
theorem kref12_raw : IsCode Try.prog 133 39 cref12_raw [.tmp 4] :=
  ⟨Try.f133, _, [31, 0, 1, 2, 5, 4], Try.func133, rfl, by decide, rfl, by kernel_rfl, by kernel_rfl⟩
/-- ref12_sample -/
def cref12_sample : ACode :=
  (.seq
   (.region false [⟨some 3, .box (.tmp 0), none, []⟩,
     ⟨some 4, .box (.tmp 1), none, []⟩,
     ⟨some 6, .mv (.const (.int .i64 0)), none, []⟩,
     ⟨some 7, .mv (.const (.bool false)), none, []⟩] [])
  (.seq
   (.region false [⟨some 9, .loadN 6 (.tmp 3), none, []⟩,
     ⟨some 10, .mv (.tmp 2), none, []⟩,
     ⟨some 11, .call (.func 132) [(.tmp 9), (.tmp 10)], none, []⟩,
     ⟨some 8, .mv (.tmp 11), none, []⟩] [9, 10, 11])
  (.seq
   (.seq
    (.region true [⟨some 12, .mv (.tmp 8), none, []⟩,
      ⟨some 13, .bin .lss (.tmp 12) (.const (.int .i64 0)), none, [0]⟩,
      ⟨some 14, .mv (.tmp 13), none, [1, 0]⟩,
      ⟨some 15, .mv (.tmp 8), (some (some 14, false)), [2, 1, 0]⟩,
      ⟨some 16, .fad 7 (.tmp 4), (some (some 14, false)), [2, 1, 0]⟩,
      ⟨some 17, .load1 (.tmp 16), (some (some 14, false)), [4, 2, 1, 0]⟩,
      ⟨some 18, .bin .rem (.tmp 15) (.tmp 17), (some (some 14, false)), [3, 2, 1, 0, 5, 4]⟩,
      ⟨some 19, .fad 8 (.tmp 4), (some (some 14, false)), [2, 1, 0]⟩,
      ⟨some 20, .load1 (.tmp 19), (some (some 14, false)), [7, 2, 1, 0]⟩,
      ⟨some 21, .bin .neq (.tmp 18) (.tmp 20), (some (some 14, false)), [6, 3, 2, 1, 0, 5, 4, 8, 7]⟩,
      ⟨some 22, .pick (.tmp 14) (.const (.bool true)) (.tmp 21), none, [2, 1, 0, 9, 6, 3, 5, 4, 8, 7]⟩] [12, 13, 14, 15, 16, 17, 18, 19, 20, 21])
   (.cond (.tmp 22)
     (.seq
      (.region false [⟨some 6, .mv (.const (.int .i64 0)), none, []⟩,
        ⟨some 7, .mv (.const (.bool false)), none, []⟩] [])
     .ret)
     .skip))
  (.seq
   (.region true [⟨some 23, .fad 6 (.tmp 4), none, []⟩,
     ⟨some 24, .load1 (.tmp 23), none, [0]⟩,
     ⟨some 25, .fad 5 (.tmp 4), none, []⟩,
     ⟨some 26, .load1 (.tmp 25), none, [2]⟩,
     ⟨some 27, .bin .mul (.tmp 24) (.tmp 26), none, [1, 0, 3, 2]⟩,
     ⟨some 28, .loadN 9 (.tmp 4), none, []⟩,
     ⟨some 29, .mv (.tmp 2), none, []⟩,
     ⟨some 30, .call (.func 133) [(.tmp 28), (.tmp 29)], none, [5, 6]⟩,
     ⟨some 31, .fad 4 (.tmp 4), none, []⟩,
     ⟨some 32, .load1 (.tmp 31), none, [8]⟩,
     ⟨some 33, .bin .mul (.tmp 30) (.tmp 32), none, [7, 5, 6, 9, 8]⟩,
     ⟨some 34, .bin .add (.tmp 27) (.tmp 33), none, [4, 1, 0, 3, 2, 10, 7, 5, 6, 9, 8]⟩,
     ⟨some 6, .mv (.tmp 34), none, [11, 4, 1, 0, 3, 2, 10, 7, 5, 6, 9, 8]⟩,
     ⟨some 7, .mv (.const (.bool true)), none, [12, 11, 4, 1, 0, 3, 2, 10, 7, 5, 6, 9, 8]⟩] [23, 24, 25, 26, 27, 28, 29, 30, 31, 32, 33, 34])
  .ret))))
set_option maxRecDepth 100000 in
theorem kref12_sample : IsCode Try.prog 108 35 cref12_sample [.tmp 6, .tmp 7] :=
  ⟨Try.f108, _, [22, 0, 1, 3, 2, 8, 4, 6, 7], Try.func108, rfl, by decide, rfl, by kernel_rfl, by kernel_rfl⟩
/-- ref12_Samples -/
def cref12_Samples : ACode :=
  (.seq
   (.region false [⟨some 3, .box (.tmp 0), none, []⟩,
     ⟨some 6, .mv (.const (.slice none 0 0)), none, []⟩] [])
  (.seq
   (.region false [⟨some 7, .mv (.const (.slice none 0 0)), none, []⟩] [])
  (.seq
   (.seq
    (.region false [⟨some 8, .mv (.const (.int .i64 0)), none, []⟩] [])
   (.block 0
     (.loop
       (.seq
        (.seq
         (.region false [⟨some 11, .mv (.tmp 8), none, []⟩,
           ⟨some 12, .mv (.tmp 1), none, []⟩,
           ⟨some 13, .len_ (.tmp 12), none, []⟩,
           ⟨some 14, .bin .lss (.tmp 11) (.tmp 13), none, []⟩] [11, 12, 13])
        (.cond (.tmp 14)
          .skip
          (.exit 0)))
       (.seq
        (.block 1
          (.seq
           (.region true [⟨some 18, .loadN 6 (.tmp 3), none, []⟩,
             ⟨some 19, .fad 5 (.tmp 3), none, []⟩,
             ⟨some 20, .load1 (.tmp 19), none, [1]⟩,
             ⟨some 21, .mv (.tmp 2), none, []⟩,
             ⟨some 22, .iadS 9 (.tmp 20) (.tmp 21), none, [2, 1, 3]⟩,
             ⟨some 23, .loadN 9 (.tmp 22), none, [4, 2, 1, 3]⟩,
             ⟨some 24, .mv (.tmp 1), none, []⟩,
             ⟨some 25, .mv (.tmp 8), none, []⟩,
             ⟨some 26, .iadS 1 (.tmp 24) (.tmp 25), none, [6, 7]⟩,
             ⟨some 27, .load1 (.tmp 26), none, [8, 6, 7]⟩,
             ⟨some 28, .call (.func 108) [(.tmp 18), (.tmp 23), (.tmp 27)], none, [0, 5, 4, 2, 1, 3, 9, 8, 6, 7]⟩,
             ⟨some 17, .mv (.tmp 28), none, [10, 0, 5, 4, 2, 1, 3, 9, 8, 6, 7]⟩,
             ⟨some 29, .ext (.tmp 17) 0, none, [11, 10, 0, 5, 4, 2, 1, 3, 9, 8, 6, 7]⟩,
             ⟨some 30, .ext (.tmp 17) 1, none, [11, 10, 0, 5, 4, 2, 1, 3, 9, 8, 6, 7]⟩,
             ⟨some 9, .mv (.tmp 29), none, [12, 11, 10, 0, 5, 4, 2, 1, 3, 9, 8, 6, 7]⟩,
             ⟨some 10, .mv (.tmp 30), none, [13, 11, 10, 0, 5, 4, 2, 1, 3, 9, 8, 6, 7, 14, 12]⟩] [18, 19, 20, 21, 22, 23, 24, 25, 26, 27, 28, 17, 29, 30])
          (.seq
           (.region false [⟨some 31, .mv (.tmp 10), none, []⟩] [])
          (.cond (.tmp 31)
            (.region false [⟨some 32, .mv (.tmp 7), none, []⟩,
              ⟨some 33, .mv (.tmp 8), none, []⟩,
              ⟨some 34, .mv (.tmp 9), none, []⟩,
              ⟨some 35, .build [(.val (.int .i64 0)), (.val (.int .i64 0))] [(0, 1, (.tmp 33)), (1, 1, (.tmp 34))], none, []⟩,
              ⟨some 36, .buildSl 2 1 [(.val (.int .i64 0)), (.val (.int .i64 0))] [(0, 2, (.tmp 35))], none, []⟩,
              ⟨some 37, .app 2 16 (.tmp 32) (.tmp 36), none, []⟩,
              ⟨some 7, .mv (.tmp 37), none, []⟩] [32, 33, 34, 35, 36, 37])
            .skip))))
       (.region false [⟨some 15, .mv (.tmp 8), none, []⟩,
         ⟨some 16, .bin .add (.tmp 15) (.const (.int .i64 1)), none, []⟩,
         ⟨some 8, .mv (.tmp 16), none, []⟩] [15, 16]))))))
  (.seq
   (.region false [⟨some 38, .mv (.tmp 7), none, []⟩,
     ⟨some 6, .mv (.tmp 38), none, []⟩] [38])
  .ret))))
set_option maxRecDepth 100000 in
theorem kref12_Samples : IsCode Try.prog 62 39 cref12_Samples [.tmp 6] :=
  ⟨Try.f62, _, [31, 14, 0, 8, 1, 3, 2, 10, 7, 9, 6], Try.func62, rfl, by decide, rfl, by kernel_rfl, by kernel_rfl⟩
/-- ref12_field -/
def cref12_field : ACode :=
  (.seq
   (.region false [⟨some 2, .box (.tmp 0), none, []⟩,
     ⟨some 4, .mv (.const (.bool false)), none, []⟩] [])
  (.seq
   (.region false [⟨some 5, .mv (.tmp 1), none, []⟩,
     ⟨some 6, .fad 5 (.tmp 2), none, []⟩,
     ⟨some 7, .load1 (.tmp 6), none, []⟩,
     ⟨some 8, .len_ (.tmp 7), none, []⟩,
     ⟨some 9, .bin .sub (.tmp 8) (.const (.int .i64 1)), none, []⟩,
     ⟨some 10, .call (.func 91) [(.tmp 5), (.const (.int .i64 0)), (.tmp 9)], none, []⟩,
     ⟨some 4, .mv (.tmp 10), none, []⟩] [5, 6, 7, 8, 9, 10])
  .ret))
set_option maxRecDepth 100000 in
theorem kref12_field : IsCode Try.prog 56 11 cref12_field [.tmp 4] :=
  ⟨Try.f56, _, [0, 1, 2, 4], Try.func56, rfl, by decide, rfl, by kernel_rfl, by kernel_rfl⟩
end Go.Proofs.Ytgibbaadjbohdaa
/- The document of record: a frame's subframe, a sample. No conditions. -/
set_option linter.unusedSimpArgs false
set_option linter.unusedVariables false
namespace Go.Proofs.Ytgibbaadjbohdaa
open Go Go.RowKit Lift

theorem idx4_at (l : Lay) (x : Int) (k : Nat) (hk : k < 4) (hn : ∀ j, j < k → x ≠ (sync l)[j]?.getD 0) (he : x = (sync l)[k]?.getD 0) : idx4 l x = k := by
  rw [← idx_sync]
  exact idx_at (l := sync l) (by simpa [sync] using hk) (fun j hj h => hn j hj h.symm) he.symm
theorem idx4_no (l : Lay) (x : Int) (hn : ∀ j, j < 4 → x ≠ (sync l)[j]?.getD 0) : idx4 l x = -1 := by
  rw [← idx_sync]
  exact idx_no fun j hj h => hn j (by simpa [sync] using hj) h.symm
set_option maxRecDepth 100000 in
set_option maxHeartbeats 4000000 in
theorem subf_ac (l : Lay) (fr : List Int) (hw : 2 ≤ l.words) (hl : fr.length ≤ maxLen) : AC Try.prog 132 [layD l, .list (ints fr)] [] [] (dI (subF l fr)) := by
  refine kref12_Subframe.ac (n0 := 0) (by simp) ⟨in_layD _ _, .list _, trivial⟩ trivial rfl ?_
  unfold cref12_Subframe layD layC
  have hmax : maxLen = 9223372036854775807 := rfl
  by_cases hlen : (fr.length : Int) = l.words
  case neg =>
    have q : ((fr.length : Int) != l.words) = true := by simpa using hlen
    rw [show subF l fr = -1 from if_neg fun h => hlen h.1]
    (have hg : (987654321 : Nat) - 987654321 = 0 := rfl; have hr := hg; repeat' (first | refine aw_seq ?_ | (refine aw_skip ?_; try simp only [thenQ, blockQ, if_true, if_false, Nat.reduceEqDiff, reduceCtorEq]) | (refine aw_exit ?_; try simp only [thenQ, blockQ, if_true, if_false, Nat.reduceEqDiff, reduceCtorEq]) | refine aw_ret ?_ | refine aw_block ?_ | refine aw_condT rfl ?_ | refine aw_condF rfl ?_ | ((first | refine aw_region ?_ | refine ago_if (by omega) ?_ | skip); simp (config := {maxSteps := 10000000}) (disch := first | exact okYes (by kernel_rfl) | omega) only [thenQ, List.map, Int.reduceNeg, dI, List.length, Nat.zero_add, Nat.reduceAdd, Nat.reduceMul, envOf, ARun_none, AOpRun, aexec, D.isBot, FSt.ev, St.F, ↓eget_h, Bool.false_eq_true, Option.isSome, hget_n, or_self, ↓reduceIte, D.cells, AGo_ok, St.app, putO, eput_c, Nat.reduceBEq, eput_n, cond_false, hups, hput_n, ARun_nil, dropE_c, inL_n, dropE_n, eget_c, ints_len, Option.map, run1, hget_c, beq_self_eq_true, cond_true, List.getElem?_cons_zero, isSh, abin, q, inL_c])))
    all_goals (refine end_to [] [] (by first | exact .inl rfl | exact .inr rfl) rfl (by kernel_rfl) (by kernel_rfl) (by kernel_rfl) ?_ ?_ <;> repeat' (first | exact trivial | exact vr_val _))
  have q : ((fr.length : Int) != l.words) = false := by simpa using hlen
  refine aw_seq (aw_region ?_)
  simp (config := {maxSteps := 10000000}) (disch := first | exact okYes (by kernel_rfl) | omega) only [thenQ, List.map, Int.reduceNeg, dI, List.length, Nat.zero_add, Nat.reduceAdd, Nat.reduceMul, envOf, ARun_none, AOpRun, aexec, D.isBot, FSt.ev, St.F, ↓eget_h, Bool.false_eq_true, Option.isSome, hget_n, or_self, ↓reduceIte, D.cells, AGo_ok, St.app, putO, eput_c, Nat.reduceBEq, eput_n, cond_false, hups, hput_n, ARun_nil, dropE_c, inL_n, dropE_n]
  refine aw_seq (aw_seq (aw_region ?_))
  simp (config := {maxSteps := 10000000}) (disch := first | exact okYes (by kernel_rfl) | omega) only [thenQ, Int.reduceNeg, List.length, Nat.zero_add, Nat.reduceAdd, Nat.reduceMul, ARun_none, AOpRun, aexec, FSt.ev, St.F, eget_c, Nat.reduceBEq, ↓eget_h, cond_false, AGo_ok, St.app, putO, eput_c, eput_n, hups, List.map, ints_len, Option.map, run1, hget_c, beq_self_eq_true, hget_n, cond_true, List.getElem?_cons_zero, isSh, Bool.false_eq_true, ↓reduceIte, abin, q, ARun_nil, dropE_c, inL_c, inL_n, dropE_n]
  refine aw_condF rfl (aw_skip ?_)
  have hall : ∀ k, (∀ j, j < k → wOk (fr[j]?.getD 0) = true) → k = fr.length → fr.all wOk = true := fun k h hk => List.all_eq_true.2 fun x hx => by
    obtain ⟨j, hj, rfl⟩ := List.getElem_of_mem hx
    have := h j (by omega)
    simpa [hj] using this
  by_cases ha : fr.all wOk = true
  case neg =>
    rw [show subF l fr = -1 from if_neg fun h => ha h.2]
    refine aw_seq (aw_seq (aw_region ?_))
    simp (config := {maxSteps := 10000000}) (disch := first | exact okYes (by kernel_rfl) | omega) only [thenQ, Int.reduceNeg, List.length, Nat.zero_add, Nat.reduceMul, Nat.reduceAdd, ARun_none, AOpRun, aexec, FSt.ev, AGo_ok, St.app, putO, eput_c, Nat.reduceBEq, eput_n, cond_false, hups, List.map, ARun_nil, dropE_c, inL_n, dropE_n]
    refine aw_block (aw_loop (fun k : Nat => ⟨[(1, .list (ints fr)), (2, .ptr 0 0), (5, dI k)], [(0, [dI l.words, dI l.s0, dI l.s1, dI l.s2, dI l.s3, .list (fls l.fl)])], 400⟩) (fun k => k ≤ fr.length ∧ ∀ j, j < k → wOk (fr[j]?.getD 0) = true) (fun k => fr.length - k) ⟨0, ⟨by omega, fun j hj => by omega⟩, ?_⟩ ?_)
    · unfold dI
      refine wk_to [] [(0, 0)] (by kernel_rfl) (by kernel_rfl) (by kernel_rfl) (by kernel_rfl) (by kernel_rfl) ?_ ?_ <;> repeat' (first | exact trivial | exact vr_val _ | exact vr_list _ | exact vr_ptr _ _ _ rfl | refine And.intro ⟨_, rfl, .inl ⟨_, rfl, by decide, ?_⟩⟩ ?_ | apply And.intro)
    rintro k ⟨hk, hin⟩
    by_cases hk2 : k < fr.length
    case neg => exact absurd (hall k hin (by omega)) ha
    have g1 := ints_gd fr k hk2
    have fa := from_ac (fr[k]?.getD 0) 0 4095
    rw [wI_w] at fa
    cases he : wOk (fr[k]?.getD 0) with
    | false =>
      rw [he] at fa
      (have hg : (987654321 : Nat) - 987654321 = 0 := rfl; have hr := hg; repeat' (first | refine aw_seq ?_ | (refine aw_skip ?_; try simp only [thenQ, blockQ, if_true, if_false, Nat.reduceEqDiff, reduceCtorEq]) | (refine aw_exit ?_; try simp only [thenQ, blockQ, if_true, if_false, Nat.reduceEqDiff, reduceCtorEq]) | refine aw_ret ?_ | refine aw_block ?_ | refine aw_condT rfl ?_ | refine aw_condF rfl ?_ | (refine aw_cond rfl (fun hg => ?_) (fun hg => ?_) <;> (try (have hq := hg; simp only [Bool.not_eq_true', Bool.not_eq_false', Bool.and_eq_true, Bool.and_eq_false_iff, Bool.or_eq_true, Bool.or_eq_false_iff, decide_eq_true_eq, decide_eq_false_iff_not, bne_iff_ne, beq_iff_eq, beq_eq_false_iff_ne, bne_eq_false_iff_eq, ne_eq, Int.not_lt, Int.not_le, Decidable.not_not] at hq)) <;> (try (have hr := hg; simp only [decide_eq_true_eq, decide_eq_false_iff_not] at hr)) <;> (try (exfalso; omega))) | ((first | refine aw_region ?_ | refine acall0 (fa) ?_ | refine ago_if (by omega) ?_ | skip); simp (config := {maxSteps := 10000000}) (disch := first | exact okYes (by kernel_rfl) | omega) only [thenQ, Int.reduceNeg, dI, List.length, Nat.zero_add, Nat.reduceAdd, Nat.reduceMul, ARun_none, AOpRun, aexec, FSt.ev, St.F, eget_c, Nat.reduceBEq, ↓eget_h, cond_false, AGo_ok, St.app, putO, eput_c, eput_n, hups, List.map, ints_len, isSh, Bool.false_eq_true, ↓reduceIte, Option.map, abin, ARun_nil, dropE_c, inL_c, inL_n, beq_self_eq_true, cond_true, dropE_n, hr, decide_true, Int.natCast_nonneg, ints_all, and_self, opt1, Int.toNat_natCast, g1, run1, List.getElem?_cons_zero, dB, Bool.not_false, blockQ])))
      all_goals (refine end_to [] [] (by first | exact .inl rfl | exact .inr rfl) rfl (by kernel_rfl) (by kernel_rfl) (by kernel_rfl) ?_ ?_ <;> repeat' (first | exact trivial | exact vr_val _))
    | true =>
      rw [he] at fa
      (have hg : (987654321 : Nat) - 987654321 = 0 := rfl; have hr := hg; repeat' (first | refine aw_seq ?_ | (refine aw_skip ?_; try simp only [thenQ, blockQ, if_true, if_false, Nat.reduceEqDiff, reduceCtorEq]) | (refine aw_exit ?_; try simp only [thenQ, blockQ, if_true, if_false, Nat.reduceEqDiff, reduceCtorEq]) | refine aw_ret ?_ | refine aw_block ?_ | refine aw_condT rfl ?_ | refine aw_condF rfl ?_ | (refine aw_cond rfl (fun hg => ?_) (fun hg => ?_) <;> (try (have hq := hg; simp only [Bool.not_eq_true', Bool.not_eq_false', Bool.and_eq_true, Bool.and_eq_false_iff, Bool.or_eq_true, Bool.or_eq_false_iff, decide_eq_true_eq, decide_eq_false_iff_not, bne_iff_ne, beq_iff_eq, beq_eq_false_iff_ne, bne_eq_false_iff_eq, ne_eq, Int.not_lt, Int.not_le, Decidable.not_not] at hq)) <;> (try (have hr := hg; simp only [decide_eq_true_eq, decide_eq_false_iff_not] at hr)) <;> (try (exfalso; omega))) | ((first | refine aw_region ?_ | refine acall0 (fa) ?_ | refine ago_if (by omega) ?_ | skip); simp (config := {maxSteps := 10000000}) (disch := first | exact okYes (by kernel_rfl) | omega) only [thenQ, Int.reduceNeg, dI, List.length, Nat.zero_add, Nat.reduceAdd, Nat.reduceMul, ARun_none, AOpRun, aexec, FSt.ev, St.F, eget_c, Nat.reduceBEq, ↓eget_h, cond_false, AGo_ok, St.app, putO, eput_c, eput_n, hups, List.map, ints_len, isSh, Bool.false_eq_true, ↓reduceIte, Option.map, abin, ARun_nil, dropE_c, inL_c, inL_n, beq_self_eq_true, cond_true, dropE_n, hr, decide_true, Int.natCast_nonneg, ints_all, and_self, opt1, Int.toNat_natCast, g1, run1, List.getElem?_cons_zero, dB, Bool.not_true, fits])))
      refine ⟨k + 1, ⟨by omega, fun j hj => ?_⟩, by omega, ?_⟩
      · rcases (by omega : j < k ∨ j = k) with h | rfl
        · exact hin j h
        · exact he
      · refine wk_to [] [(0, 0)] (by kernel_rfl) (by kernel_rfl) (by kernel_rfl) (by kernel_rfl) (by kernel_rfl) ?_ ?_ <;> repeat' (first | exact trivial | exact vr_val _ | exact vr_list _ | exact vr_ptr _ _ _ rfl | refine And.intro ⟨_, rfl, .inl ⟨_, rfl, by decide, ?_⟩⟩ ?_ | apply And.intro)
  have hsub : subF l fr = idx4 l (fr[0]?.getD 0) := if_pos ⟨hlen, ha⟩
  refine aw_cut ⟨[(1, .list (ints fr)), (2, .ptr 0 0)], [(0, [dI l.words, dI l.s0, dI l.s1, dI l.s2, dI l.s3, .list (fls l.fl)])], 600⟩ ?_ ?_
  · refine aw_seq (aw_region ?_)
    simp (config := {maxSteps := 10000000}) (disch := first | exact okYes (by kernel_rfl) | omega) only [thenQ, Int.reduceNeg, dI, List.length, Nat.zero_add, Nat.reduceMul, Nat.reduceAdd, ARun_none, AOpRun, aexec, FSt.ev, AGo_ok, St.app, putO, eput_c, Nat.reduceBEq, eput_n, cond_false, hups, List.map, ARun_nil, dropE_c, inL_n, dropE_n]
    refine aw_block (aw_loop (fun k : Nat => ⟨[(1, .list (ints fr)), (2, .ptr 0 0), (5, dI k)], [(0, [dI l.words, dI l.s0, dI l.s1, dI l.s2, dI l.s3, .list (fls l.fl)])], 400⟩) (fun k => k ≤ fr.length ) (fun k => fr.length - k) ⟨0, by omega, ?_⟩ ?_)
    · unfold dI
      refine wk_to [] [(0, 0)] (by kernel_rfl) (by kernel_rfl) (by kernel_rfl) (by kernel_rfl) (by kernel_rfl) ?_ ?_ <;> repeat' (first | exact trivial | exact vr_val _ | exact vr_list _ | exact vr_ptr _ _ _ rfl | refine And.intro ⟨_, rfl, .inl ⟨_, rfl, by decide, ?_⟩⟩ ?_ | apply And.intro)
    intro k hk
    by_cases hk2 : k < fr.length
    case neg =>
      obtain rfl : k = fr.length := by omega
      (have hg : (987654321 : Nat) - 987654321 = 0 := rfl; have hr := hg; repeat' (first | refine aw_seq ?_ | (refine aw_skip ?_; try simp only [thenQ, blockQ, if_true, if_false, Nat.reduceEqDiff, reduceCtorEq]) | (refine aw_exit ?_; try simp only [thenQ, blockQ, if_true, if_false, Nat.reduceEqDiff, reduceCtorEq]) | refine aw_ret ?_ | refine aw_block ?_ | refine aw_condT rfl ?_ | refine aw_condF rfl ?_ | (refine aw_cond rfl (fun hg => ?_) (fun hg => ?_) <;> (try (have hq := hg; simp only [Bool.not_eq_true', Bool.not_eq_false', Bool.and_eq_true, Bool.and_eq_false_iff, Bool.or_eq_true, Bool.or_eq_false_iff, decide_eq_true_eq, decide_eq_false_iff_not, bne_iff_ne, beq_iff_eq, beq_eq_false_iff_ne, bne_eq_false_iff_eq, ne_eq, Int.not_lt, Int.not_le, Decidable.not_not] at hq)) <;> (try (have hr := hg; simp only [decide_eq_true_eq, decide_eq_false_iff_not] at hr)) <;> (try (exfalso; omega))) | ((first | refine aw_region ?_ | refine ago_if (by omega) ?_ | skip); simp (config := {maxSteps := 10000000}) (disch := first | exact okYes (by kernel_rfl) | omega) only [thenQ, Int.reduceNeg, dI, List.length, Nat.zero_add, Nat.reduceAdd, Nat.reduceMul, ARun_none, AOpRun, aexec, FSt.ev, St.F, eget_c, Nat.reduceBEq, ↓eget_h, cond_false, AGo_ok, St.app, putO, eput_c, eput_n, hups, List.map, ints_len, isSh, Bool.false_eq_true, ↓reduceIte, Option.map, abin, ARun_nil, dropE_c, inL_c, inL_n, beq_self_eq_true, cond_true, dropE_n, hr, decide_false])))
      refine wk_to [] [(0, 0)] (by kernel_rfl) (by kernel_rfl) (by kernel_rfl) (by kernel_rfl) (by kernel_rfl) ?_ ?_ <;> repeat' (first | exact trivial | exact vr_val _ | exact vr_list _ | exact vr_ptr _ _ _ rfl | refine And.intro ⟨_, rfl, .inl ⟨_, rfl, by decide, ?_⟩⟩ ?_ | apply And.intro)
    have g1 := ints_gd fr k hk2
    have fa := from_ac (fr[k]?.getD 0) 0 4095
    have he : wOk (fr[k]?.getD 0) = true := by
      rw [List.getElem?_eq_getElem hk2]
      exact List.all_eq_true.1 ha _ (List.getElem_mem hk2)
    rw [wI_w, he] at fa
    (have hg : (987654321 : Nat) - 987654321 = 0 := rfl; have hr := hg; repeat' (first | refine aw_seq ?_ | (refine aw_skip ?_; try simp only [thenQ, blockQ, if_true, if_false, Nat.reduceEqDiff, reduceCtorEq]) | (refine aw_exit ?_; try simp only [thenQ, blockQ, if_true, if_false, Nat.reduceEqDiff, reduceCtorEq]) | refine aw_ret ?_ | refine aw_block ?_ | refine aw_condT rfl ?_ | refine aw_condF rfl ?_ | (refine aw_cond rfl (fun hg => ?_) (fun hg => ?_) <;> (try (have hq := hg; simp only [Bool.not_eq_true', Bool.not_eq_false', Bool.and_eq_true, Bool.and_eq_false_iff, Bool.or_eq_true, Bool.or_eq_false_iff, decide_eq_true_eq, decide_eq_false_iff_not, bne_iff_ne, beq_iff_eq, beq_eq_false_iff_ne, bne_eq_false_iff_eq, ne_eq, Int.not_lt, Int.not_le, Decidable.not_not] at hq)) <;> (try (have hr := hg; simp only [decide_eq_true_eq, decide_eq_false_iff_not] at hr)) <;> (try (exfalso; omega))) | ((first | refine aw_region ?_ | refine acall0 (fa) ?_ | refine ago_if (by omega) ?_ | skip); simp (config := {maxSteps := 10000000}) (disch := first | exact okYes (by kernel_rfl) | omega) only [thenQ, Int.reduceNeg, dI, List.length, Nat.zero_add, Nat.reduceAdd, Nat.reduceMul, ARun_none, AOpRun, aexec, FSt.ev, St.F, eget_c, Nat.reduceBEq, ↓eget_h, cond_false, AGo_ok, St.app, putO, eput_c, eput_n, hups, List.map, ints_len, isSh, Bool.false_eq_true, ↓reduceIte, Option.map, abin, ARun_nil, dropE_c, inL_c, inL_n, beq_self_eq_true, cond_true, dropE_n, hr, decide_true, Int.natCast_nonneg, ints_all, and_self, opt1, Int.toNat_natCast, g1, run1, List.getElem?_cons_zero, dB, Bool.not_true, fits])))
    refine ⟨k + 1, by omega, by omega, ?_⟩
    refine wk_to [] [(0, 0)] (by kernel_rfl) (by kernel_rfl) (by kernel_rfl) (by kernel_rfl) (by kernel_rfl) ?_ ?_ <;> repeat' (first | exact trivial | exact vr_val _ | exact vr_list _ | exact vr_ptr _ _ _ rfl | refine And.intro ⟨_, rfl, .inl ⟨_, rfl, by decide, ?_⟩⟩ ?_ | apply And.intro)
  have g0 := ints_gd fr 0 (by omega)
  have hl0 : 0 < fr.length := by omega
  rw [hsub]
  refine aw_seq (aw_seq (aw_region ?_))
  simp (config := {maxSteps := 10000000}) (disch := first | exact okYes (by kernel_rfl) | omega) only [thenQ, Int.reduceNeg, List.length, Nat.zero_add, Nat.reduceMul, Nat.reduceAdd, dI, ARun_none, AOpRun, aexec, FSt.ev, AGo_ok, St.app, putO, eput_c, Nat.reduceBEq, eput_n, cond_false, hups, List.map, ARun_nil, dropE_c, inL_n, dropE_n]
  refine aw_block (aw_loop (fun k : Nat => ⟨[(1, .list (ints fr)), (2, .ptr 0 0), (6, dI k)], [(0, [dI l.words, dI l.s0, dI l.s1, dI l.s2, dI l.s3, .list (fls l.fl)])], 800⟩) (fun k => k ≤ 4 ∧ ∀ j, j < k → fr[0]?.getD 0 ≠ (sync l)[j]?.getD 0) (fun k => 4 - k) ⟨0, ⟨by omega, fun j hj => by omega⟩, ?_⟩ ?_)
  · unfold dI
    refine wk_to [] [(0, 0)] (by kernel_rfl) (by kernel_rfl) (by kernel_rfl) (by kernel_rfl) (by kernel_rfl) ?_ ?_ <;> repeat' (first | exact trivial | exact vr_val _ | exact vr_list _ | exact vr_ptr _ _ _ rfl | refine And.intro ⟨_, rfl, .inl ⟨_, rfl, by decide, ?_⟩⟩ ?_ | apply And.intro)
  rintro k ⟨hk, hin⟩
  by_cases hk2 : k < 4
  case neg =>
    obtain rfl : k = 4 := by omega
    rw [idx4_no l _ hin]
    (have hg : (987654321 : Nat) - 987654321 = 0 := rfl; have hr := hg; repeat' (first | refine aw_seq ?_ | (refine aw_skip ?_; try simp only [thenQ, blockQ, if_true, if_false, Nat.reduceEqDiff, reduceCtorEq]) | (refine aw_exit ?_; try simp only [thenQ, blockQ, if_true, if_false, Nat.reduceEqDiff, reduceCtorEq]) | refine aw_ret ?_ | refine aw_block ?_ | refine aw_condT rfl ?_ | refine aw_condF rfl ?_ | ((first | refine aw_region ?_ | refine ago_if (by omega) ?_ | skip); simp (config := {maxSteps := 10000000}) (disch := first | exact okYes (by kernel_rfl) | omega) only [thenQ, ne_eq, hg, dI, Int.reduceNeg, List.length, Nat.zero_add, Nat.reduceAdd, Nat.reduceMul, cast_lit, ARun_none, AOpRun, aexec, FSt.ev, St.F, eget_c, Nat.reduceBEq, ↓eget_h, cond_false, AGo_ok, St.app, putO, eput_c, eput_n, hups, List.map, isSh, Bool.false_eq_true, ↓reduceIte, Option.map, abin, Int.reduceLT, decide_false, ARun_nil, dropE_c, inL_c, inL_n, beq_self_eq_true, cond_true, dropE_n])))
    all_goals (refine end_to [] [] (by first | exact .inl rfl | exact .inr rfl) rfl (by kernel_rfl) (by kernel_rfl) (by kernel_rfl) ?_ ?_ <;> repeat' (first | exact trivial | exact vr_val _))
  have gs := sync_at l k hk2
  by_cases he : fr[0]?.getD 0 = (sync l)[k]?.getD 0
  · rw [idx4_at l _ k hk2 hin he]
    have q2 : (fr[0]?.getD 0 == (sync l)[k]?.getD 0) = true := by simpa using he
    rcases (by omega : k = 0 ∨ k = 1 ∨ k = 2 ∨ k = 3) with rfl | rfl | rfl | rfl
    all_goals
      simp only [sync, List.getElem?_cons_zero, List.getElem?_cons_succ, Option.getD_some] at q2
      (have hg : (987654321 : Nat) - 987654321 = 0 := rfl; have hr := hg; repeat' (first | refine aw_seq ?_ | (refine aw_skip ?_; try simp only [thenQ, blockQ, if_true, if_false, Nat.reduceEqDiff, reduceCtorEq]) | (refine aw_exit ?_; try simp only [thenQ, blockQ, if_true, if_false, Nat.reduceEqDiff, reduceCtorEq]) | refine aw_ret ?_ | refine aw_block ?_ | refine aw_condT rfl ?_ | refine aw_condF rfl ?_ | ((first | refine aw_region ?_ | refine ago_if (by omega) ?_ | skip); simp (config := {maxSteps := 10000000}) (disch := first | exact okYes (by kernel_rfl) | omega) only [thenQ, ne_eq, Nat.reduceSub, dI, Int.reduceNeg, cast_lit, List.length, Nat.zero_add, Nat.reduceAdd, Nat.reduceMul, ARun_none, AOpRun, aexec, FSt.ev, St.F, eget_c, Nat.reduceBEq, ↓eget_h, cond_false, AGo_ok, St.app, putO, eput_c, eput_n, hups, List.map, isSh, Bool.false_eq_true, ↓reduceIte, Option.map, abin, Int.reduceLT, decide_true, ARun_nil, dropE_c, inL_c, inL_n, beq_self_eq_true, cond_true, dropE_n, Int.le_refl, ints_all, and_self, opt1, Int.toNat_zero, g0, run1, List.getElem?_cons_zero, hget_c, hget_n, List.getElem?_cons_succ, q2, blockQ, Int.reduceLE, Int.reduceToNat])))
      all_goals (refine end_to [] [] (by first | exact .inl rfl | exact .inr rfl) rfl (by kernel_rfl) (by kernel_rfl) (by kernel_rfl) ?_ ?_ <;> repeat' (first | exact trivial | exact vr_val _))
  · have q2 : (fr[0]?.getD 0 == (sync l)[k]?.getD 0) = false := by simpa using he
    have hin2 : ∀ j, j < k + 1 → fr[0]?.getD 0 ≠ (sync l)[j]?.getD 0 := fun j hj => by
      rcases (by omega : j < k ∨ j = k) with h | rfl
      · exact hin j h
      · exact he
    rcases (by omega : k = 0 ∨ k = 1 ∨ k = 2 ∨ k = 3) with rfl | rfl | rfl | rfl
    all_goals
      simp only [sync, List.getElem?_cons_zero, List.getElem?_cons_succ, Option.getD_some] at q2
      (have hg : (987654321 : Nat) - 987654321 = 0 := rfl; have hr := hg; repeat' (first | refine aw_seq ?_ | (refine aw_skip ?_; try simp only [thenQ, blockQ, if_true, if_false, Nat.reduceEqDiff, reduceCtorEq]) | (refine aw_exit ?_; try simp only [thenQ, blockQ, if_true, if_false, Nat.reduceEqDiff, reduceCtorEq]) | refine aw_ret ?_ | refine aw_block ?_ | refine aw_condT rfl ?_ | refine aw_condF rfl ?_ | ((first | refine aw_region ?_ | refine ago_if (by omega) ?_ | skip); simp (config := {maxSteps := 10000000}) (disch := first | exact okYes (by kernel_rfl) | omega) only [thenQ, ne_eq, Nat.reduceSub, dI, Int.reduceNeg, List.length, Nat.zero_add, Nat.reduceAdd, Nat.reduceMul, cast_lit, ARun_none, AOpRun, aexec, FSt.ev, St.F, eget_c, Nat.reduceBEq, ↓eget_h, cond_false, AGo_ok, St.app, putO, eput_c, eput_n, hups, List.map, isSh, Bool.false_eq_true, ↓reduceIte, Option.map, abin, Int.reduceLT, decide_true, ARun_nil, dropE_c, inL_c, inL_n, beq_self_eq_true, cond_true, dropE_n, Int.le_refl, ints_all, and_self, opt1, Int.toNat_zero, g0, run1, List.getElem?_cons_zero, hget_c, hget_n, List.getElem?_cons_succ, q2, Int.reduceAdd, fits, Int.reduceLE, Int.reduceToNat])))
      refine ⟨_, ⟨?_, hin2⟩, ?_, ?_⟩
      · omega
      · omega
      · refine wk_to [] [(0, 0)] (by kernel_rfl) (by kernel_rfl) (by kernel_rfl) (by kernel_rfl) (by kernel_rfl) ?_ ?_ <;> repeat' (first | exact trivial | exact vr_val _ | exact vr_list _ | exact vr_ptr _ _ _ rfl | refine And.intro ⟨_, rfl, .inl ⟨_, rfl, by decide, ?_⟩⟩ ?_ | apply And.intro)
end Go.Proofs.Ytgibbaadjbohdaa
/- The document of record: Good, samples, Read, Peak. No conditions. -/
set_option linter.unusedSimpArgs false
set_option linter.unusedVariables false
namespace Go.Proofs.Ytgibbaadjbohdaa
open Go Go.RowKit Lift

theorem uw_in {x : Int} (h1 : 0 ≤ x) (h2 : x < 18446744073709551616) : IntKind.u64.wrap x = x := by
  have h3 : x % 18446744073709551616 = x := Int.emod_eq_of_lt h1 h2
  unfold IntKind.wrap
  show (if (false && _) = true then _ else x % (2 ^ 64 : Int)) = x
  rw [Bool.false_and, if_neg (by simp)]
  exact h3
set_option maxHeartbeats 2000000 in
theorem checkF_ac (l : Lay) (frs : List (List Int)) (hl : LayIn l) (hf : FrIn frs) : AC Try.prog 23 [layD l, .list (rows frs)] [] [] (dI (tpE l frs)) := by
  refine kref12_CheckFrames.ac (n0 := 0) (by simp) ⟨in_layD _ _, .list _, trivial⟩ trivial rfl ?_
  unfold cref12_CheckFrames
  have ck := rcheck_ac l hl
  have hmax : maxLen = 9223372036854775807 := rfl
  have hn := hf.n
  unfold layD layC at *
  by_cases h1 : LayOk l
  · rw [layE_ok h1] at ck
    cases q : decide ((frs.length : Int) > 200) with
    | true =>
      rw [tpE_many h1 (by have := of_decide_eq_true q; omega)]
      (have hg : (987654321 : Nat) - 987654321 = 0 := rfl; have hr := hg; repeat' (first | refine aw_seq ?_ | (refine aw_skip ?_; try simp only [thenQ, blockQ, if_true, if_false, Nat.reduceEqDiff, reduceCtorEq]) | (refine aw_exit ?_; try simp only [thenQ, blockQ, if_true, if_false, Nat.reduceEqDiff, reduceCtorEq]) | refine aw_ret ?_ | refine aw_block ?_ | refine aw_condT rfl ?_ | refine aw_condF rfl ?_ | (refine aw_cond rfl (fun hg => ?_) (fun hg => ?_) <;> (try (have hq := hg; simp only [Bool.not_eq_true', Bool.not_eq_false', Bool.and_eq_true, Bool.and_eq_false_iff, Bool.or_eq_true, Bool.or_eq_false_iff, decide_eq_true_eq, decide_eq_false_iff_not, bne_iff_ne, beq_iff_eq, beq_eq_false_iff_ne, bne_eq_false_iff_eq, ne_eq, Int.not_lt, Int.not_le, Decidable.not_not] at hq)) <;> (try (have hr := hg; simp only [decide_eq_true_eq, decide_eq_false_iff_not] at hr)) <;> (try (exfalso; omega))) | (refine ag_bool (fun hg => ?_) (fun hg => ?_) <;> (try (have hq := hg; simp only [Bool.not_eq_true', Bool.not_eq_false', Bool.and_eq_true, Bool.and_eq_false_iff, Bool.or_eq_true, Bool.or_eq_false_iff, decide_eq_true_eq, decide_eq_false_iff_not, bne_iff_ne, beq_iff_eq, beq_eq_false_iff_ne, bne_eq_false_iff_eq, ne_eq, Int.not_lt, Int.not_le, Decidable.not_not] at hq)) <;> (try (have hr := hg; simp only [decide_eq_true_eq, decide_eq_false_iff_not] at hr)) <;> (try (exfalso; omega)) <;> simp (config := {maxSteps := 10000000}) (disch := first | exact okYes (by kernel_rfl) | omega) only [ARun_nil, ARun_none, ARun_some, ARun_skip, AOpRun, AGo_f, AGo_ok, AG_tt, AG_ff, AG_tf, AG_ft, AG_un, aexec, run1, asI, elems, base, opt1, fillD, splice, abin, ash, isSh, foldI, mn2, mx2, ↓eget_h, eget_c, eget_n, eput_c, eput_n, putO, ↓hget_h, hget_c, hget_n, hput_c, hput_n, hdel_c, hdel_n, hups, cond_true, cond_false,  ups, St.F, St.app, FSt.ev, dropE_c, dropE_n, inL_c, inL_n, envOf, thenQ, blockQ, D.isBot, D.isAgg, D.cells, D.leaf, scalarEq, eqCells, isB, Option.map, List.map, List.length, List.all, List.append, List.take, List.drop, List.cons_append, List.nil_append, List.append_nil, Option.isSome, List.getElem?_cons_zero, List.getElem?_cons_succ, if_true, if_false, true_and, and_true, Bool.not_true, Bool.not_false, Bool.true_or, Bool.false_or, Bool.or_true, Bool.or_false, Bool.false_eq_true, ↓reduceIte, Nat.reduceAdd, Nat.reduceMul, Nat.reduceEqDiff, Nat.reduceBEq, Nat.reduceSub, Nat.zero_add, Nat.reduceLeDiff, Nat.reduceGT, Nat.reduceLT, Nat.reduceBNe, okLog_f, reduceCtorEq, or_self, or_false, false_or, or_true, true_or, and_self, and_false, false_and, not_true_eq_false, not_false_eq_true, ne_eq, Bool.and_true, Bool.true_and, Bool.and_false, Bool.false_and, decide_eq_true_eq, decide_true, decide_false, Int.reduceBEq, Int.reduceBNe, Int.reduceLT, Int.reduceLE, Int.reduceAdd, Int.reduceSub, Int.reduceMul, Int.reduceNeg, Int.reduceEq, Int.toNat_zero, Int.reduceToNat, Int.zero_lt_one, Nat.zero_le, Int.le_refl, beq_self_eq_true, bne_self_eq_false, cast_lit, fits, wrap_in, Int.toNat_natCast, Int.natCast_nonneg, dI, dB, rows_len, q, hg, hr]) | ((first | refine aw_region ?_ | refine acall0 (ck) ?_ | refine ago_if (by omega) ?_ | skip); simp (config := {maxSteps := 10000000}) (disch := first | exact okYes (by kernel_rfl) | omega) only [ARun_nil, ARun_none, ARun_some, ARun_skip, AOpRun, AGo_f, AGo_ok, AG_tt, AG_ff, AG_tf, AG_ft, AG_un, aexec, run1, asI, elems, base, opt1, fillD, splice, abin, ash, isSh, foldI, mn2, mx2, ↓eget_h, eget_c, eget_n, eput_c, eput_n, putO, ↓hget_h, hget_c, hget_n, hput_c, hput_n, hdel_c, hdel_n, hups, cond_true, cond_false,  ups, St.F, St.app, FSt.ev, dropE_c, dropE_n, inL_c, inL_n, envOf, thenQ, blockQ, D.isBot, D.isAgg, D.cells, D.leaf, scalarEq, eqCells, isB, Option.map, List.map, List.length, List.all, List.append, List.take, List.drop, List.cons_append, List.nil_append, List.append_nil, Option.isSome, List.getElem?_cons_zero, List.getElem?_cons_succ, if_true, if_false, true_and, and_true, Bool.not_true, Bool.not_false, Bool.true_or, Bool.false_or, Bool.or_true, Bool.or_false, Bool.false_eq_true, ↓reduceIte, Nat.reduceAdd, Nat.reduceMul, Nat.reduceEqDiff, Nat.reduceBEq, Nat.reduceSub, Nat.zero_add, Nat.reduceLeDiff, Nat.reduceGT, Nat.reduceLT, Nat.reduceBNe, okLog_f, reduceCtorEq, or_self, or_false, false_or, or_true, true_or, and_self, and_false, false_and, not_true_eq_false, not_false_eq_true, ne_eq, Bool.and_true, Bool.true_and, Bool.and_false, Bool.false_and, decide_eq_true_eq, decide_true, decide_false, Int.reduceBEq, Int.reduceBNe, Int.reduceLT, Int.reduceLE, Int.reduceAdd, Int.reduceSub, Int.reduceMul, Int.reduceNeg, Int.reduceEq, Int.toNat_zero, Int.reduceToNat, Int.zero_lt_one, Nat.zero_le, Int.le_refl, beq_self_eq_true, bne_self_eq_false, cast_lit, fits, wrap_in, Int.toNat_natCast, Int.natCast_nonneg, dI, dB, rows_len, q, hg, hr])))
      all_goals (refine end_to [] [] (by first | exact .inl rfl | exact .inr rfl) rfl (by kernel_rfl) (by kernel_rfl) (by kernel_rfl) ?_ ?_ <;> repeat' (first | exact trivial | exact vr_val _ | exact vr_list _ | exact vr_at _ | exact vr_nil | exact vr_cap0 | exact vr_vec _ _ _ _ rfl | exact vr_own _ _ _ _ _ rfl | exact vr_ptr _ _ _ rfl | exact vr_nilv _ _ _ rfl | exact vr_bot _ | exact vr_cap0v _ _ _ rfl | exact vr_cap0l | apply vr_agg | apply vr_tup | apply vr_fn | refine vr_yld _ _ _ rfl ?_ | exact Ren.bot _ | exact Ren.val _ | exact Ren.list _ | exact Ren.at_ _ | exact Ren.ptr _ _ _ rfl | refine Ren.yld _ _ _ _ _ rfl rfl (RenL.get ?_).2 (fun _ _ _ h => h) | refine vr_fl _ _ _ _ _ (by decide) rfl ?_ ?_ ?_ ?_ | refine And.intro ⟨_, rfl, .inl ⟨_, rfl, by decide, ?_⟩⟩ ?_ | refine And.intro ⟨_, rfl, _, rfl, by decide, ?_⟩ ?_ | refine And.intro ⟨_, rfl, .inr ⟨rfl, rfl, of_decide_eq_true (by kernel_rfl)⟩⟩ ?_ | apply And.intro | refine vr_valq ?_ | refine vr_listq ?_ | exact vrl_flat _ (by first | exact icells_in _ | exact rcells_in _ | exact scells_in _ | exact bcells_in _ | assumption) | fail))
    | false =>
      rw [tpE_ok h1 (by have := of_decide_eq_false q; omega)]
      (have hg : (987654321 : Nat) - 987654321 = 0 := rfl; have hr := hg; repeat' (first | refine aw_seq ?_ | (refine aw_skip ?_; try simp only [thenQ, blockQ, if_true, if_false, Nat.reduceEqDiff, reduceCtorEq]) | (refine aw_exit ?_; try simp only [thenQ, blockQ, if_true, if_false, Nat.reduceEqDiff, reduceCtorEq]) | refine aw_ret ?_ | refine aw_block ?_ | refine aw_condT rfl ?_ | refine aw_condF rfl ?_ | (refine aw_cond rfl (fun hg => ?_) (fun hg => ?_) <;> (try (have hq := hg; simp only [Bool.not_eq_true', Bool.not_eq_false', Bool.and_eq_true, Bool.and_eq_false_iff, Bool.or_eq_true, Bool.or_eq_false_iff, decide_eq_true_eq, decide_eq_false_iff_not, bne_iff_ne, beq_iff_eq, beq_eq_false_iff_ne, bne_eq_false_iff_eq, ne_eq, Int.not_lt, Int.not_le, Decidable.not_not] at hq)) <;> (try (have hr := hg; simp only [decide_eq_true_eq, decide_eq_false_iff_not] at hr)) <;> (try (exfalso; omega))) | (refine ag_bool (fun hg => ?_) (fun hg => ?_) <;> (try (have hq := hg; simp only [Bool.not_eq_true', Bool.not_eq_false', Bool.and_eq_true, Bool.and_eq_false_iff, Bool.or_eq_true, Bool.or_eq_false_iff, decide_eq_true_eq, decide_eq_false_iff_not, bne_iff_ne, beq_iff_eq, beq_eq_false_iff_ne, bne_eq_false_iff_eq, ne_eq, Int.not_lt, Int.not_le, Decidable.not_not] at hq)) <;> (try (have hr := hg; simp only [decide_eq_true_eq, decide_eq_false_iff_not] at hr)) <;> (try (exfalso; omega)) <;> simp (config := {maxSteps := 10000000}) (disch := first | exact okYes (by kernel_rfl) | omega) only [ARun_nil, ARun_none, ARun_some, ARun_skip, AOpRun, AGo_f, AGo_ok, AG_tt, AG_ff, AG_tf, AG_ft, AG_un, aexec, run1, asI, elems, base, opt1, fillD, splice, abin, ash, isSh, foldI, mn2, mx2, ↓eget_h, eget_c, eget_n, eput_c, eput_n, putO, ↓hget_h, hget_c, hget_n, hput_c, hput_n, hdel_c, hdel_n, hups, cond_true, cond_false,  ups, St.F, St.app, FSt.ev, dropE_c, dropE_n, inL_c, inL_n, envOf, thenQ, blockQ, D.isBot, D.isAgg, D.cells, D.leaf, scalarEq, eqCells, isB, Option.map, List.map, List.length, List.all, List.append, List.take, List.drop, List.cons_append, List.nil_append, List.append_nil, Option.isSome, List.getElem?_cons_zero, List.getElem?_cons_succ, if_true, if_false, true_and, and_true, Bool.not_true, Bool.not_false, Bool.true_or, Bool.false_or, Bool.or_true, Bool.or_false, Bool.false_eq_true, ↓reduceIte, Nat.reduceAdd, Nat.reduceMul, Nat.reduceEqDiff, Nat.reduceBEq, Nat.reduceSub, Nat.zero_add, Nat.reduceLeDiff, Nat.reduceGT, Nat.reduceLT, Nat.reduceBNe, okLog_f, reduceCtorEq, or_self, or_false, false_or, or_true, true_or, and_self, and_false, false_and, not_true_eq_false, not_false_eq_true, ne_eq, Bool.and_true, Bool.true_and, Bool.and_false, Bool.false_and, decide_eq_true_eq, decide_true, decide_false, Int.reduceBEq, Int.reduceBNe, Int.reduceLT, Int.reduceLE, Int.reduceAdd, Int.reduceSub, Int.reduceMul, Int.reduceNeg, Int.reduceEq, Int.toNat_zero, Int.reduceToNat, Int.zero_lt_one, Nat.zero_le, Int.le_refl, beq_self_eq_true, bne_self_eq_false, cast_lit, fits, wrap_in, Int.toNat_natCast, Int.natCast_nonneg, dI, dB, rows_len, q, hg, hr]) | ((first | refine aw_region ?_ | refine acall0 (ck) ?_ | refine ago_if (by omega) ?_ | skip); simp (config := {maxSteps := 10000000}) (disch := first | exact okYes (by kernel_rfl) | omega) only [ARun_nil, ARun_none, ARun_some, ARun_skip, AOpRun, AGo_f, AGo_ok, AG_tt, AG_ff, AG_tf, AG_ft, AG_un, aexec, run1, asI, elems, base, opt1, fillD, splice, abin, ash, isSh, foldI, mn2, mx2, ↓eget_h, eget_c, eget_n, eput_c, eput_n, putO, ↓hget_h, hget_c, hget_n, hput_c, hput_n, hdel_c, hdel_n, hups, cond_true, cond_false,  ups, St.F, St.app, FSt.ev, dropE_c, dropE_n, inL_c, inL_n, envOf, thenQ, blockQ, D.isBot, D.isAgg, D.cells, D.leaf, scalarEq, eqCells, isB, Option.map, List.map, List.length, List.all, List.append, List.take, List.drop, List.cons_append, List.nil_append, List.append_nil, Option.isSome, List.getElem?_cons_zero, List.getElem?_cons_succ, if_true, if_false, true_and, and_true, Bool.not_true, Bool.not_false, Bool.true_or, Bool.false_or, Bool.or_true, Bool.or_false, Bool.false_eq_true, ↓reduceIte, Nat.reduceAdd, Nat.reduceMul, Nat.reduceEqDiff, Nat.reduceBEq, Nat.reduceSub, Nat.zero_add, Nat.reduceLeDiff, Nat.reduceGT, Nat.reduceLT, Nat.reduceBNe, okLog_f, reduceCtorEq, or_self, or_false, false_or, or_true, true_or, and_self, and_false, false_and, not_true_eq_false, not_false_eq_true, ne_eq, Bool.and_true, Bool.true_and, Bool.and_false, Bool.false_and, decide_eq_true_eq, decide_true, decide_false, Int.reduceBEq, Int.reduceBNe, Int.reduceLT, Int.reduceLE, Int.reduceAdd, Int.reduceSub, Int.reduceMul, Int.reduceNeg, Int.reduceEq, Int.toNat_zero, Int.reduceToNat, Int.zero_lt_one, Nat.zero_le, Int.le_refl, beq_self_eq_true, bne_self_eq_false, cast_lit, fits, wrap_in, Int.toNat_natCast, Int.natCast_nonneg, dI, dB, rows_len, q, hg, hr])))
      all_goals (refine end_to [] [] (by first | exact .inl rfl | exact .inr rfl) rfl (by kernel_rfl) (by kernel_rfl) (by kernel_rfl) ?_ ?_ <;> repeat' (first | exact trivial | exact vr_val _ | exact vr_list _ | exact vr_at _ | exact vr_nil | exact vr_cap0 | exact vr_vec _ _ _ _ rfl | exact vr_own _ _ _ _ _ rfl | exact vr_ptr _ _ _ rfl | exact vr_nilv _ _ _ rfl | exact vr_bot _ | exact vr_cap0v _ _ _ rfl | exact vr_cap0l | apply vr_agg | apply vr_tup | apply vr_fn | refine vr_yld _ _ _ rfl ?_ | exact Ren.bot _ | exact Ren.val _ | exact Ren.list _ | exact Ren.at_ _ | exact Ren.ptr _ _ _ rfl | refine Ren.yld _ _ _ _ _ rfl rfl (RenL.get ?_).2 (fun _ _ _ h => h) | refine vr_fl _ _ _ _ _ (by decide) rfl ?_ ?_ ?_ ?_ | refine And.intro ⟨_, rfl, .inl ⟨_, rfl, by decide, ?_⟩⟩ ?_ | refine And.intro ⟨_, rfl, _, rfl, by decide, ?_⟩ ?_ | refine And.intro ⟨_, rfl, .inr ⟨rfl, rfl, of_decide_eq_true (by kernel_rfl)⟩⟩ ?_ | apply And.intro | refine vr_valq ?_ | refine vr_listq ?_ | exact vrl_flat _ (by first | exact icells_in _ | exact rcells_in _ | exact scells_in _ | exact bcells_in _ | assumption) | fail))
  · rw [layE_no h1] at ck
    rw [tpE_no h1]
    (have hg : (987654321 : Nat) - 987654321 = 0 := rfl; have hr := hg; repeat' (first | refine aw_seq ?_ | (refine aw_skip ?_; try simp only [thenQ, blockQ, if_true, if_false, Nat.reduceEqDiff, reduceCtorEq]) | (refine aw_exit ?_; try simp only [thenQ, blockQ, if_true, if_false, Nat.reduceEqDiff, reduceCtorEq]) | refine aw_ret ?_ | refine aw_block ?_ | refine aw_condT rfl ?_ | refine aw_condF rfl ?_ | (refine aw_cond rfl (fun hg => ?_) (fun hg => ?_) <;> (try (have hq := hg; simp only [Bool.not_eq_true', Bool.not_eq_false', Bool.and_eq_true, Bool.and_eq_false_iff, Bool.or_eq_true, Bool.or_eq_false_iff, decide_eq_true_eq, decide_eq_false_iff_not, bne_iff_ne, beq_iff_eq, beq_eq_false_iff_ne, bne_eq_false_iff_eq, ne_eq, Int.not_lt, Int.not_le, Decidable.not_not] at hq)) <;> (try (have hr := hg; simp only [decide_eq_true_eq, decide_eq_false_iff_not] at hr)) <;> (try (exfalso; omega))) | (refine ag_bool (fun hg => ?_) (fun hg => ?_) <;> (try (have hq := hg; simp only [Bool.not_eq_true', Bool.not_eq_false', Bool.and_eq_true, Bool.and_eq_false_iff, Bool.or_eq_true, Bool.or_eq_false_iff, decide_eq_true_eq, decide_eq_false_iff_not, bne_iff_ne, beq_iff_eq, beq_eq_false_iff_ne, bne_eq_false_iff_eq, ne_eq, Int.not_lt, Int.not_le, Decidable.not_not] at hq)) <;> (try (have hr := hg; simp only [decide_eq_true_eq, decide_eq_false_iff_not] at hr)) <;> (try (exfalso; omega)) <;> simp (config := {maxSteps := 10000000}) (disch := first | exact okYes (by kernel_rfl) | omega) only [ARun_nil, ARun_none, ARun_some, ARun_skip, AOpRun, AGo_f, AGo_ok, AG_tt, AG_ff, AG_tf, AG_ft, AG_un, aexec, run1, asI, elems, base, opt1, fillD, splice, abin, ash, isSh, foldI, mn2, mx2, ↓eget_h, eget_c, eget_n, eput_c, eput_n, putO, ↓hget_h, hget_c, hget_n, hput_c, hput_n, hdel_c, hdel_n, hups, cond_true, cond_false,  ups, St.F, St.app, FSt.ev, dropE_c, dropE_n, inL_c, inL_n, envOf, thenQ, blockQ, D.isBot, D.isAgg, D.cells, D.leaf, scalarEq, eqCells, isB, Option.map, List.map, List.length, List.all, List.append, List.take, List.drop, List.cons_append, List.nil_append, List.append_nil, Option.isSome, List.getElem?_cons_zero, List.getElem?_cons_succ, if_true, if_false, true_and, and_true, Bool.not_true, Bool.not_false, Bool.true_or, Bool.false_or, Bool.or_true, Bool.or_false, Bool.false_eq_true, ↓reduceIte, Nat.reduceAdd, Nat.reduceMul, Nat.reduceEqDiff, Nat.reduceBEq, Nat.reduceSub, Nat.zero_add, Nat.reduceLeDiff, Nat.reduceGT, Nat.reduceLT, Nat.reduceBNe, okLog_f, reduceCtorEq, or_self, or_false, false_or, or_true, true_or, and_self, and_false, false_and, not_true_eq_false, not_false_eq_true, ne_eq, Bool.and_true, Bool.true_and, Bool.and_false, Bool.false_and, decide_eq_true_eq, decide_true, decide_false, Int.reduceBEq, Int.reduceBNe, Int.reduceLT, Int.reduceLE, Int.reduceAdd, Int.reduceSub, Int.reduceMul, Int.reduceNeg, Int.reduceEq, Int.toNat_zero, Int.reduceToNat, Int.zero_lt_one, Nat.zero_le, Int.le_refl, beq_self_eq_true, bne_self_eq_false, cast_lit, fits, wrap_in, Int.toNat_natCast, Int.natCast_nonneg, dI, dB, hg, hr]) | ((first | refine aw_region ?_ | refine acall0 (ck) ?_ | refine ago_if (by omega) ?_ | skip); simp (config := {maxSteps := 10000000}) (disch := first | exact okYes (by kernel_rfl) | omega) only [ARun_nil, ARun_none, ARun_some, ARun_skip, AOpRun, AGo_f, AGo_ok, AG_tt, AG_ff, AG_tf, AG_ft, AG_un, aexec, run1, asI, elems, base, opt1, fillD, splice, abin, ash, isSh, foldI, mn2, mx2, ↓eget_h, eget_c, eget_n, eput_c, eput_n, putO, ↓hget_h, hget_c, hget_n, hput_c, hput_n, hdel_c, hdel_n, hups, cond_true, cond_false,  ups, St.F, St.app, FSt.ev, dropE_c, dropE_n, inL_c, inL_n, envOf, thenQ, blockQ, D.isBot, D.isAgg, D.cells, D.leaf, scalarEq, eqCells, isB, Option.map, List.map, List.length, List.all, List.append, List.take, List.drop, List.cons_append, List.nil_append, List.append_nil, Option.isSome, List.getElem?_cons_zero, List.getElem?_cons_succ, if_true, if_false, true_and, and_true, Bool.not_true, Bool.not_false, Bool.true_or, Bool.false_or, Bool.or_true, Bool.or_false, Bool.false_eq_true, ↓reduceIte, Nat.reduceAdd, Nat.reduceMul, Nat.reduceEqDiff, Nat.reduceBEq, Nat.reduceSub, Nat.zero_add, Nat.reduceLeDiff, Nat.reduceGT, Nat.reduceLT, Nat.reduceBNe, okLog_f, reduceCtorEq, or_self, or_false, false_or, or_true, true_or, and_self, and_false, false_and, not_true_eq_false, not_false_eq_true, ne_eq, Bool.and_true, Bool.true_and, Bool.and_false, Bool.false_and, decide_eq_true_eq, decide_true, decide_false, Int.reduceBEq, Int.reduceBNe, Int.reduceLT, Int.reduceLE, Int.reduceAdd, Int.reduceSub, Int.reduceMul, Int.reduceNeg, Int.reduceEq, Int.toNat_zero, Int.reduceToNat, Int.zero_lt_one, Nat.zero_le, Int.le_refl, beq_self_eq_true, bne_self_eq_false, cast_lit, fits, wrap_in, Int.toNat_natCast, Int.natCast_nonneg, dI, dB, hg, hr])))
    all_goals (refine end_to [] [] (by first | exact .inl rfl | exact .inr rfl) rfl (by kernel_rfl) (by kernel_rfl) (by kernel_rfl) ?_ ?_ <;> repeat' (first | exact trivial | exact vr_val _ | exact vr_list _ | exact vr_at _ | exact vr_nil | exact vr_cap0 | exact vr_vec _ _ _ _ rfl | exact vr_own _ _ _ _ _ rfl | exact vr_ptr _ _ _ rfl | exact vr_nilv _ _ _ rfl | exact vr_bot _ | exact vr_cap0v _ _ _ rfl | exact vr_cap0l | apply vr_agg | apply vr_tup | apply vr_fn | refine vr_yld _ _ _ rfl ?_ | exact Ren.bot _ | exact Ren.val _ | exact Ren.list _ | exact Ren.at_ _ | exact Ren.ptr _ _ _ rfl | refine Ren.yld _ _ _ _ _ rfl rfl (RenL.get ?_).2 (fun _ _ _ h => h) | refine vr_fl _ _ _ _ _ (by decide) rfl ?_ ?_ ?_ ?_ | refine And.intro ⟨_, rfl, .inl ⟨_, rfl, by decide, ?_⟩⟩ ?_ | refine And.intro ⟨_, rfl, _, rfl, by decide, ?_⟩ ?_ | refine And.intro ⟨_, rfl, .inr ⟨rfl, rfl, of_decide_eq_true (by kernel_rfl)⟩⟩ ?_ | apply And.intro | refine vr_valq ?_ | refine vr_listq ?_ | exact vrl_flat _ (by first | exact icells_in _ | exact rcells_in _ | exact scells_in _ | exact bcells_in _ | assumption) | fail))
end Go.Proofs.Ytgibbaadjbohdaa
/- The document of record: samples, Read, Peak. No conditions. -/
set_option linter.unusedSimpArgs false
set_option linter.unusedVariables false
namespace Go.Proofs.Ytgibbaadjbohdaa
open Go Go.RowKit Lift

set_option maxHeartbeats 2000000 in
theorem rraw_ac {w : Int} {f : Fl} (h : FOk w f) (fr : List Int) (x : Nat) (hw : f.word.toNat < fr.length) (hx : fr[f.word.toNat]?.getD 0 = (x : Int)) (hlt : x < 4096) : AC Try.prog 133 [flD f, .list (ints fr)] [] [] (dI (rawI f x)) := by
  refine kref12_raw.ac (n0 := 0) (by simp) ⟨in_flD _ _, .list _, trivial⟩ trivial rfl ?_
  unfold cref12_raw flD flC
  obtain ⟨h1, h2, h3, h4, h5, h6, h7⟩ := size_pow h
  have b1 := h.b1
  have s1 := h.s1
  have bs := h.bs
  have w1 := h.w1
  have e0 : IntKind.i64.bits = 64 := rfl
  have e1 : min f.bit.toNat IntKind.i64.bits = f.bit.toNat := by rw [e0]; omega
  have e2 : min (f.size - 1).toNat IntKind.i64.bits = f.size.toNat - 1 := by rw [e0]; omega
  have e3 : min f.size.toNat IntKind.i64.bits = f.size.toNat := by rw [e0]; omega
  have c1 : IntKind.u64.wrap f.bit = f.bit := uw_in (by omega) (by omega)
  have c2 : IntKind.u64.wrap f.size = f.size := uw_in (by omega) (by omega)
  have c3 : IntKind.u64.wrap (f.size - 1) = f.size - 1 := uw_in (by omega) (by omega)
  have p0 : 0 ≤ f.size := by omega
  have p1 : 0 ≤ f.size - 1 := by omega
  have p2 : 0 ≤ f.word := by omega
  have p3 : f.word < (fr.length : Int) := by omega
  have g1 := ints_gd fr f.word.toNat hw
  rw [hx] at g1
  have a0 : Int.fdiv (x : Int) (2 ^ f.bit.toNat) = ((x / 2 ^ f.bit.toNat : Nat) : Int) := fdiv_pow _ _
  have pp : ((2 ^ f.size.toNat : Nat) : Int) = (2 : Int) ^ f.size.toNat := by simp
  have a1 : IntKind.i64.wrap (1 * 2 ^ f.size.toNat) = ((2 ^ f.size.toNat : Nat) : Int) := by rw [Int.one_mul, ← pp]; exact wrap_in (by omega) (by omega)
  have a2 : ((2 ^ f.size.toNat : Nat) : Int) - 1 = ((2 ^ f.size.toNat - 1 : Nat) : Int) := by omega
  have a3 : IntKind.i64.wrap ((2 ^ f.size.toNat - 1 : Nat) : Int) = ((2 ^ f.size.toNat - 1 : Nat) : Int) := wrap_in (by omega) (by omega)
  have hd : x / 2 ^ f.bit.toNat ≤ x := Nat.div_le_self _ _
  have a4 : IntKind.i64.wrap ((BitVec.ofInt IntKind.i64.bits ((x / 2 ^ f.bit.toNat : Nat) : Int) &&& BitVec.ofInt IntKind.i64.bits ((2 ^ f.size.toNat - 1 : Nat) : Int)).toNat) = ((rawU f x : Nat) : Int) := by
    rw [and_nat _ _ (by omega) (by omega), and_low]; rfl
  have hr := rawU_lt h x
  have pq : ((2 ^ (f.size.toNat - 1) : Nat) : Int) = (2 : Int) ^ (f.size.toNat - 1) := by simp
  have a5 : IntKind.i64.wrap (1 * 2 ^ (f.size.toNat - 1)) = ((2 ^ (f.size.toNat - 1) : Nat) : Int) := by rw [Int.one_mul, ← pq]; exact wrap_in (by omega) (by omega)
  unfold rawI
  cases hs : f.sgn with
  | false =>
    rw [if_neg (by rintro ⟨h, _⟩; cases h)]
    (have hg : (987654321 : Nat) - 987654321 = 0 := rfl; have hr := hg; repeat' (first | refine aw_seq ?_ | (refine aw_skip ?_; try simp only [thenQ, blockQ, if_true, if_false, Nat.reduceEqDiff, reduceCtorEq]) | (refine aw_exit ?_; try simp only [thenQ, blockQ, if_true, if_false, Nat.reduceEqDiff, reduceCtorEq]) | refine aw_ret ?_ | refine aw_block ?_ | refine aw_condT rfl ?_ | refine aw_condF rfl ?_ | ((first | refine aw_region ?_ | refine ago_if (by omega) ?_ | skip); simp (config := {maxSteps := 10000000}) (disch := first | exact okYes (by kernel_rfl) | omega) only [thenQ, List.map, dI, List.length, Nat.zero_add, Nat.reduceAdd, Nat.reduceMul, envOf, dB, ARun_none, AOpRun, aexec, D.isBot, FSt.ev, St.F, ↓eget_h, Bool.false_eq_true, Option.isSome, hget_n, or_self, ↓reduceIte, D.cells, AGo_ok, St.app, putO, eput_c, Nat.reduceBEq, eput_n, cond_false, hups, hput_n, ARun_nil, dropE_c, inL_n, dropE_n, eget_c, Option.map, run1, hget_c, beq_self_eq_true, cond_true, List.getElem?_cons_zero, p2, ints_all, and_self, opt1, g1, List.getElem?_cons_succ, c1, isSh, ash, b1, e1, a0, c2, p0, e3, a1, abin, a2, a3, a4, inL_c, ARun_some, AG_ft])))
    all_goals (refine end_to [] [] (by first | exact .inl rfl | exact .inr rfl) rfl (by kernel_rfl) (by kernel_rfl) (by kernel_rfl) ?_ ?_ <;> repeat' (first | exact trivial | exact vr_val _))
  | true =>
    by_cases hh : 2 ^ (f.size.toNat - 1) ≤ rawU f x
    · have q : decide (((rawU f x : Nat) : Int) ≥ ((2 ^ (f.size.toNat - 1) : Nat) : Int)) = true := decide_eq_true (by omega)
      rw [if_pos ⟨rfl, hh⟩]
      have a6 : IntKind.i64.wrap (((rawU f x : Nat) : Int) - ((2 ^ f.size.toNat : Nat) : Int)) = ((rawU f x : Nat) : Int) - 2 ^ f.size.toNat := by rw [← pp]; exact wrap_in (by omega) (by omega)
      (have hg : (987654321 : Nat) - 987654321 = 0 := rfl; have hr := hg; repeat' (first | refine aw_seq ?_ | (refine aw_skip ?_; try simp only [thenQ, blockQ, if_true, if_false, Nat.reduceEqDiff, reduceCtorEq]) | (refine aw_exit ?_; try simp only [thenQ, blockQ, if_true, if_false, Nat.reduceEqDiff, reduceCtorEq]) | refine aw_ret ?_ | refine aw_block ?_ | refine aw_condT rfl ?_ | refine aw_condF rfl ?_ | ((first | refine aw_region ?_ | refine ago_if (by omega) ?_ | skip); simp (config := {maxSteps := 10000000}) (disch := first | exact okYes (by kernel_rfl) | omega) only [thenQ, List.map, dI, List.length, Nat.zero_add, Nat.reduceAdd, Nat.reduceMul, envOf, dB, ARun_none, AOpRun, aexec, D.isBot, FSt.ev, St.F, ↓eget_h, Bool.false_eq_true, Option.isSome, hget_n, or_self, ↓reduceIte, D.cells, AGo_ok, St.app, putO, eput_c, Nat.reduceBEq, eput_n, cond_false, hups, hput_n, ARun_nil, dropE_c, inL_n, dropE_n, eget_c, Option.map, run1, hget_c, beq_self_eq_true, cond_true, List.getElem?_cons_zero, p2, ints_all, and_self, opt1, g1, List.getElem?_cons_succ, c1, isSh, ash, b1, e1, a0, c2, p0, e3, a1, abin, a2, a3, a4, inL_c, ARun_some, AG_tt, fits, c3, p1, e2, a5, q, a6])))
      all_goals (refine end_to [] [] (by first | exact .inl rfl | exact .inr rfl) rfl (by kernel_rfl) (by kernel_rfl) (by kernel_rfl) ?_ ?_ <;> repeat' (first | exact trivial | exact vr_val _))
    · have q : decide (((rawU f x : Nat) : Int) ≥ ((2 ^ (f.size.toNat - 1) : Nat) : Int)) = false := decide_eq_false (by omega)
      rw [if_neg (by rintro ⟨_, h⟩; exact hh h)]
      (have hg : (987654321 : Nat) - 987654321 = 0 := rfl; have hr := hg; repeat' (first | refine aw_seq ?_ | (refine aw_skip ?_; try simp only [thenQ, blockQ, if_true, if_false, Nat.reduceEqDiff, reduceCtorEq]) | (refine aw_exit ?_; try simp only [thenQ, blockQ, if_true, if_false, Nat.reduceEqDiff, reduceCtorEq]) | refine aw_ret ?_ | refine aw_block ?_ | refine aw_condT rfl ?_ | refine aw_condF rfl ?_ | ((first | refine aw_region ?_ | refine ago_if (by omega) ?_ | skip); simp (config := {maxSteps := 10000000}) (disch := first | exact okYes (by kernel_rfl) | omega) only [thenQ, List.map, dI, List.length, Nat.zero_add, Nat.reduceAdd, Nat.reduceMul, envOf, dB, ARun_none, AOpRun, aexec, D.isBot, FSt.ev, St.F, ↓eget_h, Bool.false_eq_true, Option.isSome, hget_n, or_self, ↓reduceIte, D.cells, AGo_ok, St.app, putO, eput_c, Nat.reduceBEq, eput_n, cond_false, hups, hput_n, ARun_nil, dropE_c, inL_n, dropE_n, eget_c, Option.map, run1, hget_c, beq_self_eq_true, cond_true, List.getElem?_cons_zero, p2, ints_all, and_self, opt1, g1, List.getElem?_cons_succ, c1, isSh, ash, b1, e1, a0, c2, p0, e3, a1, abin, a2, a3, a4, inL_c, ARun_some, AG_tt, fits, c3, p1, e2, a5, q])))
      all_goals (refine end_to [] [] (by first | exact .inl rfl | exact .inr rfl) rfl (by kernel_rfl) (by kernel_rfl) (by kernel_rfl) ?_ ?_ <;> repeat' (first | exact trivial | exact vr_val _))
/-- the parts of a sample -/
theorem smp_parts {l : Lay} {f : Fl} {fr : List Int} (hf : FOk l.words f) (hs : 0 ≤ subF l fr) : ∃ x : Nat, f.word.toNat < fr.length ∧ fr[f.word.toNat]?.getD 0 = (x : Int) ∧ x < 4096 ∧ (inSub f (subF l fr) → smp l f fr = some (valI f (rawI f x))) := by
  obtain ⟨hfl, hfa⟩ := subF_ok hs
  have w1 := hf.w1
  have w2 := hf.w2
  have hwl : f.word.toNat < fr.length := by omega
  have h4 : wOk (fr[f.word.toNat]?.getD 0) = true := by
    rw [List.getElem?_eq_getElem hwl]
    exact List.all_eq_true.1 hfa _ (List.getElem_mem hwl)
  have h5 : 0 ≤ fr[f.word.toNat]?.getD 0 ∧ fr[f.word.toNat]?.getD 0 ≤ 4095 := by unfold wOk at h4; simpa using h4
  exact ⟨(fr[f.word.toNat]?.getD 0).toNat, hwl, (Int.toNat_of_nonneg h5.1).symm, by omega, fun h => if_pos ⟨hs, h⟩⟩
set_option maxRecDepth 100000 in
set_option maxHeartbeats 4000000 in
theorem rsample_ac (l : Lay) (f : Fl) (fr : List Int) (hw : 2 ≤ l.words) (hf : FOk l.words f) (hl : fr.length ≤ maxLen) : AC Try.prog 108 [layD l, flD f, .list (ints fr)] [] [] (.tup [dI ((smp l f fr).getD 0), dB (smp l f fr).isSome]) := by
  refine kref12_sample.ac (n0 := 0) (by simp) ⟨in_layD _ _, in_flD _ _, .list _, trivial⟩ trivial rfl ?_
  unfold cref12_sample
  have sf := subf_ac l fr hw hl
  have ev : f.every ≠ 0 := by rcases hf.ev with h | h | h <;> omega
  have sb := subF_bd l fr
  by_cases hs : 0 ≤ subF l fr
  case neg =>
    have q : decide (subF l fr < 0) = true := decide_eq_true (by omega)
    rw [show smp l f fr = none from if_neg fun h => hs h.1]
    unfold layD layC flD flC at *
    (have hg : (987654321 : Nat) - 987654321 = 0 := rfl; have hr := hg; repeat' (first | refine aw_seq ?_ | (refine aw_skip ?_; try simp only [thenQ, blockQ, if_true, if_false, Nat.reduceEqDiff, reduceCtorEq]) | (refine aw_exit ?_; try simp only [thenQ, blockQ, if_true, if_false, Nat.reduceEqDiff, reduceCtorEq]) | refine aw_ret ?_ | refine aw_block ?_ | refine aw_condT rfl ?_ | refine aw_condF rfl ?_ | ((first | refine aw_region ?_ | refine acall0 (sf) ?_ | refine ago_if (by omega) ?_ | skip); simp (config := {maxSteps := 10000000}) (disch := first | exact okYes (by kernel_rfl) | omega) only [thenQ, List.map, dI, dB, Option.isSome, List.length, Nat.zero_add, Nat.reduceAdd, Nat.reduceMul, envOf, ARun_none, AOpRun, aexec, D.isBot, FSt.ev, St.F, ↓eget_h, Bool.false_eq_true, hget_n, or_self, ↓reduceIte, D.cells, AGo_ok, St.app, putO, eput_c, Nat.reduceBEq, eput_n, cond_false, hups, hput_n, eget_c, hget_c, hput_c, ARun_nil, dropE_c, inL_n, dropE_n, beq_self_eq_true, cond_true, Nat.reduceLeDiff, List.drop, List.take, inL_c, isSh, Option.map, abin, q, ARun_some, AG_tf])))
    all_goals (refine end_to [] [] (by first | exact .inl rfl | exact .inr rfl) rfl (by kernel_rfl) (by kernel_rfl) (by kernel_rfl) ?_ ?_ <;> repeat' (first | exact trivial | exact vr_val _ | apply vr_tup | apply And.intro))
  obtain ⟨x, x1, x2, x3, x4⟩ := smp_parts hf hs
  have q : decide (subF l fr < 0) = false := decide_eq_false (by omega)
  by_cases hin : inSub f (subF l fr)
  case neg =>
    have q2 : ((subF l fr).tmod f.every != f.phase) = true := by simp only [bne_iff_ne, ne_eq]; exact hin
    rw [show smp l f fr = none from if_neg fun h => hin h.2]
    unfold layD layC flD flC at *
    (have hg : (987654321 : Nat) - 987654321 = 0 := rfl; have hr := hg; repeat' (first | refine aw_seq ?_ | (refine aw_skip ?_; try simp only [thenQ, blockQ, if_true, if_false, Nat.reduceEqDiff, reduceCtorEq]) | (refine aw_exit ?_; try simp only [thenQ, blockQ, if_true, if_false, Nat.reduceEqDiff, reduceCtorEq]) | refine aw_ret ?_ | refine aw_block ?_ | refine aw_condT rfl ?_ | refine aw_condF rfl ?_ | ((first | refine aw_region ?_ | refine acall0 (sf) ?_ | refine ago_if (by omega) ?_ | skip); simp (config := {maxSteps := 10000000}) (disch := first | exact okYes (by kernel_rfl) | omega) only [thenQ, List.map, dI, dB, Option.isSome, List.length, Nat.zero_add, Nat.reduceAdd, Nat.reduceMul, envOf, ARun_none, AOpRun, aexec, D.isBot, FSt.ev, St.F, ↓eget_h, Bool.false_eq_true, hget_n, or_self, ↓reduceIte, D.cells, AGo_ok, St.app, putO, eput_c, Nat.reduceBEq, eput_n, cond_false, hups, hput_n, eget_c, hget_c, hput_c, ARun_nil, dropE_c, inL_n, dropE_n, beq_self_eq_true, cond_true, Nat.reduceLeDiff, List.drop, List.take, inL_c, isSh, Option.map, abin, q, ARun_some, AG_ff, run1, ↓hget_h, List.getElem?_cons_succ, List.getElem?_cons_zero, ev, q2])))
    all_goals (refine end_to [] [] (by first | exact .inl rfl | exact .inr rfl) rfl (by kernel_rfl) (by kernel_rfl) (by kernel_rfl) ?_ ?_ <;> repeat' (first | exact trivial | exact vr_val _ | apply vr_tup | apply And.intro))
  have q2 : ((subF l fr).tmod f.every != f.phase) = false := by simp only [bne_eq_false_iff_eq]; exact hin
  have rr := rraw_ac hf fr x x1 x2 x3
  rw [x4 hin]
  have m1 := mulB hf.a1 hf.a2 (by have := hf.d1; omega : -(1000 : Int) ≤ f.den) hf.d2
  have rb := rawI_bd hf x
  have m2 := mulB rb.1 rb.2 hf.n1 hf.n2
  have e1 : IntKind.i64.wrap (f.add * f.den) = f.add * f.den := wrap_in (by omega) (by omega)
  have e2 : IntKind.i64.wrap (rawI f x * f.num) = rawI f x * f.num := wrap_in (by omega) (by omega)
  have e3 : IntKind.i64.wrap (f.add * f.den + rawI f x * f.num) = valI f (rawI f x) := wrap_in (by omega) (by omega)
  simp only [Option.getD_some, Option.isSome_some]
  unfold layD layC flD flC at *
  generalize rawI f x = rw at *
  (have hg : (987654321 : Nat) - 987654321 = 0 := rfl; have hr := hg; repeat' (first | refine aw_seq ?_ | (refine aw_skip ?_; try simp only [thenQ, blockQ, if_true, if_false, Nat.reduceEqDiff, reduceCtorEq]) | (refine aw_exit ?_; try simp only [thenQ, blockQ, if_true, if_false, Nat.reduceEqDiff, reduceCtorEq]) | refine aw_ret ?_ | refine aw_block ?_ | refine aw_condT rfl ?_ | refine aw_condF rfl ?_ | ((first | refine aw_region ?_ | refine acall0 (sf) ?_ | refine acall0 (rr) ?_ | refine ago_if (by omega) ?_ | skip); simp (config := {maxSteps := 10000000}) (disch := first | exact okYes (by kernel_rfl) | omega) only [thenQ, List.map, dI, dB, List.length, Nat.zero_add, Nat.reduceAdd, Nat.reduceMul, envOf, ARun_none, AOpRun, aexec, D.isBot, FSt.ev, St.F, ↓eget_h, Bool.false_eq_true, Option.isSome, hget_n, or_self, ↓reduceIte, D.cells, AGo_ok, St.app, putO, eput_c, Nat.reduceBEq, eput_n, cond_false, hups, hput_n, eget_c, hget_c, hput_c, ARun_nil, dropE_c, inL_n, dropE_n, beq_self_eq_true, cond_true, Nat.reduceLeDiff, List.drop, List.take, inL_c, isSh, Option.map, abin, q, ARun_some, AG_ff, run1, ↓hget_h, List.getElem?_cons_succ, List.getElem?_cons_zero, ev, q2, e1, e2, e3])))
  all_goals (refine end_to [] [] (by first | exact .inl rfl | exact .inr rfl) rfl (by kernel_rfl) (by kernel_rfl) (by kernel_rfl) ?_ ?_ <;> repeat' (first | exact trivial | exact vr_val _ | apply vr_tup | apply And.intro))
set_option maxRecDepth 100000 in
set_option maxHeartbeats 4000000 in
theorem rsamples_ac (l : Lay) (frs : List (List Int)) (n : Nat) (h1 : LayOk l) (h2 : frs.length ≤ 200) (hf : FrIn frs) (hn : n < l.fl.length) : AC Try.prog 62 [layD l, .list (rows frs), dI n] [] [] (.list (sps (smps l (fAt l n) frs frs.length))) := by
  refine kref12_Samples.ac (n0 := 0) (by simp) ⟨in_layD _ _, .list _, .val _, trivial⟩ trivial rfl ?_
  unfold cref12_Samples
  have rs := fun k => rsample_ac l (fAt l n) (frm frs k) h1.w1 (fAt_ok h1 hn) (hf.m k)
  have nf := h1.nf
  have g0 : (fls l.fl)[n]? = some (flC (fAt l n)) := fls_gd l.fl n hn
  have ni : (n : Int) < (l.fl.length : Int) := by omega
  have fa := fls_all l.fl
  have fl := fls_len l.fl
  generalize fAt l n = f at *
  unfold layD layC flD flC at *
  refine aw_seq (aw_region ?_)
  simp (config := {maxSteps := 10000000}) (disch := first | exact okYes (by kernel_rfl) | omega) only [thenQ, List.map, List.length, Nat.zero_add, Nat.reduceAdd, Nat.reduceMul, envOf, dI, ARun_none, AOpRun, aexec, D.isBot, FSt.ev, St.F, ↓eget_h, Bool.false_eq_true, Option.isSome, hget_n, or_self, ↓reduceIte, D.cells, AGo_ok, St.app, putO, eput_c, Nat.reduceBEq, eput_n, cond_false, hups, hput_n, ARun_nil, dropE_c, inL_n, dropE_n]
  refine aw_seq (aw_region ?_)
  simp (config := {maxSteps := 10000000}) (disch := first | exact okYes (by kernel_rfl) | omega) only [thenQ, List.length, Nat.zero_add, Nat.reduceMul, Nat.reduceAdd, ARun_none, AOpRun, aexec, FSt.ev, AGo_ok, St.app, putO, eput_c, Nat.reduceBEq, eput_n, cond_false, hups, List.map, ARun_nil, dropE_c, inL_n, dropE_n]
  refine aw_seq (aw_seq (aw_region ?_))
  simp (config := {maxSteps := 10000000}) (disch := first | exact okYes (by kernel_rfl) | omega) only [thenQ, List.length, Nat.zero_add, Nat.reduceMul, Nat.reduceAdd, ARun_none, AOpRun, aexec, FSt.ev, AGo_ok, St.app, putO, eput_c, Nat.reduceBEq, eput_n, cond_false, hups, List.map, ARun_nil, dropE_c, inL_n, dropE_n]
  refine aw_block (aw_loop (fun k : Nat => ⟨[(1, .list (rows frs)), (2, dI n), (3, .ptr 0 0), (7, .vec 40 (smps l f frs k).length 2), (8, dI k)], [(0, [dI l.words, dI l.s0, dI l.s1, dI l.s2, dI l.s3, .list (fls l.fl)]), (40, scells (smps l f frs k))], 400⟩) (fun k => k ≤ frs.length) (fun k => frs.length - k) ⟨0, by omega, ?_⟩ ?_)
  · show Wk _ _ ⟨[_, _, _, (7, .vec 40 0 2), _], [_, (40, [])], _⟩
    unfold dI
    refine wk_to [] [(0, 0), (40, 900)] (by kernel_rfl) (by kernel_rfl) (by kernel_rfl) (by kernel_rfl) (by kernel_rfl) ?_ ?_ <;> repeat' (first | exact trivial | exact vr_val _ | exact vr_list _ | exact vr_ptr _ _ _ rfl | exact vr_nilv _ _ _ rfl | refine And.intro ⟨_, rfl, .inl ⟨_, rfl, by decide, ?_⟩⟩ ?_ | refine And.intro ⟨_, rfl, .inr ⟨rfl, rfl, of_decide_eq_true (by kernel_rfl)⟩⟩ ?_ | apply And.intro)
  intro k hk
  have hgl := smps_len l f frs k
  by_cases hk2 : k < frs.length
  case neg =>
    obtain rfl : k = frs.length := by omega
    generalize smps l f frs frs.length = L at *
    (have hg : (987654321 : Nat) - 987654321 = 0 := rfl; have hr := hg; repeat' (first | refine aw_seq ?_ | (refine aw_skip ?_; try simp only [thenQ, blockQ, if_true, if_false, Nat.reduceEqDiff, reduceCtorEq]) | (refine aw_exit ?_; try simp only [thenQ, blockQ, if_true, if_false, Nat.reduceEqDiff, reduceCtorEq]) | refine aw_ret ?_ | refine aw_block ?_ | refine aw_condT rfl ?_ | refine aw_condF rfl ?_ | (refine aw_cond rfl (fun hg => ?_) (fun hg => ?_) <;> (try (have hq := hg; simp only [Bool.not_eq_true', Bool.not_eq_false', Bool.and_eq_true, Bool.and_eq_false_iff, Bool.or_eq_true, Bool.or_eq_false_iff, decide_eq_true_eq, decide_eq_false_iff_not, bne_iff_ne, beq_iff_eq, beq_eq_false_iff_ne, bne_eq_false_iff_eq, ne_eq, Int.not_lt, Int.not_le, Decidable.not_not] at hq)) <;> (try (have hr := hg; simp only [decide_eq_true_eq, decide_eq_false_iff_not] at hr)) <;> (try (exfalso; omega))) | ((first | refine aw_region ?_ | refine ago_if (by omega) ?_ | skip); simp (config := {maxSteps := 10000000}) (disch := first | exact okYes (by kernel_rfl) | omega) only [thenQ, dI, List.length, Nat.zero_add, Nat.reduceAdd, Nat.reduceMul, ARun_none, AOpRun, aexec, FSt.ev, St.F, eget_c, Nat.reduceBEq, ↓eget_h, cond_false, AGo_ok, St.app, putO, eput_c, eput_n, hups, List.map, rows_len, isSh, Bool.false_eq_true, ↓reduceIte, Option.map, abin, ARun_nil, dropE_c, inL_c, inL_n, beq_self_eq_true, cond_true, dropE_n, hr, decide_false])))
    refine end_to [40] [] (by first | exact .inl rfl | exact .inr rfl) rfl (by kernel_rfl) (by kernel_rfl) (by kernel_rfl) ?_ ?_ <;> repeat' (first | exact trivial | refine vr_fl _ _ _ _ _ (by decide) rfl ?_ ?_ ?_ ?_)
    all_goals first | exact sps_two _ | exact sps_len _ | exact sps_flat _ | exact scells_in _
  have g1 := rows_gd frs k hk2
  rw [show frs[k]?.getD [] = frm frs k from rfl] at g1
  have sf := rs k
  have e := smps_succ l f frs k
  cases hs : smp l f (frm frs k) with
  | some v =>
    rw [hs] at sf e
    simp only [Option.getD_some, Option.isSome_some] at sf e
    have hic : (scells (smps l f frs k)).length = (smps l f frs k).length * 2 := scells_len _
    have hit : (scells (smps l f frs k)).take ((smps l f frs k).length * 2) = scells (smps l f frs k) := sc_all _
    have hlen : (smps l f frs (k + 1)).length = (smps l f frs k).length + 1 := by rw [e]; simp
    have e2 : scells (smps l f frs (k + 1)) = scells (smps l f frs k) ++ [.val (.int .i64 (k : Int)), .val (.int .i64 v)] := by rw [e]; exact (sc_snoc _ ((k : Int), v)).symm
    have hcin : ∀ y ∈ scells (smps l f frs k) ++ [.val (.int .i64 (k : Int)), .val (.int .i64 v)], In (fun _ => False) y := by rw [← e2]; exact scells_in _
    generalize hL : smps l f frs k = L at *
    (have hg : (987654321 : Nat) - 987654321 = 0 := rfl; have hr := hg; repeat' (first | refine aw_seq ?_ | (refine aw_skip ?_; try simp only [thenQ, blockQ, if_true, if_false, Nat.reduceEqDiff, reduceCtorEq]) | (refine aw_exit ?_; try simp only [thenQ, blockQ, if_true, if_false, Nat.reduceEqDiff, reduceCtorEq]) | refine aw_ret ?_ | refine aw_block ?_ | refine aw_condT rfl ?_ | refine aw_condF rfl ?_ | (refine aw_cond rfl (fun hg => ?_) (fun hg => ?_) <;> (try (have hq := hg; simp only [Bool.not_eq_true', Bool.not_eq_false', Bool.and_eq_true, Bool.and_eq_false_iff, Bool.or_eq_true, Bool.or_eq_false_iff, decide_eq_true_eq, decide_eq_false_iff_not, bne_iff_ne, beq_iff_eq, beq_eq_false_iff_ne, bne_eq_false_iff_eq, ne_eq, Int.not_lt, Int.not_le, Decidable.not_not] at hq)) <;> (try (have hr := hg; simp only [decide_eq_true_eq, decide_eq_false_iff_not] at hr)) <;> (try (exfalso; omega))) | ((first | refine aw_region ?_ | refine acall0 (sf) ?_ | refine ago_if (by omega) ?_ | skip); simp (config := {maxSteps := 10000000}) (disch := first | exact okYes (by kernel_rfl) | omega) only [thenQ, dI, List.length, Nat.zero_add, Nat.reduceAdd, Nat.reduceMul, ARun_none, AOpRun, aexec, FSt.ev, St.F, eget_c, Nat.reduceBEq, ↓eget_h, cond_false, AGo_ok, St.app, putO, eput_c, eput_n, hups, List.map, rows_len, isSh, Bool.false_eq_true, ↓reduceIte, Option.map, abin, ARun_nil, dropE_c, inL_c, inL_n, beq_self_eq_true, cond_true, dropE_n, hr, decide_true, hget_c, hget_n, Nat.le_refl, List.drop, List.take, run1, List.getElem?_cons_succ, List.getElem?_cons_zero, Int.natCast_nonneg, fa, and_self, opt1, Int.toNat_natCast, g0, dB, rows_all, g1, blockQ, fillD, D.isBot, D.cells, ne_eq, not_true_eq_false, Nat.reduceGT, or_self, splice, List.nil_append, List.cons_append, List.append_nil, Option.isSome, hput_c, hput_n, base, ↓hget_h, hic, hit, elems, List.all, D.leaf, Bool.and_true, and_true, ups, hdel_c, hdel_n, fits])))
    refine ⟨k + 1, by omega, by omega, ?_⟩
    rw [e2, hlen]
    refine wk_to [] [(0, 0), (40, 608)] (by kernel_rfl) (by kernel_rfl) (by kernel_rfl) (by kernel_rfl) (by kernel_rfl) ?_ ?_ <;> repeat' (first | exact trivial | exact vr_val _ | exact vr_list _ | exact vr_vec _ _ _ _ rfl | exact vr_ptr _ _ _ rfl | refine And.intro ⟨_, rfl, .inl ⟨_, rfl, by decide, ?_⟩⟩ ?_ | apply And.intro | exact vrl_flat _ (by first | exact icells_in _ | exact rcells_in _ | exact scells_in _ | exact bcells_in _ | assumption) | fail)
  | none =>
    rw [hs] at sf e
    simp only [Option.getD_none, Option.isSome_none, List.append_nil] at sf e
    (have hg : (987654321 : Nat) - 987654321 = 0 := rfl; have hr := hg; repeat' (first | refine aw_seq ?_ | (refine aw_skip ?_; try simp only [thenQ, blockQ, if_true, if_false, Nat.reduceEqDiff, reduceCtorEq]) | (refine aw_exit ?_; try simp only [thenQ, blockQ, if_true, if_false, Nat.reduceEqDiff, reduceCtorEq]) | refine aw_ret ?_ | refine aw_block ?_ | refine aw_condT rfl ?_ | refine aw_condF rfl ?_ | (refine aw_cond rfl (fun hg => ?_) (fun hg => ?_) <;> (try (have hq := hg; simp only [Bool.not_eq_true', Bool.not_eq_false', Bool.and_eq_true, Bool.and_eq_false_iff, Bool.or_eq_true, Bool.or_eq_false_iff, decide_eq_true_eq, decide_eq_false_iff_not, bne_iff_ne, beq_iff_eq, beq_eq_false_iff_ne, bne_eq_false_iff_eq, ne_eq, Int.not_lt, Int.not_le, Decidable.not_not] at hq)) <;> (try (have hr := hg; simp only [decide_eq_true_eq, decide_eq_false_iff_not] at hr)) <;> (try (exfalso; omega))) | ((first | refine aw_region ?_ | refine acall0 (sf) ?_ | refine ago_if (by omega) ?_ | skip); simp (config := {maxSteps := 10000000}) (disch := first | exact okYes (by kernel_rfl) | omega) only [thenQ, dI, List.length, Nat.zero_add, Nat.reduceAdd, Nat.reduceMul, ARun_none, AOpRun, aexec, FSt.ev, St.F, eget_c, Nat.reduceBEq, ↓eget_h, cond_false, AGo_ok, St.app, putO, eput_c, eput_n, hups, List.map, rows_len, isSh, Bool.false_eq_true, ↓reduceIte, Option.map, abin, ARun_nil, dropE_c, inL_c, inL_n, beq_self_eq_true, cond_true, dropE_n, hr, decide_true, hget_c, hget_n, Nat.reduceLeDiff, List.drop, List.take, run1, List.getElem?_cons_succ, List.getElem?_cons_zero, Int.natCast_nonneg, fa, and_self, opt1, Int.toNat_natCast, g0, dB, rows_all, g1, fits])))
    refine ⟨k + 1, by omega, by omega, ?_⟩
    rw [e]
    refine wk_to [] [(0, 0), (40, 40)] (by kernel_rfl) (by kernel_rfl) (by kernel_rfl) (by kernel_rfl) (by kernel_rfl) ?_ ?_ <;> repeat' (first | exact trivial | exact vr_val _ | exact vr_list _ | exact vr_vec _ _ _ _ rfl | exact vr_ptr _ _ _ rfl | refine And.intro ⟨_, rfl, .inl ⟨_, rfl, by decide, ?_⟩⟩ ?_ | apply And.intro | exact vrl_flat _ (by first | exact icells_in _ | exact rcells_in _ | exact scells_in _ | exact bcells_in _ | assumption) | fail)
set_option maxRecDepth 100000 in
set_option maxHeartbeats 1000000 in
theorem rfield_ac (l : Lay) (n : Int) (hn : l.fl.length ≤ 1000) : AC Try.prog 56 [layD l, dI n] [] [] (dB (wI n 0 ((l.fl.length : Int) - 1))) := by
  refine kref12_field.ac (n0 := 0) (by simp) ⟨in_layD _ _, .val _, trivial⟩ trivial rfl ?_
  unfold cref12_field layD layC
  (have hg : (987654321 : Nat) - 987654321 = 0 := rfl; have hr := hg; repeat' (first | refine aw_seq ?_ | (refine aw_skip ?_; try simp only [thenQ, blockQ, if_true, if_false, Nat.reduceEqDiff, reduceCtorEq]) | (refine aw_exit ?_; try simp only [thenQ, blockQ, if_true, if_false, Nat.reduceEqDiff, reduceCtorEq]) | refine aw_ret ?_ | refine aw_block ?_ | refine aw_condT rfl ?_ | refine aw_condF rfl ?_ | ((first | refine aw_region ?_ | refine acall0 (from_ac _ _ _) ?_ | refine ago_if (by omega) ?_ | skip); simp (config := {maxSteps := 10000000}) (disch := first | exact okYes (by kernel_rfl) | omega) only [thenQ, List.map, dB, List.length, Nat.zero_add, Nat.reduceAdd, Nat.reduceMul, envOf, dI, ARun_none, AOpRun, aexec, D.isBot, FSt.ev, St.F, ↓eget_h, Bool.false_eq_true, Option.isSome, hget_n, or_self, ↓reduceIte, D.cells, AGo_ok, St.app, putO, eput_c, Nat.reduceBEq, eput_n, cond_false, hups, hput_n, ARun_nil, dropE_c, inL_n, dropE_n, eget_c, Option.map, run1, hget_c, beq_self_eq_true, cond_true, List.getElem?_cons_succ, List.getElem?_cons_zero, fls_len, isSh, abin, fits, inL_c])))
  all_goals (refine end_to [] [] (by first | exact .inl rfl | exact .inr rfl) rfl (by kernel_rfl) (by kernel_rfl) (by kernel_rfl) ?_ ?_ <;> repeat' (first | exact trivial | exact vr_val _))
end Go.Proofs.Ytgibbaadjbohdaa
